/- Parts of the proof (printed walks, lemmas of our own, contracts of the library laid for this program), merged into one text by wip/mclaim.py. Conditions: each theorem's own. -/
import Derived.Test.YtclnjlnpconjmaaDoorM1
import Derived.Test.YtclnjlnpconjmaaDoorM3
import Derived.Test.YtclnjlnpconjmaaDoorM4
import Derived.Test.YtclnjlnpconjmaaDoorM5
import Derived.Test.YtclnjlnpconjmaaDoorM2
import Derived.Test.YtclnjlnpconjmaaDoorM0
section
namespace Go.Proofs.YtclnjlnpconjmaaDoor.Pu
open Go.RowKit Go.Proofs.YtclnjlnpconjmaaDoor.P Go.Proofs.YtclnjlnpconjmaaDoorW.PrintWords Go.Proofs.YtclnjlnpconjmaaDoorW.PrintLast Go.Proofs.YtclnjlnpconjmaaDoorW.PrintMore
theorem rd_at (Z : List Int) (a : Int) (T : List Int) (i : Nat) (hZ : Z.length = i) : rd (Z ++ a :: T) (i : Int) = a := by
  subst hZ
  unfold rd
  rw [Int.toNat_natCast]
  simp
theorem rd_behind (Z : List Int) (a : Int) (T : List Int) (i s : Nat) (hs : 1 ≤ s) (hZ : Z.length = i) : rd (Z ++ a :: T) ((i : Int) + (s : Int)) = T.getD (s - 1) 0 := by
  subst hZ
  obtain ⟨s, rfl⟩ : ∃ t, s = t + 1 := ⟨s - 1, by omega⟩
  unfold rd
  rw [show (((Z.length : Nat) : Int) + ((s + 1 : Nat) : Int)).toNat = Z.length + (s + 1) by omega, List.getD_eq_getElem?_getD, List.getElem?_append_right (by omega)]
  rw [show Z.length + (s + 1) - Z.length = s + 1 by omega, List.getElem?_cons_succ, List.getD_eq_getElem?_getD]
  rfl
theorem set_at (Z : List Int) (a v : Int) (T : List Int) (i : Nat) (hZ : Z.length = i) : (Z ++ a :: T).set i v = Z ++ v :: T := by
  subst hZ
  simp
theorem fst_getD (tb : List (Int × Int)) (j : Nat) (h : j < tb.length) : (tb.map Prod.fst).getD j 0 = (tb.getD j (0, -1)).1 := by
  rw [List.getD_eq_getElem?_getD, List.getElem?_map, List.getElem?_eq_getElem h, getD_lt h]
  rfl
theorem snd_getD (tb : List (Int × Int)) (j : Nat) (h : j < tb.length) : (tb.map Prod.snd).getD j 0 = (tb.getD j (0, -1)).2 := by
  rw [List.getD_eq_getElem?_getD, List.getElem?_map, List.getElem?_eq_getElem h, getD_lt h]
  rfl
structure RowOk (L : List ByteArray) (keys : ByteArray) (i : Nat) (tb : List (Int × Int)) : Prop where
  len : tb.length = keys.size - i
  good : ∀ j (h : j < tb.length), ((0 < tb[j].1 ∧ 0 ≤ tb[j].2) ∨ tb[j] = (0, -1)) ∧ tb[j].1 ≤ 4000000000000000 ∧ tb[j].2 ≤ 20
theorem row_step {keys : ByteArray} {i : Nat} {tb : List (Int × Int)} {L : List ByteArray} (h : RowOk L keys i tb) (w : ByteArray) (hw : 1 ≤ w.size) (R : List ByteArray) (a b : Int) :
    rowf keys i tb (w :: R) a b = if okW keys i w = true ∧ 0 < (tb.getD (w.size - 1) (0, -1)).1 then
      rowf keys i tb R (a + (tb.getD (w.size - 1) (0, -1)).1) (if b < 0 ∨ (tb.getD (w.size - 1) (0, -1)).2 + 1 < b then (tb.getD (w.size - 1) (0, -1)).2 + 1 else b) else rowf keys i tb R a b := rfl
theorem wdTables_l1 (L : List ByteArray) (hd : dictB L = true) (keys : ByteArray) (hk : keys.size ≤ 20) (i : Nat) (hi : i < keys.size) (tb : List (Int × Int)) (hT : RowOk L keys i tb) (Z Z' : List Int) (hZ : Z.length = i) (hZ' : Z'.length = i) (r : List Int × List Int)
    (hr : Ev (fun k => spec_wdTables.l0 k L keys (Z ++ (rowf keys i tb L 0 (-1)).1 :: tb.map Prod.fst) (Z' ++ (rowf keys i tb L 0 (-1)).2 :: tb.map Prod.snd) ((i : Int) - 1)) r) (hB : (rowf keys i tb L 0 (-1)).1 ≤ 4000000000000000) :
    ∀ (d t : Nat) (a b : Int), t + d = L.length → rowf keys i tb (L.drop t) a b = rowf keys i tb L 0 (-1) → 0 ≤ a → a ≤ 4000000000000000 → -1 ≤ b → b ≤ 21 →
      Ev (fun k => spec_wdTables.l1 k L keys (Z ++ a :: tb.map Prod.fst) (Z' ++ b :: tb.map Prod.snd) i L L.length t) r
  | 0, t, a, b, ht, he, ha0, ha1, hb0, hb1 => by
    obtain rfl : t = L.length := by omega
    rw [List.drop_length, rowf] at he
    rw [← he] at hr
    obtain ⟨K, hr⟩ := hr
    refine ev_from K fun k hk' => ?_
    have hr := hr k hk'
    dsimp only at hr
    simp only [spec_wdTables.l1]
    rw [if_neg (by omega), wr (by omega) (by omega)]
    exact hr
  | d + 1, t, a, b, ht, he, ha0, ha1, hb0, hb1 => by
    have hl := dict_length hd
    have hs := dict_short hd _ (rds_mem L t (by omega))
    have hz := short_size hs
    have hlen := hT.len
    generalize hw : rdOf ByteArray.empty L (t : Int) = w at *
    have he' := he
    rw [rds_drop L t (by omega), hw, row_step hT w hz.1] at he'
    have hks := keysN_size w
    obtain ⟨K0, e0⟩ := prKeys_ev w (by omega) (short_low hs)
    have hWl : (Z ++ a :: tb.map Prod.fst).length = keys.size + 1 := by rw [List.length_append, List.length_cons, List.length_map]; omega
    have hFl : (Z' ++ b :: tb.map Prod.snd).length = keys.size + 1 := by rw [List.length_append, List.length_cons, List.length_map]; omega
    by_cases hfit : i + w.size ≤ keys.size
    · have hj : w.size - 1 < tb.length := by omega
      by_cases heq : (keysN w).toList = (keys.extract i (i + w.size)).toList
      · have hok : okW keys i w = true := by
          unfold okW
          rw [decide_eq_true hfit, heq, beq_self_eq_true]
          rfl
        obtain ⟨hg, hg1, hg2⟩ := hT.good (w.size - 1) hj
        rw [getD_lt hj, hok] at he'
        have hrw : rd (Z ++ a :: tb.map Prod.fst) ((i : Int) + (w.size : Int)) = tb[w.size - 1].1 := by rw [rd_behind Z a _ i w.size hz.1 hZ, fst_getD tb _ hj, getD_lt hj]
        have hrf : rd (Z' ++ b :: tb.map Prod.snd) ((i : Int) + (w.size : Int)) = tb[w.size - 1].2 := by rw [rd_behind Z' b _ i w.size hz.1 hZ', snd_getD tb _ hj, getD_lt hj]
        generalize tb[w.size - 1] = p at *
        by_cases hp : 0 < p.1
        · rw [if_pos ⟨rfl, hp⟩] at he'
          have hmono := (rowf_good keys i tb 20 (by decide) (L.drop (t + 1)) (a + p.1) (if b < 0 ∨ p.2 + 1 < b then p.2 + 1 else b) (fun x hx hok => ⟨4000000000000000, by
            have hx' := short_size (dict_short hd x (List.mem_of_mem_drop hx))
            have := (okW_size hok).1
            have hjx : x.size - 1 < tb.length := by omega
            rw [getD_lt hjx]
            exact hT.good _ hjx⟩) (Or.inl ⟨by omega, by rcases hg with h | h
                                                        · split <;> omega
                                                        · rw [h] at hp; simp at hp⟩) (by split <;> omega)).2.2
          rw [he'] at hmono
          have hp2 : 0 ≤ p.2 := by
            rcases hg with h | h
            · exact h.2
            · rw [h] at hp; simp at hp
          obtain ⟨K1, e1⟩ := wdTables_l1 L hd keys hk i hi tb hT Z Z' hZ hZ' r hr hB d (t + 1) (a + p.1) (if b < 0 ∨ p.2 + 1 < b then p.2 + 1 else b) (by omega) he' (by omega) (by omega) (by split <;> omega) (by split <;> omega)
          refine ev_from (K0 + K1 + 1) fun k hk' => ?_
          obtain ⟨k, rfl⟩ : ∃ m, k = m + 1 := ⟨k - 1, by omega⟩
          have e0 := e0 (k + 1) (by omega)
          have e1 := e1 k (by omega)
          rw [show ((t + 1 : Nat) : Int) = (t : Int) + 1 from rfl] at e1
          dsimp only at e0 e1
          simp only [spec_wdTables.l1]
          rw [if_pos (by omega), if_pos (by omega), if_pos (by omega), hw, wr (x := (i : Int) + (w.size : Int)) (by omega) (by omega), if_neg (by omega), e0, bsome, if_pos (by omega), if_pos (by omega), if_pos (by omega), Int.toNat_natCast, show ((i : Int) + (w.size : Int)).toNat = i + w.size by omega, if_pos heq, if_pos (by omega), if_pos (by omega), hrw]
          simp only [spec_wdTables.j2]
          rw [if_neg (by rw [beq_eq_false_iff_ne.2 (show p.1 ≠ 0 by omega)]; simp), if_pos (by omega), if_pos (by omega), if_pos (by omega), if_pos (by omega), hrw, rd_at Z a _ i hZ, Int.toNat_natCast, set_at Z a _ _ i hZ, wr (x := a + p.1) (by omega) (by omega), bsome, if_pos (by omega), rd_at Z' b _ i hZ', hrf, wr (x := p.2 + 1) (by omega) (by omega), set_at Z' b _ _ i hZ', wr (x := (t : Int) + 1) (by omega) (by omega)]
          by_cases h1 : b < 0
          · rw [if_pos h1, if_pos (by omega)]
            rw [if_pos (Or.inl h1)] at e1
            exact e1
          · rw [if_neg h1, if_pos (by omega)]
            by_cases h2 : p.2 + 1 < b
            · rw [if_pos h2]
              rw [if_pos (Or.inr h2)] at e1
              exact e1
            · rw [if_neg h2]
              rw [if_neg (fun h => h.elim h1 h2)] at e1
              exact e1
        · rw [if_neg (fun h => hp h.2)] at he'
          have hp0 : p.1 = 0 := by
            rcases hg with h | h
            · exact absurd h.1 hp
            · rw [h]
          obtain ⟨K1, e1⟩ := wdTables_l1 L hd keys hk i hi tb hT Z Z' hZ hZ' r hr hB d (t + 1) a b (by omega) he' ha0 ha1 hb0 hb1
          refine ev_from (K0 + K1 + 1) fun k hk' => ?_
          obtain ⟨k, rfl⟩ : ∃ m, k = m + 1 := ⟨k - 1, by omega⟩
          have e0 := e0 (k + 1) (by omega)
          have e1 := e1 k (by omega)
          rw [show ((t + 1 : Nat) : Int) = (t : Int) + 1 from rfl] at e1
          dsimp only at e0 e1
          simp only [spec_wdTables.l1]
          rw [if_pos (by omega), if_pos (by omega), if_pos (by omega), hw, wr (x := (i : Int) + (w.size : Int)) (by omega) (by omega), if_neg (by omega), e0, bsome, if_pos (by omega), if_pos (by omega), if_pos (by omega), Int.toNat_natCast, show ((i : Int) + (w.size : Int)).toNat = i + w.size by omega, if_pos heq, if_pos (by omega), if_pos (by omega), hrw, hp0]
          simp only [spec_wdTables.j2]
          rw [if_pos (show ((0 : Int) == 0) = true from rfl), wr (by omega) (by omega)]
          exact e1
      · have hok : ¬ (okW keys i w = true ∧ 0 < (tb.getD (w.size - 1) (0, -1)).1) := by
          rintro ⟨h, _⟩
          unfold okW at h
          rw [Bool.and_eq_true, beq_iff_eq] at h
          exact heq h.2
        rw [if_neg hok] at he'
        obtain ⟨K1, e1⟩ := wdTables_l1 L hd keys hk i hi tb hT Z Z' hZ hZ' r hr hB d (t + 1) a b (by omega) he' ha0 ha1 hb0 hb1
        refine ev_from (K0 + K1 + 1) fun k hk' => ?_
        obtain ⟨k, rfl⟩ : ∃ m, k = m + 1 := ⟨k - 1, by omega⟩
        have e0 := e0 (k + 1) (by omega)
        have e1 := e1 k (by omega)
        rw [show ((t + 1 : Nat) : Int) = (t : Int) + 1 from rfl] at e1
        dsimp only at e0 e1
        simp only [spec_wdTables.l1]
        rw [if_pos (by omega), if_pos (by omega), if_pos (by omega), hw, wr (x := (i : Int) + (w.size : Int)) (by omega) (by omega), if_neg (by omega), e0, bsome, if_pos (by omega), if_pos (by omega), if_pos (by omega), Int.toNat_natCast, show ((i : Int) + (w.size : Int)).toNat = i + w.size by omega, if_neg heq]
        simp only [spec_wdTables.j2]
        rw [if_pos trivial, wr (by omega) (by omega)]
        exact e1
    · have hok : ¬ (okW keys i w = true ∧ 0 < (tb.getD (w.size - 1) (0, -1)).1) := fun h => hfit (okW_size h.1).1
      rw [if_neg hok] at he'
      obtain ⟨K1, e1⟩ := wdTables_l1 L hd keys hk i hi tb hT Z Z' hZ hZ' r hr hB d (t + 1) a b (by omega) he' ha0 ha1 hb0 hb1
      refine ev_from (K1 + 1) fun k hk' => ?_
      obtain ⟨k, rfl⟩ : ∃ m, k = m + 1 := ⟨k - 1, by omega⟩
      have e1 := e1 k (by omega)
      rw [show ((t + 1 : Nat) : Int) = (t : Int) + 1 from rfl] at e1
      dsimp only at e1
      simp only [spec_wdTables.l1]
      rw [if_pos (by omega), if_pos (by omega), if_pos (by omega), hw, wr (x := (i : Int) + (w.size : Int)) (by omega) (by omega), if_pos (by omega)]
      simp only [spec_wdTables.j2]
      rw [if_pos trivial, wr (by omega) (by omega)]
      exact e1
theorem pre_ok (keys : ByteArray) (i : Nat) (hi : i ≤ keys.size) (w : ByteArray) : Lib.hasPrefix (keys.extract i keys.size).data.toList (keysN w).data.toList = (decide (i + w.size ≤ keys.size) && ((keysN w).toList == (keys.extract i (i + w.size)).toList)) := by
  unfold Lib.hasPrefix
  rw [isPrefix_take, size_data, size_data, ByteArray.size_extract, keysN_size, Lib.toList_data, Lib.toList_data, ByteArray.data_extract, Array.toList_extract, List.extract_eq_take_drop, ByteArray.data_extract, Array.toList_extract, List.extract_eq_take_drop]
  have hn : Min.min keys.size keys.size = keys.size := Nat.min_self _
  rw [hn, decide_eq_decide.2 (show w.size ≤ keys.size - i ↔ i + w.size ≤ keys.size by omega)]
  by_cases h : i + w.size ≤ keys.size
  · rw [decide_eq_true h, Bool.true_and, Bool.true_and, List.take_take, Nat.min_eq_left (by omega), show i + w.size - i = w.size by omega]
    rw [Bool.eq_iff_iff, beq_iff_eq, beq_iff_eq]
    exact eq_comm
  · rw [decide_eq_false h, Bool.false_and, Bool.false_and]
theorem hasPre_is (s p : ByteArray) : strings_HasPrefix.f s p = some (Lib.hasPrefix s.data.toList p.data.toList) := by
  unfold strings_HasPrefix.f stringslite_HasPrefix.f Lib.hasPrefix
  rw [isPrefix_take, size_data, size_data]
  by_cases h : p.size ≤ s.size
  · rw [if_pos (by omega), if_pos (by omega), if_pos (by omega), bsome, decide_eq_true h, Bool.true_and, Int.toNat_natCast, Lib.toList_data, Lib.toList_data, ByteArray.data_extract, Array.toList_extract, List.extract_eq_take_drop, List.drop_zero, Nat.sub_zero]
  · rw [if_neg (by omega), bsome, decide_eq_false h, Bool.false_and]
theorem splits_l1 (L : List ByteArray) (hd : dictB L = true) (keys : ByteArray) (hk : keys.size ≤ 20) (i : Nat) (hi : i < keys.size) (tb : List (Int × Int)) (hT : RowOk L keys i tb) (Z Z' : List Int) (hZ : Z.length = i) (hZ' : Z'.length = i) (r : List Int × List Int)
    (hr : Ev (fun k => impl_splits.l0 k L keys (Z ++ (rowf keys i tb L 0 (-1)).1 :: tb.map Prod.fst) (Z' ++ (rowf keys i tb L 0 (-1)).2 :: tb.map Prod.snd) ((i : Int) - 1)) r) (hB : (rowf keys i tb L 0 (-1)).1 ≤ 4000000000000000) :
    ∀ (d t : Nat) (a b : Int), t + d = L.length → rowf keys i tb (L.drop t) a b = rowf keys i tb L 0 (-1) → 0 ≤ a → a ≤ 4000000000000000 → -1 ≤ b → b ≤ 21 →
      Ev (fun k => impl_splits.l1 k L keys (Z ++ a :: tb.map Prod.fst) (Z' ++ b :: tb.map Prod.snd) i L L.length t) r
  | 0, t, a, b, ht, he, ha0, ha1, hb0, hb1 => by
    obtain rfl : t = L.length := by omega
    rw [List.drop_length, rowf] at he
    rw [← he] at hr
    obtain ⟨K, hr⟩ := hr
    refine ev_from K fun k hk' => ?_
    have hr := hr k hk'
    dsimp only at hr
    simp only [impl_splits.l1]
    rw [if_neg (by omega), wr (by omega) (by omega)]
    exact hr
  | d + 1, t, a, b, ht, he, ha0, ha1, hb0, hb1 => by
    have hl := dict_length hd
    have hs := dict_short hd _ (rds_mem L t (by omega))
    have hz := short_size hs
    have hlen := hT.len
    generalize hw : rdOf ByteArray.empty L (t : Int) = w at *
    have he' := he
    rw [rds_drop L t (by omega), hw, row_step hT w hz.1] at he'
    have hks := keysN_size w
    obtain ⟨K0, e0⟩ := keysOf_ev w (by omega) (short_low hs)
    have hWl : (Z ++ a :: tb.map Prod.fst).length = keys.size + 1 := by rw [List.length_append, List.length_cons, List.length_map]; omega
    have hFl : (Z' ++ b :: tb.map Prod.snd).length = keys.size + 1 := by rw [List.length_append, List.length_cons, List.length_map]; omega
    by_cases hfit : i + w.size ≤ keys.size
    · have hj : w.size - 1 < tb.length := by omega
      by_cases heq : (keysN w).toList = (keys.extract i (i + w.size)).toList
      · have hpre : Lib.hasPrefix (keys.extract i keys.size).data.toList (keysN w).data.toList = true := by rw [pre_ok keys i (by omega) w, decide_eq_true hfit, heq, beq_self_eq_true]; rfl
        have hok : okW keys i w = true := by
          unfold okW
          rw [decide_eq_true hfit, heq, beq_self_eq_true]
          rfl
        obtain ⟨hg, hg1, hg2⟩ := hT.good (w.size - 1) hj
        rw [getD_lt hj, hok] at he'
        have hrw : rd (Z ++ a :: tb.map Prod.fst) ((i : Int) + (w.size : Int)) = tb[w.size - 1].1 := by rw [rd_behind Z a _ i w.size hz.1 hZ, fst_getD tb _ hj, getD_lt hj]
        have hrf : rd (Z' ++ b :: tb.map Prod.snd) ((i : Int) + (w.size : Int)) = tb[w.size - 1].2 := by rw [rd_behind Z' b _ i w.size hz.1 hZ', snd_getD tb _ hj, getD_lt hj]
        generalize tb[w.size - 1] = p at *
        by_cases hp : 0 < p.1
        · rw [if_pos ⟨rfl, hp⟩] at he'
          have hmono := (rowf_good keys i tb 20 (by decide) (L.drop (t + 1)) (a + p.1) (if b < 0 ∨ p.2 + 1 < b then p.2 + 1 else b) (fun x hx hok => ⟨4000000000000000, by
            have hx' := short_size (dict_short hd x (List.mem_of_mem_drop hx))
            have := (okW_size hok).1
            have hjx : x.size - 1 < tb.length := by omega
            rw [getD_lt hjx]
            exact hT.good _ hjx⟩) (Or.inl ⟨by omega, by rcases hg with h | h
                                                        · split <;> omega
                                                        · rw [h] at hp; simp at hp⟩) (by split <;> omega)).2.2
          rw [he'] at hmono
          have hp2 : 0 ≤ p.2 := by
            rcases hg with h | h
            · exact h.2
            · rw [h] at hp; simp at hp
          obtain ⟨K1, e1⟩ := splits_l1 L hd keys hk i hi tb hT Z Z' hZ hZ' r hr hB d (t + 1) (a + p.1) (if b < 0 ∨ p.2 + 1 < b then p.2 + 1 else b) (by omega) he' (by omega) (by omega) (by split <;> omega) (by split <;> omega)
          refine ev_from (K0 + K1 + 1) fun k hk' => ?_
          obtain ⟨k, rfl⟩ : ∃ m, k = m + 1 := ⟨k - 1, by omega⟩
          have e0 := e0 (k + 1) (by omega)
          have e1 := e1 k (by omega)
          rw [show ((t + 1 : Nat) : Int) = (t : Int) + 1 from rfl] at e1
          dsimp only at e0 e1
          simp only [impl_splits.l1]
          rw [if_pos (by omega), if_pos (by omega), if_pos (by omega), hw, if_pos (by omega), if_pos (by omega), Int.toNat_natCast, e0, bsome, hasPre_is, bsome, hpre, wr (x := (i : Int) + (w.size : Int)) (by omega) (by omega), if_pos rfl, if_pos (by omega), if_pos (by omega), hrf]
          simp only [impl_splits.j2]
          rw [if_pos (decide_eq_true hp2), if_pos (by omega), if_pos (by omega), if_pos (by omega), if_pos (by omega), hrw, rd_at Z a _ i hZ, Int.toNat_natCast, set_at Z a _ _ i hZ, wr (x := a + p.1) (by omega) (by omega), bsome, if_pos (by omega), rd_at Z' b _ i hZ', hrf, wr (x := p.2 + 1) (by omega) (by omega), set_at Z' b _ _ i hZ', wr (x := (t : Int) + 1) (by omega) (by omega)]
          by_cases h1 : b < 0
          · rw [if_pos h1, if_pos (by omega)]
            rw [if_pos (Or.inl h1)] at e1
            exact e1
          · rw [if_neg h1, if_pos (by omega)]
            by_cases h2 : p.2 + 1 < b
            · rw [if_pos h2]
              rw [if_pos (Or.inr h2)] at e1
              exact e1
            · rw [if_neg h2]
              rw [if_neg (fun h => h.elim h1 h2)] at e1
              exact e1
        · rw [if_neg (fun h => hp h.2)] at he'
          have hp1 : p.2 = -1 := by
            rcases hg with h | h
            · exact absurd h.1 hp
            · rw [h]
          obtain ⟨K1, e1⟩ := splits_l1 L hd keys hk i hi tb hT Z Z' hZ hZ' r hr hB d (t + 1) a b (by omega) he' ha0 ha1 hb0 hb1
          refine ev_from (K0 + K1 + 1) fun k hk' => ?_
          obtain ⟨k, rfl⟩ : ∃ m, k = m + 1 := ⟨k - 1, by omega⟩
          have e0 := e0 (k + 1) (by omega)
          have e1 := e1 k (by omega)
          rw [show ((t + 1 : Nat) : Int) = (t : Int) + 1 from rfl] at e1
          dsimp only at e0 e1
          simp only [impl_splits.l1]
          rw [if_pos (by omega), if_pos (by omega), if_pos (by omega), hw, if_pos (by omega), if_pos (by omega), Int.toNat_natCast, e0, bsome, hasPre_is, bsome, hpre, wr (x := (i : Int) + (w.size : Int)) (by omega) (by omega), if_pos rfl, if_pos (by omega), if_pos (by omega), hrf]
          simp only [impl_splits.j2]
          rw [if_neg (by rw [decide_eq_false (show ¬ p.2 ≥ 0 by rw [hp1]; decide)]; simp), wr (by omega) (by omega)]
          exact e1
      · have hpre : Lib.hasPrefix (keys.extract i keys.size).data.toList (keysN w).data.toList = false := by rw [pre_ok keys i (by omega) w, beq_eq_false_iff_ne.2 heq, Bool.and_false]
        have hok : ¬ (okW keys i w = true ∧ 0 < (tb.getD (w.size - 1) (0, -1)).1) := by
          rintro ⟨h, _⟩
          unfold okW at h
          rw [Bool.and_eq_true, beq_iff_eq] at h
          exact heq h.2
        rw [if_neg hok] at he'
        obtain ⟨K1, e1⟩ := splits_l1 L hd keys hk i hi tb hT Z Z' hZ hZ' r hr hB d (t + 1) a b (by omega) he' ha0 ha1 hb0 hb1
        refine ev_from (K0 + K1 + 1) fun k hk' => ?_
        obtain ⟨k, rfl⟩ : ∃ m, k = m + 1 := ⟨k - 1, by omega⟩
        have e0 := e0 (k + 1) (by omega)
        have e1 := e1 k (by omega)
        rw [show ((t + 1 : Nat) : Int) = (t : Int) + 1 from rfl] at e1
        dsimp only at e0 e1
        simp only [impl_splits.l1]
        rw [if_pos (by omega), if_pos (by omega), if_pos (by omega), hw, if_pos (by omega), if_pos (by omega), Int.toNat_natCast, e0, bsome, hasPre_is, bsome, hpre, wr (x := (i : Int) + (w.size : Int)) (by omega) (by omega), if_neg (by simp)]
        simp only [impl_splits.j2]
        rw [if_neg (by simp), wr (by omega) (by omega)]
        exact e1
    · have hok : ¬ (okW keys i w = true ∧ 0 < (tb.getD (w.size - 1) (0, -1)).1) := fun h => hfit (okW_size h.1).1
      have hpre : Lib.hasPrefix (keys.extract i keys.size).data.toList (keysN w).data.toList = false := by rw [pre_ok keys i (by omega) w, decide_eq_false hfit, Bool.false_and]
      rw [if_neg hok] at he'
      obtain ⟨K1, e1⟩ := splits_l1 L hd keys hk i hi tb hT Z Z' hZ hZ' r hr hB d (t + 1) a b (by omega) he' ha0 ha1 hb0 hb1
      refine ev_from (K0 + K1 + 1) fun k hk' => ?_
      obtain ⟨k, rfl⟩ : ∃ m, k = m + 1 := ⟨k - 1, by omega⟩
      have e0 := e0 (k + 1) (by omega)
      have e1 := e1 k (by omega)
      rw [show ((t + 1 : Nat) : Int) = (t : Int) + 1 from rfl] at e1
      dsimp only at e0 e1
      simp only [impl_splits.l1]
      rw [if_pos (by omega), if_pos (by omega), if_pos (by omega), hw, if_pos (by omega), if_pos (by omega), Int.toNat_natCast, e0, bsome, hasPre_is, bsome, hpre, wr (x := (i : Int) + (w.size : Int)) (by omega) (by omega), if_neg (by simp)]
      simp only [impl_splits.j2]
      rw [if_neg (by simp), wr (by omega) (by omega)]
      exact e1
theorem pow_small (m : Nat) (h : m ≤ 20) : (6 : Int) ^ m ≤ 4000000000000000 := by
  have h1 := six_mono m (20 - m)
  rw [show m + (20 - m) = 20 by omega] at h1
  have h2 : (6 : Int) ^ 20 = 3656158440062976 := by decide
  omega
theorem row_ok {L : List ByteArray} (hd : dictB L = true) (keys : ByteArray) (hk : keys.size ≤ 20) (m d : Nat) (h : m + (d + 1) = keys.size) : RowOk L keys d (tbl L keys m) := by
  refine ⟨by rw [tbl_length]; omega, fun j hj => ?_⟩
  obtain ⟨g1, g2, g3⟩ := tbl_good hd keys m (by omega) j hj
  exact ⟨g1, Int.le_trans g2 (pow_small _ (by omega)), by omega⟩
theorem row_small {L : List ByteArray} (hd : dictB L = true) (keys : ByteArray) (hk : keys.size ≤ 20) (m d : Nat) (h : m + (d + 1) = keys.size) : (rowf keys d (tbl L keys m) L 0 (-1)).1 ≤ 4000000000000000 := by
  have := (tbl_good hd keys (m + 1) (by omega) 0 (by rw [tbl_length]; omega)).2.1
  have e : (tbl L keys (m + 1))[0]'(by rw [tbl_length]; omega) = rowf keys (keys.size - (m + 1)) (tbl L keys m) L 0 (-1) := rfl
  rw [e, show keys.size - (m + 1) = d by omega] at this
  exact Int.le_trans this (pow_small _ (by omega))
theorem rep_last (d : Nat) (x : Int) (T : List Int) : List.replicate (d + 1) x ++ T = List.replicate d x ++ x :: T := by
  rw [List.replicate_succ', List.append_assoc, List.singleton_append]
theorem wdTables_l0 (L : List ByteArray) (hd : dictB L = true) (keys : ByteArray) (hk : keys.size ≤ 20) : ∀ (d m : Nat), m + d = keys.size →
    Ev (fun k => spec_wdTables.l0 k L keys (List.replicate d 0 ++ (tbl L keys m).map Prod.fst) (List.replicate d 0 ++ (tbl L keys m).map Prod.snd) ((d : Int) - 1)) ((tbl L keys keys.size).map Prod.fst, (tbl L keys keys.size).map Prod.snd)
  | 0, m, h => by
    obtain rfl : m = keys.size := by omega
    refine ev_from 0 fun k _ => ?_
    simp only [spec_wdTables.l0]
    rw [if_neg (by omega)]
    rfl
  | d + 1, m, h => by
    have hr := wdTables_l0 L hd keys hk d (m + 1) (by omega)
    rw [tbl, show keys.size - (m + 1) = d by omega, List.map_cons, List.map_cons] at hr
    have hl := dict_length hd
    have hT := row_ok hd keys hk m d h
    obtain ⟨K, e⟩ := wdTables_l1 L hd keys hk d (by omega) (tbl L keys m) hT (List.replicate d 0) (List.replicate d 0) (by simp) (by simp) _ hr (row_small hd keys hk m d h) L.length 0 0 (-1) (by omega) (by rw [List.drop_zero]) (by omega) (by omega) (by omega) (by omega)
    refine ev_from K fun k hk' => ?_
    have e := e k hk'
    dsimp only at e
    simp only [spec_wdTables.l0]
    rw [show ((d + 1 : Nat) : Int) - 1 = (d : Int) by omega, if_pos (by omega), if_pos (by omega), if_pos (by rw [List.length_append, List.length_replicate]; omega), Int.toNat_natCast, rep_last, rep_last, set_at _ _ _ _ d (by simp)]
    exact e
theorem wdTables_ev (L : List ByteArray) (hd : dictB L = true) (keys : ByteArray) (hk : keys.size ≤ 20) : Ev (fun k => spec_wdTables.f k L keys) ((tbl L keys keys.size).map Prod.fst, (tbl L keys keys.size).map Prod.snd) := by
  obtain ⟨K, e⟩ := wdTables_l0 L hd keys hk keys.size 0 (by omega)
  refine ⟨K, fun k hk' => ?_⟩
  have e := e k hk'
  dsimp only at e ⊢
  unfold spec_wdTables.f
  have hs : List.replicate (keys.size + 1) (0 : Int) = List.replicate keys.size 0 ++ 0 :: [] := by rw [← rep_last, List.append_nil]
  rw [wr (x := (keys.size : Int) + 1) (by omega) (by omega), if_pos (by omega), show ((keys.size : Int) + 1).toNat = keys.size + 1 by omega, if_pos (by omega), bsome, if_pos (by omega), if_pos (by rw [List.length_replicate]; omega), Int.toNat_natCast, hs, set_at _ _ _ _ keys.size (by simp), wr (by omega) (by omega)]
  exact e
theorem splits_l0 (L : List ByteArray) (hd : dictB L = true) (keys : ByteArray) (hk : keys.size ≤ 20) : ∀ (d m : Nat), m + d = keys.size →
    Ev (fun k => impl_splits.l0 k L keys (List.replicate d 0 ++ (tbl L keys m).map Prod.fst) (List.replicate d (-1) ++ (tbl L keys m).map Prod.snd) ((d : Int) - 1)) ((tbl L keys keys.size).map Prod.fst, (tbl L keys keys.size).map Prod.snd)
  | 0, m, h => by
    obtain rfl : m = keys.size := by omega
    refine ev_from 0 fun k _ => ?_
    simp only [impl_splits.l0]
    rw [if_neg (by omega)]
    rfl
  | d + 1, m, h => by
    have hr := splits_l0 L hd keys hk d (m + 1) (by omega)
    rw [tbl, show keys.size - (m + 1) = d by omega, List.map_cons, List.map_cons] at hr
    have hl := dict_length hd
    have hT := row_ok hd keys hk m d h
    obtain ⟨K, e⟩ := splits_l1 L hd keys hk d (by omega) (tbl L keys m) hT (List.replicate d 0) (List.replicate d (-1)) (by simp) (by simp) _ hr (row_small hd keys hk m d h) L.length 0 0 (-1) (by omega) (by rw [List.drop_zero]) (by omega) (by omega) (by omega) (by omega)
    refine ev_from K fun k hk' => ?_
    have e := e k hk'
    dsimp only at e
    simp only [impl_splits.l0]
    rw [show ((d + 1 : Nat) : Int) - 1 = (d : Int) by omega, if_pos (by omega), rep_last, rep_last]
    exact e
theorem splits_ev (L : List ByteArray) (hd : dictB L = true) (keys : ByteArray) (hk : keys.size ≤ 20) : Ev (fun k => impl_splits.f k L keys) ((tbl L keys keys.size).map Prod.fst, (tbl L keys keys.size).map Prod.snd) := by
  obtain ⟨K, e⟩ := splits_l0 L hd keys hk keys.size 0 (by omega)
  refine ⟨K, fun k hk' => ?_⟩
  have e := e k hk'
  dsimp only at e ⊢
  unfold impl_splits.f slices_Repeat_int_int.f
  have hs : List.replicate (keys.size + 1) (0 : Int) = List.replicate keys.size 0 ++ 0 :: [] := by rw [← rep_last, List.append_nil]
  have hs' : List.replicate (keys.size + 1) (-1 : Int) = List.replicate keys.size (-1) ++ (-1) :: [] := by rw [← rep_last, List.append_nil]
  have hrd : rd ([(-1)] : List Int) 0 = -1 := rfl
  rw [wr (x := (keys.size : Int) + 1) (by omega) (by omega), if_pos (by omega), show ((keys.size : Int) + 1).toNat = keys.size + 1 by omega, if_pos (by omega), bsome, if_pos (show ([(-1)] : List Int).length = 1 from rfl), if_pos (by omega), if_pos (by omega), hrd, bsome, if_pos (by omega), if_pos (by rw [List.length_replicate]; omega), if_pos (by rw [List.length_replicate]; omega), Int.toNat_natCast, hs, hs', set_at _ _ _ _ keys.size (by simp), set_at _ _ _ _ keys.size (by simp), wr (by omega) (by omega)]
  exact e
def headT (L : List ByteArray) (keys : ByteArray) : Int × Int := (tbl L keys keys.size).getD 0 (0, -1)
theorem head_good {L : List ByteArray} (hd : dictB L = true) (keys : ByteArray) : (0 < (headT L keys).1 ∧ 0 ≤ (headT L keys).2) ∨ headT L keys = (0, -1) := by
  have h0 : 0 < (tbl L keys keys.size).length := by rw [tbl_length]; omega
  unfold headT
  rw [getD_lt h0]
  exact (tbl_good hd keys keys.size (Nat.le_refl _) 0 h0).1
theorem head_fst (L : List ByteArray) (keys : ByteArray) : rd ((tbl L keys keys.size).map Prod.fst) 0 = (headT L keys).1 := fst_getD _ 0 (by rw [tbl_length]; omega)
theorem head_snd (L : List ByteArray) (keys : ByteArray) : rd ((tbl L keys keys.size).map Prod.snd) 0 = (headT L keys).2 := snd_getD _ 0 (by rw [tbl_length]; omega)
end Go.Proofs.YtclnjlnpconjmaaDoor.Pu
end

section
namespace Go.Proofs.YtclnjlnpconjmaaDoor.Pu
open Go.RowKit Go.Proofs.YtclnjlnpconjmaaDoor.P Go.Proofs.YtclnjlnpconjmaaDoorW.PrintWords Go.Proofs.YtclnjlnpconjmaaDoorW.PrintLast Go.Proofs.YtclnjlnpconjmaaDoorW.PrintMore
def entT (L : List ByteArray) (keys : ByteArray) (i : Nat) : Int × Int := (tbl L keys keys.size).getD i (0, -1)
theorem tbl_shift (L : List ByteArray) (keys : ByteArray) : ∀ (d m j : Nat), (tbl L keys (m + d)).getD (d + j) (0, -1) = (tbl L keys m).getD j (0, -1)
  | 0, m, j => by rw [Nat.add_zero, Nat.zero_add]
  | d + 1, m, j => by
    rw [show m + (d + 1) = (m + d) + 1 from rfl, tbl, show d + 1 + j = (d + j) + 1 by omega, List.getD_cons_succ]
    exact tbl_shift L keys d m j
theorem ent_row (L : List ByteArray) (keys : ByteArray) (i : Nat) (hi : i < keys.size) : entT L keys i = rowf keys i (tbl L keys (keys.size - (i + 1))) L 0 (-1) := by
  unfold entT
  have h := tbl_shift L keys i (keys.size - i) 0
  rw [show keys.size - i + i = keys.size by omega, Nat.add_zero] at h
  rw [h, show keys.size - i = (keys.size - (i + 1)) + 1 by omega, tbl, List.getD_cons_zero, show keys.size - (keys.size - (i + 1) + 1) = i by omega]
theorem ent_behind (L : List ByteArray) (keys : ByteArray) (i s : Nat) (hs : 1 ≤ s) (h : i + s ≤ keys.size) : (tbl L keys (keys.size - (i + 1))).getD (s - 1) (0, -1) = entT L keys (i + s) := by
  unfold entT
  have h := tbl_shift L keys (i + 1) (keys.size - (i + 1)) (s - 1)
  rw [show keys.size - (i + 1) + (i + 1) = keys.size by omega, show i + 1 + (s - 1) = i + s by omega] at h
  exact h.symm
theorem ent_good {L : List ByteArray} (hd : dictB L = true) (keys : ByteArray) (hk : keys.size ≤ 20) (i : Nat) (hi : i ≤ keys.size) :
    ((0 < (entT L keys i).1 ∧ 0 ≤ (entT L keys i).2) ∨ entT L keys i = (0, -1)) ∧ (entT L keys i).1 ≤ 4000000000000000 ∧ (entT L keys i).2 ≤ 20 := by
  have hl : i < (tbl L keys keys.size).length := by rw [tbl_length]; omega
  obtain ⟨g1, g2, g3⟩ := tbl_good hd keys keys.size (Nat.le_refl _) i hl
  unfold entT
  rw [getD_lt hl]
  exact ⟨g1, Int.le_trans g2 (pow_small _ (by omega)), by omega⟩
theorem rd_ent1 (L : List ByteArray) (keys : ByteArray) (i : Nat) (hi : i ≤ keys.size) : rd ((tbl L keys keys.size).map Prod.fst) (i : Int) = (entT L keys i).1 := by
  unfold rd
  rw [Int.toNat_natCast]
  exact fst_getD _ i (by rw [tbl_length]; omega)
theorem rd_ent2 (L : List ByteArray) (keys : ByteArray) (i : Nat) (hi : i ≤ keys.size) : rd ((tbl L keys keys.size).map Prod.snd) (i : Int) = (entT L keys i).2 := by
  unfold rd
  rw [Int.toNat_natCast]
  exact snd_getD _ i (by rw [tbl_length]; omega)
theorem rowf_pick (keys : ByteArray) (i : Nat) (tb : List (Int × Int)) : ∀ (R : List ByteArray) (a b : Int), (∀ w ∈ R, okW keys i w = true → 0 < (tb.getD (w.size - 1) (0, -1)).1 → 0 ≤ (tb.getD (w.size - 1) (0, -1)).2) →
    rowf keys i tb R a b = (a, b) ∨ ((rowf keys i tb R a b).2 = b ∧ 0 ≤ b) ∨ ∃ w ∈ R, okW keys i w = true ∧ 0 < (tb.getD (w.size - 1) (0, -1)).1 ∧ (tb.getD (w.size - 1) (0, -1)).2 + 1 = (rowf keys i tb R a b).2
  | [], a, b, _ => Or.inl rfl
  | w :: R, a, b, h => by
    rw [rowf]
    split
    · rename_i hc
      have hp := h w List.mem_cons_self hc.1 hc.2
      have ih := rowf_pick keys i tb R (a + (tb.getD (w.size - 1) (0, -1)).1) (if b < 0 ∨ (tb.getD (w.size - 1) (0, -1)).2 + 1 < b then (tb.getD (w.size - 1) (0, -1)).2 + 1 else b) (fun x hx => h x (List.mem_cons_of_mem w hx))
      generalize rowf keys i tb R (a + (tb.getD (w.size - 1) (0, -1)).1) (if b < 0 ∨ (tb.getD (w.size - 1) (0, -1)).2 + 1 < b then (tb.getD (w.size - 1) (0, -1)).2 + 1 else b) = r at *
      have key : r.2 = (if b < 0 ∨ (tb.getD (w.size - 1) (0, -1)).2 + 1 < b then (tb.getD (w.size - 1) (0, -1)).2 + 1 else b) → (r.2 = b ∧ 0 ≤ b) ∨ ∃ x ∈ w :: R, okW keys i x = true ∧ 0 < (tb.getD (x.size - 1) (0, -1)).1 ∧ (tb.getD (x.size - 1) (0, -1)).2 + 1 = r.2 := by
        intro hr
        by_cases hb : b < 0 ∨ (tb.getD (w.size - 1) (0, -1)).2 + 1 < b
        · rw [if_pos hb] at hr
          exact Or.inr ⟨w, List.mem_cons_self, hc.1, hc.2, hr.symm⟩
        · rw [if_neg hb] at hr
          exact Or.inl ⟨hr, by omega⟩
      rcases ih with e | ⟨e, _⟩ | ⟨x, hx, h1, h2, h3⟩
      · exact Or.inr (key (by rw [e]))
      · exact Or.inr (key e)
      · exact Or.inr (Or.inr ⟨x, List.mem_cons_of_mem w hx, h1, h2, h3⟩)
    · rcases rowf_pick keys i tb R a b (fun x hx => h x (List.mem_cons_of_mem w hx)) with e | e | ⟨x, hx, h1⟩
      · exact Or.inl e
      · exact Or.inr (Or.inl e)
      · exact Or.inr (Or.inr ⟨x, List.mem_cons_of_mem w hx, h1⟩)
def goodW (L : List ByteArray) (keys : ByteArray) (few : Bool) (i : Nat) (w : ByteArray) : Bool := okW keys i w && (decide (0 < (entT L keys (i + w.size)).1) && (!few || decide ((entT L keys (i + w.size)).2 + 1 = (entT L keys i).2)))
theorem find_good {L : List ByteArray} (hd : dictB L = true) (keys : ByteArray) (hk : keys.size ≤ 20) (few : Bool) (i : Nat) (hi : i < keys.size) (hp : 0 < (entT L keys i).1) : ∃ w, L.find? (goodW L keys few i) = some w := by
  have hb : ∀ w ∈ L, okW keys i w = true → 1 ≤ w.size ∧ (tbl L keys (keys.size - (i + 1))).getD (w.size - 1) (0, -1) = entT L keys (i + w.size) := fun w hw ho => by
    have h1 := (okW_size ho).1
    have h2 := (short_size (dict_short hd w hw)).1
    exact ⟨h2, ent_behind L keys i w.size h2 h1⟩
  have hpk := rowf_pick keys i (tbl L keys (keys.size - (i + 1))) L 0 (-1) (fun w hw ho hpos => by
    have h1 := (okW_size ho).1
    rw [(hb w hw ho).2] at hpos ⊢
    rcases (ent_good hd keys hk (i + w.size) h1).1 with h | h
    · exact h.2
    · rw [h] at hpos; simp at hpos)
  rw [← ent_row L keys i hi] at hpk
  have hex : ∃ w ∈ L, goodW L keys few i w = true := by
    rcases hpk with e | ⟨_, e⟩ | ⟨w, hw, h1, h2, h3⟩
    · rw [e] at hp; simp at hp
    · omega
    · rw [(hb w hw h1).2] at h2 h3
      refine ⟨w, hw, ?_⟩
      unfold goodW
      rw [h1, decide_eq_true h2, decide_eq_true h3, Bool.or_true]
      rfl
  cases hf : L.find? (goodW L keys few i) with
  | some w => exact ⟨w, rfl⟩
  | none =>
    obtain ⟨w, hw, h⟩ := hex
    exact absurd h (by simpa using List.find?_eq_none.1 hf w hw)
theorem good_of {L : List ByteArray} {keys : ByteArray} {few : Bool} {i : Nat} {w : ByteArray} (h : L.find? (goodW L keys few i) = some w) : w ∈ L ∧ okW keys i w = true ∧ 0 < (entT L keys (i + w.size)).1 := by
  have h1 := List.find?_some h
  unfold goodW at h1
  simp only [Bool.and_eq_true, decide_eq_true_eq] at h1
  exact ⟨List.mem_of_find?_eq_some h, h1.1, h1.2.1⟩
def firstL (L : List ByteArray) (keys : ByteArray) (few : Bool) : Nat → Nat → List ByteArray → List ByteArray
  | 0, _, out => out
  | d + 1, i, out => if i < keys.size then (match L.find? (goodW L keys few i) with | some w => firstL L keys few d (i + w.size) (out ++ [w]) | none => out) else out
theorem firstL_length (L : List ByteArray) (keys : ByteArray) (few : Bool) : ∀ d i out, (firstL L keys few d i out).length ≤ out.length + d
  | 0, _, _ => Nat.le_refl _
  | d + 1, i, out => by
    rw [firstL]
    split
    · split
      · have := firstL_length L keys few d (i + ‹ByteArray›.size) (out ++ [‹ByteArray›])
        rw [List.length_append, List.length_singleton] at this
        omega
      · omega
    · omega
theorem firstL_step {L : List ByteArray} {keys : ByteArray} {few : Bool} {i : Nat} {w : ByteArray} (hi : i < keys.size) (h : L.find? (goodW L keys few i) = some w) (d : Nat) (out : List ByteArray) : firstL L keys few (d + 1) i out = firstL L keys few d (i + w.size) (out ++ [w]) := by
  rw [firstL, if_pos hi, h]
theorem wdFirst_l1 (L : List ByteArray) (hd : dictB L = true) (keys : ByteArray) (hk : keys.size ≤ 20) (few : Bool) (i : Nat) (hi : i < keys.size) (out : List ByteArray) (ho : out.length ≤ 1000) (w0 : ByteArray) (r : List ByteArray × Bool)
    (hr : Ev (fun k => spec_wdFirst.l0 k L keys few ((tbl L keys keys.size).map Prod.fst) ((tbl L keys keys.size).map Prod.snd) (out ++ [w0]) ((i : Int) + (w0.size : Int))) r) :
    ∀ (d t : Nat), t + d = L.length → (L.drop t).find? (goodW L keys few i) = some w0 → Ev (fun k => spec_wdFirst.l1 k L keys few ((tbl L keys keys.size).map Prod.fst) ((tbl L keys keys.size).map Prod.snd) out i L L.length t) r
  | 0, t, ht, hf => by
    obtain rfl : t = L.length := by omega
    rw [List.drop_length] at hf
    cases hf
  | d + 1, t, ht, hf => by
    have hl := dict_length hd
    have hs := dict_short hd _ (rds_mem L t (by omega))
    have hz := short_size hs
    generalize hw : rdOf ByteArray.empty L (t : Int) = w at *
    have hf' := hf
    rw [rds_drop L t (by omega), hw, List.find?_cons] at hf'
    have hks := keysN_size w
    obtain ⟨K0, e0⟩ := prKeys_ev w (by omega) (short_low hs)
    have hl1 : ((tbl L keys keys.size).map Prod.fst).length = keys.size + 1 := by rw [List.length_map, tbl_length]
    have hl2 : ((tbl L keys keys.size).map Prod.snd).length = keys.size + 1 := by rw [List.length_map, tbl_length]
    have next : goodW L keys few i w = false → Ev (fun k => spec_wdFirst.l1 k L keys few ((tbl L keys keys.size).map Prod.fst) ((tbl L keys keys.size).map Prod.snd) out i L L.length ((t : Int) + 1)) r := fun hg => by
      rw [hg] at hf'
      obtain ⟨K1, e1⟩ := wdFirst_l1 L hd keys hk few i hi out ho w0 r hr d (t + 1) (by omega) hf'
      exact ⟨K1, e1⟩
    by_cases hfit : i + w.size ≤ keys.size
    · have ee := ent_good hd keys hk (i + w.size) hfit
      have ei := ent_good hd keys hk i (by omega)
      have r1 : rd ((tbl L keys keys.size).map Prod.fst) ((i : Int) + (w.size : Int)) = (entT L keys (i + w.size)).1 := rd_ent1 L keys (i + w.size) hfit
      have r2 : rd ((tbl L keys keys.size).map Prod.snd) ((i : Int) + (w.size : Int)) = (entT L keys (i + w.size)).2 := rd_ent2 L keys (i + w.size) hfit
      have r3 := rd_ent2 L keys i (by omega)
      by_cases heq : (keysN w).toList = (keys.extract i (i + w.size)).toList
      · have hok : okW keys i w = true := by
          unfold okW
          rw [decide_eq_true hfit, heq, beq_self_eq_true]
          rfl
        by_cases hp : (entT L keys (i + w.size)).1 = 0
        · have hg : goodW L keys few i w = false := by
            unfold goodW
            rw [hok, decide_eq_false (by omega), Bool.false_and, Bool.and_false]
          obtain ⟨K1, e1⟩ := next hg
          refine ev_from (K0 + K1 + 1) fun k hk' => ?_
          have e0 := e0 k (by omega)
          have e1 := e1 k (by omega)
          dsimp only at e0 e1
          simp only [spec_wdFirst.l1]
          rw [if_pos (by omega), if_pos (by omega), if_pos (by omega), hw, wr (x := (i : Int) + (w.size : Int)) (by omega) (by omega), if_neg (by omega), e0, bsome, if_pos (by omega), if_pos (by omega), if_pos (by omega), Int.toNat_natCast, show ((i : Int) + (w.size : Int)).toNat = i + w.size by omega, if_pos heq, if_pos (by omega), if_pos (by omega), r1, if_pos hp, wr (x := (t : Int) + 1) (by omega) (by omega)]
          exact e1
        · have hpos : 0 < (entT L keys (i + w.size)).1 := by
            rcases ee.1 with h | h
            · exact h.1
            · rw [h] at hp; simp at hp
          have hw2 : wrap64 ((entT L keys (i + w.size)).2 + 1) = (entT L keys (i + w.size)).2 + 1 := wr (by rcases ee.1 with h | h <;> (try rw [h]) <;> omega) (by omega)
          have tail : goodW L keys few i w = true → Ev (fun k => spec_wdFirst.l0 k L keys few ((tbl L keys keys.size).map Prod.fst) ((tbl L keys keys.size).map Prod.snd) (out ++ [w]) ((i : Int) + (w.size : Int))) r := fun hg => by
            rw [hg] at hf'
            obtain rfl := Option.some.inj hf'
            exact hr
          cases few with
          | false =>
            have hg : goodW L keys false i w = true := by
              unfold goodW
              rw [hok, decide_eq_true hpos]
              rfl
            obtain ⟨K1, e1⟩ := tail hg
            refine ev_from (K0 + K1 + 1) fun k hk' => ?_
            have e0 := e0 k (by omega)
            have e1 := e1 k (by omega)
            dsimp only at e0 e1
            simp only [spec_wdFirst.l1]
            rw [if_pos (by omega), if_pos (by omega), if_pos (by omega), hw, wr (x := (i : Int) + (w.size : Int)) (by omega) (by omega), if_neg (by omega), e0, bsome, if_pos (by omega), if_pos (by omega), if_pos (by omega), Int.toNat_natCast, show ((i : Int) + (w.size : Int)).toNat = i + w.size by omega, if_pos heq, if_pos (by omega), if_pos (by omega), r1, if_neg hp, if_neg (by simp), if_pos (by omega)]
            exact e1
          | true =>
            by_cases hq : (entT L keys (i + w.size)).2 + 1 = (entT L keys i).2
            · have hg : goodW L keys true i w = true := by
                unfold goodW
                rw [hok, decide_eq_true hpos, decide_eq_true hq]
                rfl
              obtain ⟨K1, e1⟩ := tail hg
              refine ev_from (K0 + K1 + 1) fun k hk' => ?_
              have e0 := e0 k (by omega)
              have e1 := e1 k (by omega)
              dsimp only at e0 e1
              simp only [spec_wdFirst.l1]
              rw [if_pos (by omega), if_pos (by omega), if_pos (by omega), hw, wr (x := (i : Int) + (w.size : Int)) (by omega) (by omega), if_neg (by omega), e0, bsome, if_pos (by omega), if_pos (by omega), if_pos (by omega), Int.toNat_natCast, show ((i : Int) + (w.size : Int)).toNat = i + w.size by omega, if_pos heq, if_pos (by omega), if_pos (by omega), r1, if_neg hp, if_pos trivial, if_pos (by omega), if_pos (by omega), r2, r3, hw2, if_pos hq, if_pos (by omega)]
              exact e1
            · have hg : goodW L keys true i w = false := by
                unfold goodW
                rw [decide_eq_false hq]
                simp
              obtain ⟨K1, e1⟩ := next hg
              refine ev_from (K0 + K1 + 1) fun k hk' => ?_
              have e0 := e0 k (by omega)
              have e1 := e1 k (by omega)
              dsimp only at e0 e1
              simp only [spec_wdFirst.l1]
              rw [if_pos (by omega), if_pos (by omega), if_pos (by omega), hw, wr (x := (i : Int) + (w.size : Int)) (by omega) (by omega), if_neg (by omega), e0, bsome, if_pos (by omega), if_pos (by omega), if_pos (by omega), Int.toNat_natCast, show ((i : Int) + (w.size : Int)).toNat = i + w.size by omega, if_pos heq, if_pos (by omega), if_pos (by omega), r1, if_neg hp, if_pos trivial, if_pos (by omega), if_pos (by omega), r2, r3, hw2, if_neg hq, wr (x := (t : Int) + 1) (by omega) (by omega)]
              exact e1
      · have hg : goodW L keys few i w = false := by
          unfold goodW okW
          rw [beq_eq_false_iff_ne.2 heq, Bool.and_false, Bool.false_and]
        obtain ⟨K1, e1⟩ := next hg
        refine ev_from (K0 + K1 + 1) fun k hk' => ?_
        have e0 := e0 k (by omega)
        have e1 := e1 k (by omega)
        dsimp only at e0 e1
        simp only [spec_wdFirst.l1]
        rw [if_pos (by omega), if_pos (by omega), if_pos (by omega), hw, wr (x := (i : Int) + (w.size : Int)) (by omega) (by omega), if_neg (by omega), e0, bsome, if_pos (by omega), if_pos (by omega), if_pos (by omega), Int.toNat_natCast, show ((i : Int) + (w.size : Int)).toNat = i + w.size by omega, if_neg heq, wr (x := (t : Int) + 1) (by omega) (by omega)]
        exact e1
    · have hg : goodW L keys few i w = false := by
        unfold goodW okW
        rw [decide_eq_false hfit, Bool.false_and, Bool.false_and]
      obtain ⟨K1, e1⟩ := next hg
      refine ev_from (K0 + K1 + 1) fun k hk' => ?_
      have e1 := e1 k (by omega)
      dsimp only at e1
      simp only [spec_wdFirst.l1]
      rw [if_pos (by omega), if_pos (by omega), if_pos (by omega), hw, wr (x := (i : Int) + (w.size : Int)) (by omega) (by omega), if_pos (by omega), wr (x := (t : Int) + 1) (by omega) (by omega)]
      exact e1
theorem wdFirst_l0 (L : List ByteArray) (hd : dictB L = true) (keys : ByteArray) (hk : keys.size ≤ 20) (few : Bool) : ∀ (d i : Nat) (out : List ByteArray), keys.size - i ≤ d → i ≤ keys.size → 0 < (entT L keys i).1 → out.length + d ≤ 1000 →
    Ev (fun k => spec_wdFirst.l0 k L keys few ((tbl L keys keys.size).map Prod.fst) ((tbl L keys keys.size).map Prod.snd) out i) (firstL L keys few d i out, true)
  | 0, i, out, h1, h2, h3, h4 => by
    refine ev_from 0 fun k _ => ?_
    simp only [spec_wdFirst.l0]
    rw [if_neg (by omega)]
    rfl
  | d + 1, i, out, h1, h2, h3, h4 => by
    by_cases hi : i < keys.size
    · obtain ⟨w, hw⟩ := find_good hd keys hk few i hi h3
      obtain ⟨g1, g2, g3⟩ := good_of hw
      have hz := short_size (dict_short hd w g1)
      have hfit := (okW_size g2).1
      have ih := wdFirst_l0 L hd keys hk few d (i + w.size) (out ++ [w]) (by omega) hfit g3 (by rw [List.length_append, List.length_singleton]; omega)
      obtain ⟨K, e⟩ := wdFirst_l1 L hd keys hk few i hi out (by omega) w _ ih L.length 0 (by omega) (by rw [List.drop_zero]; exact hw)
      refine ev_from K fun k hk' => ?_
      have e := e k hk'
      dsimp only at e
      simp only [spec_wdFirst.l0]
      rw [if_pos (by omega), firstL_step hi hw]
      exact e
    · refine ev_from 0 fun k _ => ?_
      simp only [spec_wdFirst.l0]
      rw [if_neg (by omega), firstL, if_neg hi]
end Go.Proofs.YtclnjlnpconjmaaDoor.Pu
end

section
namespace Go.Proofs.YtclnjlnpconjmaaDoor.Pu
open Go.RowKit Go.Proofs.YtclnjlnpconjmaaDoor.P Go.Proofs.YtclnjlnpconjmaaDoorW.PrintWords Go.Proofs.YtclnjlnpconjmaaDoorW.PrintLast Go.Proofs.YtclnjlnpconjmaaDoorW.PrintMore
theorem qOf_ev (L : List ByteArray) (hd : dictB L = true) (keys : ByteArray) (hk : keys.size ≤ 20) (few : Bool) (i : Nat) (hi : i < keys.size) (w : ByteArray) (hw : w ∈ L) :
    Ev (fun k => impl_firstSplit.q k keys (i : Int) few ((tbl L keys keys.size).map Prod.snd) w) (goodW L keys few i w) := by
  have hs := dict_short hd w hw
  have hz := short_size hs
  obtain ⟨K0, e0⟩ := keysOf_ev w (by omega) (short_low hs)
  refine ⟨K0, fun k hk' => ?_⟩
  have e0 := e0 k hk'
  dsimp only at e0 ⊢
  have hpre : Lib.hasPrefix (keys.extract i keys.size).data.toList (keysN w).data.toList = okW keys i w := pre_ok keys i (by omega) w
  unfold impl_firstSplit.q
  rw [e0, bsome, Int.toNat_natCast, hasPre_is, bsome, hpre]
  cases hok : okW keys i w with
  | false =>
    rw [if_neg (by simp)]
    unfold goodW
    rw [hok, Bool.false_and]
  | true =>
    have hfit := (okW_size hok).1
    have ee := ent_good hd keys hk (i + w.size) hfit
    have ei := ent_good hd keys hk i (by omega)
    have r2 : rd ((tbl L keys keys.size).map Prod.snd) ((i : Int) + (w.size : Int)) = (entT L keys (i + w.size)).2 := rd_ent2 L keys (i + w.size) hfit
    have r3 := rd_ent2 L keys i (by omega)
    have hl2 : ((tbl L keys keys.size).map Prod.snd).length = keys.size + 1 := by rw [List.length_map, tbl_length]
    have d1 : decide (0 ≤ (entT L keys (i + w.size)).2) = decide (0 < (entT L keys (i + w.size)).1) := by
      rcases ee.1 with h | h
      · rw [decide_eq_true h.1, decide_eq_true h.2]
      · rw [h]; rfl
    have d2 : ((entT L keys (i + w.size)).2 == (entT L keys i).2 - 1) = decide ((entT L keys (i + w.size)).2 + 1 = (entT L keys i).2) := by
      by_cases hq : (entT L keys (i + w.size)).2 + 1 = (entT L keys i).2
      · rw [decide_eq_true hq]
        exact beq_iff_eq.2 (by omega)
      · rw [decide_eq_false hq]
        exact beq_eq_false_iff_ne.2 (by omega)
    have hm : -1 ≤ (entT L keys i).2 := by
      rcases ei.1 with h | h
      · omega
      · rw [h]; decide
    rw [if_pos rfl, wr (x := (i : Int) + (w.size : Int)) (by omega) (by omega), if_pos (by omega), if_pos (by omega), r2, r3, wr (x := (entT L keys i).2 - 1) (by omega) (by omega), d1, d2]
    unfold goodW
    rw [hok, Bool.true_and]
theorem idxO_ev (q : Nat → ByteArray → Option Bool) (p : ByteArray → Bool) : ∀ (l : List ByteArray) (i : Nat), (∀ x ∈ l, Ev (fun k => q k x) (p x)) → Ev (fun k => impl_firstSplit.idxO (q k) l i) (Go.Proofs.YtclnjlnpconjmaaDoor.Pick.idxP p l i)
  | [], i, _ => ⟨0, fun k _ => rfl⟩
  | x :: l, i, h => by
    obtain ⟨K1, e1⟩ := h x List.mem_cons_self
    obtain ⟨K2, e2⟩ := idxO_ev q p l (i + 1) (fun y hy => h y (List.mem_cons_of_mem x hy))
    refine ⟨K1 + K2, fun k hk => ?_⟩
    have e1 := e1 k (by omega)
    have e2 := e2 k (by omega)
    dsimp only at e1 e2 ⊢
    rw [impl_firstSplit.idxO, e1, bsome, e2, bsome, Go.Proofs.YtclnjlnpconjmaaDoor.Pick.idxP]
theorem idx_find {p : ByteArray → Bool} {l : List ByteArray} {w : ByteArray} (h : l.find? p = some w) : ∃ j : Nat, j < l.length ∧ Go.Proofs.YtclnjlnpconjmaaDoor.Pick.idxP p l 0 = (j : Int) ∧ rdOf ByteArray.empty l (j : Int) = w := by
  rcases Go.Proofs.YtclnjlnpconjmaaDoor.Pick.idxP_spec p l 0 with ⟨_, ha⟩ | ⟨A, x, R, hl, e1, ha, hx⟩
  · have := List.find?_some h
    rw [ha w (List.mem_of_find?_eq_some h)] at this
    cases this
  · subst hl
    have hf : (A ++ x :: R).find? p = some x := by
      rw [List.find?_append, List.find?_eq_none.2 (fun y hy => by rw [ha y hy]; simp), List.find?_cons, hx]
      rfl
    rw [hf] at h
    obtain rfl := Option.some.inj h
    exact ⟨A.length, by rw [List.length_append, List.length_cons]; omega, by rw [e1, Nat.zero_add], rds_mid A x R⟩
theorem go_ev (L : List ByteArray) (hd : dictB L = true) (keys : ByteArray) (hk : keys.size ≤ 20) (few : Bool) : ∀ (d i : Nat) (out : List ByteArray), keys.size - i ≤ d → i ≤ keys.size → 0 < (entT L keys i).1 → out.length + d ≤ 1000 →
    ∃ K, ∀ k g, K ≤ k → K ≤ g → impl_firstSplit.go k L keys few ((tbl L keys keys.size).map Prod.snd) g out (i : Int) = some (firstL L keys few d i out, true)
  | 0, i, out, h1, h2, h3, h4 => by
    refine ⟨1, fun k g _ hg => ?_⟩
    obtain ⟨g, rfl⟩ : ∃ m, g = m + 1 := ⟨g - 1, by omega⟩
    rw [impl_firstSplit.go, if_neg (by omega)]
    rfl
  | d + 1, i, out, h1, h2, h3, h4 => by
    by_cases hi : i < keys.size
    · obtain ⟨w, hw⟩ := find_good hd keys hk few i hi h3
      obtain ⟨g1, g2, g3⟩ := good_of hw
      have hz := short_size (dict_short hd w g1)
      have hfit := (okW_size g2).1
      obtain ⟨K1, e1⟩ := go_ev L hd keys hk few d (i + w.size) (out ++ [w]) (by omega) hfit g3 (by rw [List.length_append, List.length_singleton]; omega)
      obtain ⟨K2, e2⟩ := idxO_ev (fun k x => impl_firstSplit.q k keys (i : Int) few ((tbl L keys keys.size).map Prod.snd) x) (goodW L keys few i) L 0 (fun x hx => qOf_ev L hd keys hk few i hi x hx)
      obtain ⟨j, hj, hje, hjr⟩ := idx_find hw
      rw [hje] at e2
      have hl2 : ((tbl L keys keys.size).map Prod.snd).length = keys.size + 1 := by rw [List.length_map, tbl_length]
      refine ⟨K1 + K2 + 1, fun k g hk' hg => ?_⟩
      obtain ⟨g, rfl⟩ : ∃ m, g = m + 1 := ⟨g - 1, by omega⟩
      have e1 := e1 k g (by omega) (by omega)
      have e2 : impl_firstSplit.idxO (impl_firstSplit.q k keys (i : Int) few ((tbl L keys keys.size).map Prod.snd)) L 0 = some (j : Int) := e2 k (by omega)
      rw [impl_firstSplit.go, if_pos (by omega), if_pos (by omega), if_pos (by omega), e2, bsome, if_pos (by omega), if_pos (by omega), if_pos (by omega), hjr, wr (x := (i : Int) + (w.size : Int)) (by omega) (by omega), firstL_step hi hw]
      exact e1
    · refine ⟨1, fun k g _ hg => ?_⟩
      obtain ⟨g, rfl⟩ : ∃ m, g = m + 1 := ⟨g - 1, by omega⟩
      rw [impl_firstSplit.go, if_neg (by omega), firstL, if_neg hi]
def firstT (L : List ByteArray) (keys : ByteArray) (few : Bool) : List ByteArray × Bool := if askedB L keys = true ∧ 0 < (headT L keys).1 then (firstL L keys few keys.size 0 [], true) else ([], false)
theorem firstT_length (L : List ByteArray) (keys : ByteArray) (few : Bool) : (firstT L keys few).1.length ≤ 1048576 := by
  unfold firstT
  split
  · rename_i h
    have h1 := (askedB_iff h.1).2
    have := firstL_length L keys few keys.size 0 []
    rw [List.length_nil] at this
    show (firstL L keys few keys.size 0 []).length ≤ 1048576
    omega
  · simp
theorem wdFirst_ev (L : List ByteArray) (hd : dictB L = true) (keys : ByteArray) (hk : keys.size ≤ 20) (few : Bool) : Ev (fun k => spec_wdFirst.f k L keys few) (if 0 < (headT L keys).1 then (firstL L keys few keys.size 0 [], true) else ([], false)) := by
  obtain ⟨K1, e1⟩ := wdTables_ev L hd keys hk
  rcases head_good hd keys with h | h
  · obtain ⟨K2, e2⟩ := wdFirst_l0 L hd keys hk few keys.size 0 [] (by omega) (by omega) h.1 (by rw [List.length_nil]; omega)
    refine ⟨K1 + K2, fun k hk' => ?_⟩
    have e1 := e1 k (by omega)
    have e2 := e2 k (by omega)
    dsimp only at e1 e2 ⊢
    unfold spec_wdFirst.f
    rw [e1, bsome, if_pos (by rw [List.length_map, tbl_length]; omega), head_fst, if_neg (by omega), if_pos h.1]
    exact e2
  · refine ⟨K1, fun k hk' => ?_⟩
    have e1 := e1 k (by omega)
    dsimp only at e1 ⊢
    unfold spec_wdFirst.f
    rw [e1, bsome, if_pos (by rw [List.length_map, tbl_length]; omega), head_fst, h, if_pos rfl, if_neg (by simp)]
theorem firstSplit_ev (L : List ByteArray) (hl : L.length ≤ 1099511627776) (hL : ∀ x ∈ L, x.size ≤ 140737488351232) (keys : ByteArray) (hk : keys.size ≤ 140737488351232) (few : Bool) : Ev (fun k => impl_firstSplit.f k L keys few) (firstT L keys few) := by
  obtain ⟨K1, e1⟩ := splitOk_ev L hl hL keys hk
  unfold firstT
  cases hb : askedB L keys with
  | false => exact ⟨K1, fun k hk' => by have e1 := e1 k hk'; rw [hb] at e1; dsimp only at e1 ⊢; unfold impl_firstSplit.f; rw [e1, bsome, if_neg (by simp), if_neg (by simp)]⟩
  | true =>
    obtain ⟨hd, hz⟩ := askedB_iff hb
    have hdl := dict_length hd
    obtain ⟨K2, e2⟩ := splits_ev L hd keys hz
    rcases head_good hd keys with h | h
    · obtain ⟨K3, e3⟩ := go_ev L hd keys hz few keys.size 0 [] (by omega) (by omega) h.1 (by rw [List.length_nil]; omega)
      refine ⟨K1 + K2 + K3, fun k hk' => ?_⟩
      have e1 := e1 k (by omega)
      have e2 := e2 k (by omega)
      have e3 := e3 k k (by omega) (by omega)
      rw [hb] at e1
      dsimp only at e1 e2 ⊢
      unfold impl_firstSplit.f
      rw [e1, bsome, if_pos rfl, e2, bsome, if_pos (by rw [List.length_map, tbl_length]; omega), head_snd, if_neg (by omega), if_pos (by omega), if_pos (by omega), if_pos ⟨rfl, h.1⟩]
      exact e3
    · refine ⟨K1 + K2, fun k hk' => ?_⟩
      have e1 := e1 k (by omega)
      have e2 := e2 k (by omega)
      rw [hb] at e1
      dsimp only at e1 e2 ⊢
      unfold impl_firstSplit.f
      rw [e1, bsome, if_pos rfl, e2, bsome, if_pos (by rw [List.length_map, tbl_length]; omega), head_snd, h, if_pos (by decide), if_neg (by simp)]
theorem sFirstSplit_ev (L : List ByteArray) (hl : L.length ≤ 1099511627776) (hL : ∀ x ∈ L, x.size ≤ 140737488351232) (keys : ByteArray) (hk : keys.size ≤ 140737488351232) : Ev (fun k => spec_FirstSplit.f k L keys) (firstT L keys false) := by
  obtain ⟨K1, e1⟩ := wdAsked_ev L hl hL keys hk
  unfold firstT
  cases hb : askedB L keys with
  | false => exact ⟨K1, fun k hk' => by have e1 := e1 k hk'; rw [hb] at e1; dsimp only at e1 ⊢; unfold spec_FirstSplit.f; rw [e1, bsome, if_neg (by simp), if_neg (by simp)]⟩
  | true =>
    obtain ⟨hd, hz⟩ := askedB_iff hb
    obtain ⟨K2, e2⟩ := wdFirst_ev L hd keys hz false
    refine ⟨K1 + K2, fun k hk' => ?_⟩
    have e1 := e1 k (by omega)
    have e2 := e2 k (by omega)
    rw [hb] at e1
    dsimp only at e1 e2 ⊢
    unfold spec_FirstSplit.f
    rw [e1, bsome, if_pos rfl, e2, bsome]
    by_cases h : 0 < (headT L keys).1
    · rw [if_pos h, if_pos ⟨rfl, h⟩]
    · rw [if_neg h, if_neg (fun h' => h h'.2)]
theorem iFirstSplit_ev (L : List ByteArray) (hl : L.length ≤ 1099511627776) (hL : ∀ x ∈ L, x.size ≤ 140737488351232) (keys : ByteArray) (hk : keys.size ≤ 140737488351232) : Ev (fun k => impl_FirstSplit.f k L keys) (firstT L keys false) := by
  obtain ⟨K1, e1⟩ := firstSplit_ev L hl hL keys hk false
  refine ⟨K1, fun k hk' => ?_⟩
  have e1 := e1 k hk'
  dsimp only at e1 ⊢
  unfold impl_FirstSplit.f
  rw [e1, bsome]
end Go.Proofs.YtclnjlnpconjmaaDoor.Pu
end

section
namespace Go.Proofs.YtclnjlnpconjmaaDoor.Pu
open Go.RowKit Go.Proofs.YtclnjlnpconjmaaDoor.P Go.Proofs.YtclnjlnpconjmaaDoorW.PrintWords Go.Proofs.YtclnjlnpconjmaaDoorW.PrintLast Go.Proofs.YtclnjlnpconjmaaDoorW.PrintMore
def txtN : Nat → Int → ByteArray → ByteArray
  | 0, _, A => A
  | n + 1, x, A => if x > 0 then txtN n (wrap64 (Int.tdiv x 10)) (strOfNums [(wrap64 (48 + (Int.tmod x 10))) % 256] ++ A) else (⟨#[109]⟩ : ByteArray) ++ A
def txt (v : Int) : ByteArray := if v ≤ 0 then (⟨#[109, 48]⟩ : ByteArray) else txtN (v.toNat + 1) v ⟨#[]⟩
theorem txtN_ev : ∀ (n : Nat) (x : Int) (A : ByteArray), x.toNat < n → 0 ≤ x → x ≤ 1099511627776 → A.size + x.toNat ≤ 1125899906842624 → Ev (fun k => laws_markText.l0 k x A) (txtN n x A)
  | 0, _, _, h, _, _, _ => absurd h (Nat.not_lt_zero _)
  | n + 1, x, A, h, h0, h1, h2 => by
    by_cases hx : x > 0
    · have hd : wrap64 (Int.tdiv x 10) = x / 10 := by
        rw [Int.tdiv_eq_ediv_of_nonneg h0]
        exact wr (by omega) (by omega)
      obtain ⟨K, e⟩ := txtN_ev n (wrap64 (Int.tdiv x 10)) (strOfNums [(wrap64 (48 + (Int.tmod x 10))) % 256] ++ A) (by rw [hd]; omega) (by rw [hd]; omega) (by rw [hd]; omega) (by
        rw [hd, ByteArray.size_append, size_nums, List.length_singleton]
        omega)
      refine ev_from K fun k hk => ?_
      have e := e k hk
      dsimp only at e
      simp only [laws_markText.l0, txtN]
      rw [if_pos hx, if_pos hx, bsome, if_pos (by rw [size_nums, List.length_singleton]; omega)]
      exact e
    · refine ev_from 0 fun k _ => ?_
      simp only [laws_markText.l0, txtN]
      rw [if_neg hx, if_neg hx, if_pos (by omega)]
theorem txt_ev (v : Int) (h : 0 ≤ v ∧ v ≤ 4194304) : Ev (fun k => laws_markText.f k v) (txt v) := by
  unfold txt
  by_cases hv : v ≤ 0
  · refine ⟨0, fun k _ => ?_⟩
    dsimp only
    unfold laws_markText.f
    rw [if_pos hv, if_pos hv]
  · obtain ⟨K, e⟩ := txtN_ev (v.toNat + 1) v ⟨#[]⟩ (by omega) h.1 (by omega) (by
      show 0 + v.toNat ≤ 1125899906842624
      omega)
    refine ⟨K, fun k hk => ?_⟩
    have e := e k hk
    dsimp only at e ⊢
    unfold laws_markText.f
    rw [if_neg hv, if_neg hv]
    exact e
def upT : Int → Nat → List ByteArray
  | _, 0 => []
  | v, n + 1 => txt v :: upT (v + 1) n
theorem markS_l0 : ∀ (d : Nat) (P R : List ByteArray) (v : Int), R.length = d → 0 ≤ v → v + d ≤ 4194304 → P.length + d ≤ 4194304 → Ev (fun k => laws_markStringS.l0 k (P ++ R) v (P.length : Int)) (v + d, P ++ upT v d)
  | 0, P, R, v, hd, h0, h1, h2 => by
    obtain rfl := List.eq_nil_of_length_eq_zero hd
    refine ev_from 0 fun k _ => ?_
    simp only [laws_markStringS.l0]
    rw [if_neg (by simp)]
    simp [upT]
  | d + 1, P, R, v, hd, h0, h1, h2 => by
    match R, hd with
    | r :: R, hd =>
      have hd : R.length = d := by simpa using hd
      obtain ⟨K0, e0⟩ := txt_ev v (by omega)
      obtain ⟨K, ih⟩ := markS_l0 d (P ++ [txt v]) R (v + 1) hd (by omega) (by omega) (by rw [List.length_append, List.length_singleton]; omega)
      refine ev_from (K0 + K) fun k hk => ?_
      have e := ih k (by omega)
      have e0 := e0 k (by omega)
      dsimp only at e e0
      simp only [laws_markStringS.l0]
      rw [if_pos (by simp only [List.length_append, List.length_cons]; omega), e0, bsome, if_pos (by omega), Int.toNat_natCast, sets_mid, wr (by omega) (by omega), wr (by omega) (by omega)]
      rw [List.length_append, List.length_singleton, show ((P.length + 1 : Nat) : Int) = (P.length : Int) + 1 from rfl] at e
      rw [e, upT]
      simp only [List.append_assoc, List.singleton_append]
      rw [show v + 1 + (d : Int) = v + ((d + 1 : Nat) : Int) by omega]
theorem markS_ev (L : List ByteArray) (hl : L.length ≤ 2097152) : Ev (fun k => laws_markStringS.f k L 1) (1 + L.length, upT 1 L.length) := by
  obtain ⟨K, e⟩ := markS_l0 L.length [] L 1 rfl (by omega) (by omega) (by simp; omega)
  exact ⟨K, fun k hk => by have e := e k hk; dsimp only at e; unfold laws_markStringS.f; simpa using e⟩
theorem heldS_l0 : ∀ (d : Nat) (P : List ByteArray) (v : Int), 0 ≤ v → v + d ≤ 4194304 → P.length + d ≤ 4194304 → Ev (fun k => laws_heldStringS.l0 k (P ++ upT v d) v (P.length : Int)) (v + d)
  | 0, P, v, h0, h1, h2 => by
    refine ev_from 0 fun k _ => ?_
    simp only [laws_heldStringS.l0]
    rw [if_neg (by simp [upT])]
    simp
  | d + 1, P, v, h0, h1, h2 => by
    obtain ⟨K0, e0⟩ := txt_ev v (by omega)
    obtain ⟨K, ih⟩ := heldS_l0 d (P ++ [txt v]) (v + 1) (by omega) (by omega) (by rw [List.length_append, List.length_singleton]; omega)
    refine ev_from (K0 + K) fun k hk => ?_
    have e := ih k (by omega)
    have e0 := e0 k (by omega)
    dsimp only at e e0
    rw [List.length_append, List.length_singleton, show ((P.length + 1 : Nat) : Int) = (P.length : Int) + 1 from rfl, List.append_assoc, List.singleton_append] at e
    simp only [laws_heldStringS.l0]
    rw [upT, if_pos (by simp only [List.length_append, List.length_cons]; omega), if_pos (by omega), e0, bsome, rds_mid, if_pos rfl, wr (by omega) (by omega), wr (by omega) (by omega), e]
    rw [show v + 1 + (d : Int) = v + ((d + 1 : Nat) : Int) by omega]
theorem heldS_ev (n : Nat) (hl : n ≤ 2097152) : Ev (fun k => laws_heldStringS.f k (upT 1 n) 1) (1 + n) := by
  obtain ⟨K, e⟩ := heldS_l0 n [] 1 (by omega) (by omega) (by simp; omega)
  exact ⟨K, fun k hk => by have e := e k hk; dsimp only at e; unfold laws_heldStringS.f; simpa using e⟩
end Go.Proofs.YtclnjlnpconjmaaDoor.Pu
end

section
namespace Go.Proofs.YtclnjlnpconjmaaDoor.Pure
open Go.RowKit Go.Proofs.YtclnjlnpconjmaaDoor.P Go.Proofs.YtclnjlnpconjmaaDoor.Pu Go.Proofs.YtclnjlnpconjmaaDoorW.PrintWords Go.Proofs.YtclnjlnpconjmaaDoorW.PrintLast
theorem FnExactFirstSplit : laws_FnExactFirstSplit.Pure := by
  intro L keys _ hl hL hk
  by_cases hz : (keys.size : Int) > 1048576
  · exact ⟨0, by unfold laws_FnExactFirstSplit.f; rw [if_pos hz]⟩
  obtain ⟨r, ⟨K1, h1⟩, hr⟩ := szS_ev L (by omega) hL
  rcases hr with hr | ⟨hn, hx⟩
  · refine ⟨K1, ?_⟩
    have e1 := h1 K1 (Nat.le_refl _)
    dsimp only at e1
    unfold laws_FnExactFirstSplit.f
    rw [if_neg hz, e1, bsome, if_pos hr]
  · have hx' : ∀ x ∈ L, x.size ≤ 140737488351232 := fun x h => by have := hx x h; omega
    have ht := firstT_length L keys false
    obtain ⟨K2, h2⟩ := toS_ev L hn
    obtain ⟨K3, h3⟩ := sFirstSplit_ev L (by omega) hx' keys hk
    obtain ⟨K4, h4⟩ := iFirstSplit_ev L (by omega) hx' keys hk
    obtain ⟨K5, h5⟩ := eqS_ev L (by omega)
    obtain ⟨K6, h6⟩ := eqS_ev (firstT L keys false).1 (by omega)
    obtain ⟨K7, h7⟩ := markS_ev L (by omega)
    obtain ⟨K8, h8⟩ := markS_ev (firstT L keys false).1 (by omega)
    obtain ⟨K9, h9⟩ := heldS_ev (firstT L keys false).1.length (by omega)
    generalize hK : K1 + K2 + K3 + K4 + K5 + K6 + K7 + K8 + K9 = K
    refine ⟨K + 3, ?_⟩
    have a1 := h1 (K + 3) (by omega)
    have a2 := h2 (K + 3) (by omega)
    have b2 := h2 (K + 2) (by omega)
    have c2 := h2 (K + 1) (by omega)
    have a3 := h3 (K + 3) (by omega)
    have a4 := h4 (K + 3) (by omega)
    have c4 := h4 (K + 1) (by omega)
    have b5 := h5 (K + 2) (by omega)
    have a6 := h6 (K + 3) (by omega)
    have b6 := h6 (K + 2) (by omega)
    have c6 := h6 (K + 1) (by omega)
    have b7 := h7 (K + 2) (by omega)
    have c8 := h8 (K + 1) (by omega)
    have c9 := h9 (K + 1) (by omega)
    have d9 := h9 K (by omega)
    dsimp only at a1 a2 b2 c2 a3 a4 c4 b5 a6 b6 c6 b7 c8 c9 d9
    unfold laws_FnExactFirstSplit.f
    rw [if_neg hz, a1, bsome]
    by_cases h0 : r < 0
    · rw [if_pos h0]
    · rw [if_neg h0, a2, bsome, a3, bsome, bsome, a4, bsome, a6, bsome, if_pos rfl]
      simp only [laws_FnExactFirstSplit.j0]
      rw [if_neg (by simp), b2, bsome, b5, bsome, if_pos rfl, b7, bsome, if_neg (by omega), b6, bsome, if_pos rfl]
      simp only [laws_FnExactFirstSplit.j1]
      rw [if_neg (by simp), c8, bsome, c9, bsome, if_neg (by omega), if_pos rfl, c2, bsome, c4, bsome, c6, bsome, if_pos rfl]
      simp only [laws_FnExactFirstSplit.j2]
      rw [if_neg (by simp), d9, bsome, if_neg (by omega), if_pos rfl]
end Go.Proofs.YtclnjlnpconjmaaDoor.Pure
end

