/-
  Words by rank and ranks of words: plain functions, and what the program's and the reference's functions come to. Conditions: each lemma's own.
-/
import Derived.Test.YtjnebonphbgkgaaDoorPx6
import Derived.Test.YtjnebonphbgkgaaDoorPx7
import Derived.Test.YtjnebonphbgkgaaDoorPuSame
namespace Go.Proofs.YtjnebonphbgkgaaDoor.Pu
open Go.RowKit Go.Proofs.YtjnebonphbgkgaaDoor.P Go.Proofs.YtjnebonphbgkgaaDoorW.PrintWords Go.Proofs.YtjnebonphbgkgaaDoorW.PrintLast Go.Proofs.YtjnebonphbgkgaaDoorW.PrintMore

/-- The letters of the word of a rank. -/
def wordR : List Int → Int → List Int
  | [], _ => []
  | c :: L, r => (firstL c + r / cp L) :: wordR L (r % cp L)
theorem div_small (c r : Int) (L : List Int) (h0 : 0 ≤ r) (h1 : r < cp (c :: L)) : 0 ≤ r / cp L ∧ r / cp L < wid c := by
  have hp := cp_range L
  simp only [cp] at h1
  refine ⟨Int.ediv_nonneg h0 (by omega), (Int.ediv_lt_iff_lt_mul (by omega)).2 (by omega)⟩
theorem wordR_length : ∀ (L : List Int) (r : Int), (wordR L r).length = L.length
  | [], _ => rfl
  | c :: L, r => by simp only [wordR, List.length_cons, wordR_length L]
theorem wordR_range : ∀ (L : List Int) (r : Int), (∀ c ∈ L, 50 ≤ c ∧ c ≤ 57) → 0 ≤ r → r < cp L → ∀ x ∈ wordR L r, 97 ≤ x ∧ x ≤ 122
  | [], _, _, _, _ => by simp [wordR]
  | c :: L, r, hl, h0, h1 => by
    have hd := div_small c r L h0 h1
    have hf := firstL_range c (hl c List.mem_cons_self)
    have hp := cp_range L
    have ih := wordR_range L (r % cp L) (fun x hx => hl x (List.mem_cons_of_mem _ hx)) (Int.emod_nonneg _ (by omega)) (Int.emod_lt_of_pos _ (by omega))
    intro x hx
    simp only [wordR, List.mem_cons] at hx
    rcases hx with rfl | hx
    · omega
    · exact ih x hx

theorem iWordOfRank_l0 (s : ByteArray) (hs : s.size ≤ 1000000) (hl : ∀ c ∈ bytesOf s, 50 ≤ c ∧ c ≤ 57) : ∀ (d i : Nat) (r : Int) (A : List Int), i + d = s.size → A.length ≤ i → 0 ≤ r → r < cp ((bytesOf s).drop i) →
    Ev (fun k => impl_WordOfRank.l0 k s r (behind (bytesOf s)) A s.size i) (strOfNums (A ++ wordR ((bytesOf s).drop i) r), true)
  | 0, i, r, A, h, hA, h0, h1 => by
    obtain rfl : i = s.size := by omega
    rw [drop_end]
    refine ev_from 0 fun k _ => ?_
    simp only [impl_WordOfRank.l0]
    rw [if_neg (by omega)]
    simp [wordR]
  | d + 1, i, r, A, h, hA, h0, h1 => by
    have hb := hl _ (bt_mem s i (by omega))
    have hcp := cp_range ((bytesOf s).drop (i + 1))
    have hlen := bytesOf_length s
    rw [drop_bytes s i (by omega)] at h1 ⊢
    have hd := div_small _ _ _ h0 h1
    have hf := firstL_range _ hb
    have hw := wid_or (bt s i)
    have hr := rd_behind (bytesOf s) (i + 1) (by omega)
    have hm0 := Int.emod_nonneg r (show cp ((bytesOf s).drop (i + 1)) ≠ 0 by omega)
    have hm1 := Int.emod_lt_of_pos r (show 0 < cp ((bytesOf s).drop (i + 1)) by omega)
    obtain ⟨K, ih⟩ := iWordOfRank_l0 s hs hl d (i + 1) (r % cp ((bytesOf s).drop (i + 1))) (A ++ [firstL (bt s i) + r / cp ((bytesOf s).drop (i + 1))]) (by omega) (by simp; omega) hm0 hm1
    refine ev_from K fun k hk => ?_
    have e := ih k hk
    dsimp only at e
    simp only [impl_WordOfRank.l0]
    rw [if_pos (by omega), wr (x := (i : Int) + 1) (by omega) (by omega), if_pos (by omega), if_pos (by rw [behind_length]; omega), show ((i : Int) + 1) = ((i + 1 : Nat) : Int) from rfl, hr, if_neg (by omega), if_pos (by omega), if_pos (by omega), group_is _ hb]
    simp only [bsome]
    rw [Int.tdiv_eq_ediv_of_nonneg h0, wr (x := r / _) (by omega) (by omega), if_pos (by omega), if_pos (by rw [grpN_size]; omega), if_pos (by omega), Int.tmod_eq_emod_of_nonneg h0, grpN_bt _ hb _ hd.1 hd.2, e]
    simp [wordR]
theorem iWordOfRank_ev (s : ByteArray) (r : Int) (hs : s.size ≤ 140737488351232) : Ev (fun k => impl_WordOfRank.f k s r)
    (if keysB s = true ∧ 0 ≤ r ∧ r ≤ 1000000000000000 ∧ r < cp (bytesOf s) then (strOfNums (wordR (bytesOf s) r), true) else ((⟨#[]⟩ : ByteArray), false)) := by
  by_cases hk : keysB s = true
  · obtain ⟨⟨_, h2⟩, hl⟩ := keysB_iff.1 hk
    by_cases hr : 0 ≤ r ∧ r ≤ 1000000000000000
    · obtain ⟨K0, h0⟩ := sameFrom_ev s (by omega) hl
      have hb0 := rd_behind (bytesOf s) 0 (by omega)
      rw [List.drop_zero] at hb0
      by_cases hc : r < cp (bytesOf s)
      · obtain ⟨K, h⟩ := iWordOfRank_l0 s (by omega) hl s.size 0 r [] (by omega) (by simp) hr.1 (by simpa using hc)
        refine ev_from (K0 + K) fun k hk' => ?_
        have e := h k (by omega)
        have e0 := h0 k (by omega)
        dsimp only at e e0
        unfold impl_WordOfRank.f
        rw [isKeys_is s hs, if_pos ⟨hk, hr.1, hr.2, hc⟩]
        simp only [bsome]
        rw [if_pos hk, in_is]
        simp only [bsome, impl_WordOfRank.j0]
        rw [if_neg (by simp [hr.1, hr.2]), e0]
        simp only [bsome]
        rw [if_pos (by rw [behind_length]; omega), show (0 : Int) = ((0 : Nat) : Int) from rfl, hb0, if_neg (by omega)]
        simpa using e
      · refine ev_from K0 fun k hk' => ?_
        have e0 := h0 k (by omega)
        dsimp only at e0
        unfold impl_WordOfRank.f
        rw [isKeys_is s hs, if_neg (fun h => hc h.2.2.2)]
        simp only [bsome]
        rw [if_pos hk, in_is]
        simp only [bsome, impl_WordOfRank.j0]
        rw [if_neg (by simp [hr.1, hr.2]), e0]
        simp only [bsome]
        rw [if_pos (by rw [behind_length]; omega), show (0 : Int) = ((0 : Nat) : Int) from rfl, hb0, if_pos (by omega)]
    · refine ev_from 0 fun k _ => ?_
      unfold impl_WordOfRank.f
      rw [isKeys_is s hs, if_neg (fun h => hr ⟨h.2.1, h.2.2.1⟩)]
      simp only [bsome]
      rw [if_pos hk, in_is]
      simp only [bsome, impl_WordOfRank.j0]
      rw [if_pos (by
        rcases Classical.not_and_iff_not_or_not.1 hr with h | h <;> simp [h])]
  · refine ev_from 0 fun k _ => ?_
    unfold impl_WordOfRank.f
    rw [isKeys_is s hs, if_neg (fun h => hk h.1)]
    simp only [bsome]
    rw [if_neg hk]
    simp only [impl_WordOfRank.j0]
    rw [if_pos trivial]

/-! ### the reference's word of a rank -/
theorem drop_extract (s : ByteArray) (i : Nat) : bytesOf (s.extract i s.size) = (bytesOf s).drop i := by
  rw [bytes_extract, List.take_of_length_le (by rw [bytesOf_length]; exact Nat.le_refl _)]
theorem grp_cut (c : Int) (h : 50 ≤ c ∧ c ≤ 57) (j : Nat) (h1 : (j : Int) < wid c) : (grpN c).extract j (j + 1) = strOfNums [firstL c + j] := by
  have hf := firstL_range c h
  refine bytes_ext ?_
  have hw : j < (wid c).toNat := by omega
  rw [bytes_extract, grpN_bytes c h, bytes_nums (by intro x hx; rw [List.mem_singleton] at hx; subst hx; omega), ← List.map_take, ← List.map_drop, List.take_range, show min (j + 1) (wid c).toNat = j + 1 by omega, List.range_succ, List.drop_append_of_le_length (by simp), List.drop_of_length_le (by simp)]
  rfl
theorem sWordOfRank_l0 (s : ByteArray) (hs : s.size ≤ 1000000) (hl : ∀ c ∈ bytesOf s, 50 ≤ c ∧ c ≤ 57) : ∀ (d i : Nat) (r : Int) (A : List Int), i + d = s.size → A.length ≤ i → 0 ≤ r → r < cp ((bytesOf s).drop i) →
    Ev (fun k => spec_WordOfRank.l0 k s r (strOfNums A) i) (strOfNums (A ++ wordR ((bytesOf s).drop i) r), true)
  | 0, i, r, A, h, hA, h0, h1 => by
    obtain rfl : i = s.size := by omega
    rw [drop_end]
    refine ev_from 0 fun k _ => ?_
    simp only [spec_WordOfRank.l0]
    rw [if_neg (by omega)]
    simp [wordR]
  | d + 1, i, r, A, h, hA, h0, h1 => by
    have hb := hl _ (bt_mem s i (by omega))
    have hcp := cp_range ((bytesOf s).drop (i + 1))
    have hlen := bytesOf_length s
    rw [drop_bytes s i (by omega)] at h1 ⊢
    have hd := div_small _ _ _ h0 h1
    have hf := firstL_range _ hb
    have hw := wid_or (bt s i)
    have hm0 := Int.emod_nonneg r (show cp ((bytesOf s).drop (i + 1)) ≠ 0 by omega)
    have hm1 := Int.emod_lt_of_pos r (show 0 < cp ((bytesOf s).drop (i + 1)) by omega)
    have hq : r - (r / cp ((bytesOf s).drop (i + 1))) * cp ((bytesOf s).drop (i + 1)) = r % cp ((bytesOf s).drop (i + 1)) := by rw [Int.emod_def, Int.mul_comm]
    have hcap : r < 1000000000000001 := by have := cp_range (bt s i :: (bytesOf s).drop (i + 1)); omega
    obtain ⟨q, hqn⟩ : ∃ q : Nat, r / cp ((bytesOf s).drop (i + 1)) = (q : Int) := ⟨(r / cp ((bytesOf s).drop (i + 1))).toNat, by omega⟩
    obtain ⟨K0, hS⟩ := prSame_ev (s.extract (i + 1) s.size) (by rw [size_bytes, drop_extract]; simp; omega) (by rw [drop_extract]; exact fun c hc => hl c (List.mem_of_mem_drop hc))
    rw [drop_extract] at hS
    obtain ⟨K, ih⟩ := sWordOfRank_l0 s hs hl d (i + 1) (r % cp ((bytesOf s).drop (i + 1))) (A ++ [firstL (bt s i) + q]) (by omega) (by simp; omega) hm0 hm1
    refine ev_from (K0 + K) fun k hk => ?_
    have e := ih k (by omega)
    have e0 := hS k (by omega)
    dsimp only at e e0
    simp only [spec_WordOfRank.l0]
    rw [if_pos (by omega), wr (x := (i : Int) + 1) (by omega) (by omega), if_pos (by omega), if_pos (by omega), show ((i : Int) + 1).toNat = i + 1 by omega, e0]
    simp only [bsome]
    rw [if_neg (by omega), if_pos (by omega), letters_is _ hb]
    simp only [bsome]
    rw [hqn] at hq hd
    rw [Int.tdiv_eq_ediv_of_nonneg h0, hqn, wr (x := (q : Int)) (by omega) (by omega), wr (x := (q : Int) + 1) (by omega) (by omega), if_pos (by omega), if_pos (by omega), if_pos (by rw [grpN_size]; omega), show ((q : Int) + 1).toNat = q + 1 by omega, Int.toNat_natCast, grp_cut _ hb _ (by omega),
      if_pos (by rw [size_nums, size_nums]; simp; omega), wr (x := (q : Int) * _) (by omega) (by omega), hq, wr (x := r % _) (by omega) (by omega), ← nums_append, show ((i : Int) + 1) = ((i + 1 : Nat) : Int) from rfl, e]
    simp only [wordR, List.append_assoc, List.cons_append, List.nil_append]
    rw [hqn]
theorem sWordOfRank_ev (s : ByteArray) (r : Int) (hs : s.size ≤ 140737488351232) : Ev (fun k => spec_WordOfRank.f k s r)
    (if keysB s = true ∧ 0 ≤ r ∧ r ≤ 1000000000000000 ∧ r < cp (bytesOf s) then (strOfNums (wordR (bytesOf s) r), true) else ((⟨#[]⟩ : ByteArray), false)) := by
  obtain ⟨K0, h0⟩ := prGood_ev s hs
  by_cases hk : keysB s = true
  · obtain ⟨⟨_, h2⟩, hl⟩ := keysB_iff.1 hk
    obtain ⟨K1, h1⟩ := prSame_ev s (by omega) hl
    by_cases hr : 0 ≤ r ∧ r ≤ 1000000000000000 ∧ r < cp (bytesOf s)
    · obtain ⟨K, h⟩ := sWordOfRank_l0 s (by omega) hl s.size 0 r [] (by omega) (by simp) hr.1 (by simpa using hr.2.2)
      rw [if_pos ⟨hk, hr⟩]
      refine ev_from (K0 + K1 + K) fun k hk' => ?_
      have e0 := h0 (k + 1) (by omega)
      have e1 := h1 (k + 1) (by omega)
      have e := h k (by omega)
      dsimp only at e e0 e1
      rw [show strOfNums [] = (⟨#[]⟩ : ByteArray) from rfl] at e
      unfold spec_WordOfRank.f
      rw [e0]
      simp only [bsome]
      rw [if_pos hk, if_neg (by omega), e1]
      simp only [bsome]
      rw [if_neg (by omega), decide_eq_false (by omega)]
      simp only [spec_WordOfRank.j0]
      rw [if_neg (by simp)]
      simpa using e
    · rw [if_neg (fun h => hr h.2)]
      refine ev_from (K0 + K1) fun k hk' => ?_
      have e0 := h0 (k + 1) (by omega)
      have e1 := h1 (k + 1) (by omega)
      dsimp only at e0 e1
      unfold spec_WordOfRank.f
      rw [e0]
      simp only [bsome]
      rw [if_pos hk]
      by_cases hn : r < 0
      · rw [if_pos hn]
        simp only [spec_WordOfRank.j0]
        rw [if_pos trivial]
      · rw [if_neg hn, e1]
        simp only [bsome]
        by_cases hc : r ≥ cp (bytesOf s)
        · rw [if_pos hc]
          simp only [spec_WordOfRank.j0]
          rw [if_pos trivial]
        · rw [if_neg hc, decide_eq_true (by omega)]
          simp only [spec_WordOfRank.j0]
          rw [if_pos trivial]
  · rw [if_neg (fun h => hk h.1)]
    refine ev_from K0 fun k hk' => ?_
    have e0 := h0 (k + 1) (by omega)
    dsimp only at e0
    unfold spec_WordOfRank.f
    rw [e0]
    simp only [bsome]
    rw [if_neg hk]
    simp only [spec_WordOfRank.j0]
    rw [if_pos trivial]
end Go.Proofs.YtjnebonphbgkgaaDoor.Pu
