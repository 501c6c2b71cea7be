/- Parts of the proof (printed walks, lemmas of our own, contracts of the library laid for this program), merged into one text by wip/mclaim.py. Conditions: each theorem's own. -/
import Derived.Test.YtldnddehmpbbpaaGreatDoorM0
import Derived.Test.YtldnddehmpbbpaaGreatDoorM1
import Derived.Test.YtldnddehmpbbpaaGreatDoorM2
import Derived.Test.YtldnddehmpbbpaaGreatDoorM3
import Derived.Test.YtldnddehmpbbpaaGreatDoorM5
import Derived.Test.YtldnddehmpbbpaaGreatDoorM4
import Derived.Laws.BitsLemmas
section
namespace Go.Proofs.YtldnddehmpbbpaaGreatDoor.Pu
open Go.RowKit Go.Proofs.YtldnddehmpbbpaaGreatDoor.P Go.Proofs.YtldnddehmpbbpaaGreatDoorW.PrintWords Go.Proofs.YtldnddehmpbbpaaGreatDoorW.PrintLast Go.Proofs.YtldnddehmpbbpaaGreatDoorW.PrintMore
def lookN (c : Bool) : List Int → Int → Int → Int × Int
  | [], _, _ => (0, 1)
  | p :: L, l, r =>
    if (lookN c L l p).1 + distN r p c < (lookN c L p r).1 + distN l p c then ((lookN c L l p).1 + distN r p c, (lookN c L l p).2)
    else if (lookN c L l p).1 + distN r p c = (lookN c L p r).1 + distN l p c then ((lookN c L p r).1 + distN l p c, (lookN c L p r).2 + (lookN c L l p).2)
    else ((lookN c L p r).1 + distN l p c, (lookN c L p r).2)
def twoN : Nat → Int
  | 0 => 1
  | n + 1 => 2 * twoN n
theorem twoN_pos : ∀ n, 1 ≤ twoN n
  | 0 => by decide
  | n + 1 => by
    have := twoN_pos n
    rw [twoN]
    omega
theorem twoN_le : ∀ d n, n + d = 30 → twoN n ≤ 1073741824
  | 0, n, h => by
    obtain rfl : n = 30 := by omega
    decide
  | d + 1, n, h => by
    have := twoN_le d (n + 1) (by omega)
    have h0 := twoN_pos n
    rw [twoN] at this
    omega
theorem lookN_range (c : Bool) : ∀ (L : List Int) (l r : Int), (∀ p ∈ L, 0 ≤ p ∧ p ≤ 11) → (0 ≤ l ∧ l ≤ 11) → (0 ≤ r ∧ r ≤ 11) → (0 ≤ (lookN c L l r).1 ∧ (lookN c L l r).1 ≤ 5 * L.length) ∧ 1 ≤ (lookN c L l r).2 ∧ (lookN c L l r).2 ≤ twoN L.length
  | [], l, r, _, _, _ => by simp [lookN, twoN]
  | p :: L, l, r, h, hl, hr => by
    have hp := h p (by simp)
    obtain ⟨⟨a0, a1⟩, a2, a3⟩ := lookN_range c L p r (fun q hq => h q (by simp [hq])) hp hr
    obtain ⟨⟨b0, b1⟩, b2, b3⟩ := lookN_range c L l p (fun q hq => h q (by simp [hq])) hl hp
    have d1 := distN_range hl hp c
    have d2 := distN_range hr hp c
    rw [lookN, List.length_cons, twoN]
    split
    · dsimp only
      omega
    · split
      · dsimp only
        omega
      · dsimp only
        omega
theorem lookN_small (c : Bool) {L : List Int} {l r : Int} (hL : ∀ p ∈ L, 0 ≤ p ∧ p ≤ 11) (hn : L.length ≤ 30) (hl : 0 ≤ l ∧ l ≤ 11) (hr : 0 ≤ r ∧ r ≤ 11) : (0 ≤ (lookN c L l r).1 ∧ (lookN c L l r).1 ≤ 150) ∧ 1 ≤ (lookN c L l r).2 ∧ (lookN c L l r).2 ≤ 1073741824 := by
  obtain ⟨⟨a0, a1⟩, a2, a3⟩ := lookN_range c L l r hL hl hr
  have := twoN_le (30 - L.length) L.length (by omega)
  omega
theorem moved0_is {l r p : Int} (hl : 0 ≤ l ∧ l ≤ 11) (hp : 0 ≤ p ∧ p ≤ 11) (c : Bool) : impl_thumbs_moved.f l r 0 p c = some (p, r, distN l p c) := by
  unfold impl_thumbs_moved.f
  rw [if_pos rfl, distance_is hl hp, bsome]
theorem moved1_is {l r p : Int} (hr : 0 ≤ r ∧ r ≤ 11) (hp : 0 ≤ p ∧ p ≤ 11) (c : Bool) : impl_thumbs_moved.f l r 1 p c = some (l, p, distN r p c) := by
  unfold impl_thumbs_moved.f
  rw [if_neg (by decide), distance_is hr hp, bsome]
theorem look_is (c : Bool) : ∀ (L : List Int) (l r : Int), (∀ p ∈ L, 0 ≤ p ∧ p ≤ 11) → L.length ≤ 30 → (0 ≤ l ∧ l ≤ 11) → (0 ≤ r ∧ r ≤ 11) → impl_newLooker.look c L l r = some (lookN c L l r)
  | [], l, r, _, _, _, _ => rfl
  | p :: L, l, r, h, hn, hl, hr => by
    have hp := h p (by simp)
    have hL : ∀ q ∈ L, 0 ≤ q ∧ q ≤ 11 := fun q hq => h q (by simp [hq])
    rw [List.length_cons] at hn
    have ha := lookN_small c hL (by omega) hp hr
    have hb := lookN_small c hL (by omega) hl hp
    have d1 := distN_range hl hp c
    have d2 := distN_range hr hp c
    rw [impl_newLooker.look, moved0_is hl hp, bsome]
    dsimp only
    rw [look_is c L p r hL (by omega) hp hr, bsome, moved1_is hr hp, bsome]
    dsimp only
    rw [look_is c L l p hL (by omega) hl hp, bsome, lookN]
    generalize lookN c L p r = A at *
    generalize lookN c L l p = B at *
    unfold impl_newLooker.rnd
    rw [if_pos (show (-1 : Int) < 0 ∨ wrap64 (A.1 + distN l p c) < -1 from Or.inl (by decide))]
    dsimp only
    rw [wr (x := A.1 + distN l p c) (by omega) (by omega), wr (x := B.1 + distN r p c) (by omega) (by omega), wr (x := A.2 + B.2) (by omega) (by omega)]
    by_cases h1 : B.1 + distN r p c < A.1 + distN l p c
    · rw [if_pos (Or.inr h1), if_pos h1]
    · rw [if_neg (by omega), if_neg h1]
theorem from_is (k : Nat) (c : Bool) {L : List Int} {i : Nat} {l r : Int} (hL : ∀ p ∈ L, 0 ≤ p ∧ p ≤ 11) (hn : L.length ≤ 30) (hi : i ≤ L.length) (hl : 0 ≤ l ∧ l ≤ 11) (hr : 0 ≤ r ∧ r ≤ 11) : impl_looker_from.f k (L, c) (i : Int) l r = some (lookN c (L.drop i) l r) := by
  have hall : ((L, c).1.all fun p => decide (0 ≤ p) && decide (p ≤ 11)) = true := by
    rw [List.all_eq_true]
    intro q hq
    simpa using hL q hq
  unfold impl_looker_from.f
  rw [if_pos ⟨by omega, (show (i : Int) ≤ (L.length : Int) by omega), (show L.length ≤ 1000 by omega), hl, hr, hall⟩]
  show impl_newLooker.look c (L.drop (i : Int).toNat) l r = _
  rw [Int.toNat_natCast]
  exact look_is c _ l r (fun p hp => hL p (List.mem_of_mem_drop hp)) (by rw [List.length_drop]; omega) hl hr
theorem newLooker_ev (s : ByteArray) (h : dialB s = true) (c : Bool) : Ev (fun k => impl_newLooker.f k s c) (placesN s, c) := by
  obtain ⟨K, e⟩ := places_ev s h
  have hs := (dialB_iff.1 h).1
  refine ev_from K fun k hk => ?_
  have e := e (k + 1) (by omega)
  dsimp only at e
  unfold impl_newLooker.f
  rw [e, bsome, if_pos ⟨placesN_length s, by omega⟩]
def rowL (c : Bool) (M : List Int) : List Int := (List.range 144).map fun i => (lookN c M ((i / 12 : Nat) : Int) ((i % 12 : Nat) : Int)).1
def rowW (c : Bool) (M : List Int) : List Int := (List.range 144).map fun i => (lookN c M ((i / 12 : Nat) : Int) ((i % 12 : Nat) : Int)).2
theorem rowL_length (c : Bool) (M : List Int) : (rowL c M).length = 144 := by simp [rowL]
theorem rowW_length (c : Bool) (M : List Int) : (rowW c M).length = 144 := by simp [rowW]
theorem rowL_at (c : Bool) (M : List Int) {i : Nat} (h : i < 144) : (rowL c M).getD i 0 = (lookN c M ((i / 12 : Nat) : Int) ((i % 12 : Nat) : Int)).1 := by
  rw [List.getD_eq_getElem?_getD, List.getElem?_eq_getElem (by rw [rowL_length]; exact h)]
  simp [rowL]
theorem rowW_at (c : Bool) (M : List Int) {i : Nat} (h : i < 144) : (rowW c M).getD i 0 = (lookN c M ((i / 12 : Nat) : Int) ((i % 12 : Nat) : Int)).2 := by
  rw [List.getD_eq_getElem?_getD, List.getElem?_eq_getElem (by rw [rowW_length]; exact h)]
  simp [rowW]
theorem rowL_two (c : Bool) (M : List Int) {a b : Nat} (ha : a < 12) (hb : b < 12) : (rowL c M).getD (12 * a + b) 0 = (lookN c M (a : Int) (b : Int)).1 := by
  rw [rowL_at c M (by omega), show (12 * a + b) / 12 = a by omega, show (12 * a + b) % 12 = b by omega]
theorem rowW_two (c : Bool) (M : List Int) {a b : Nat} (ha : a < 12) (hb : b < 12) : (rowW c M).getD (12 * a + b) 0 = (lookN c M (a : Int) (b : Int)).2 := by
  rw [rowW_at c M (by omega), show (12 * a + b) / 12 = a by omega, show (12 * a + b) % 12 = b by omega]
theorem stp_ev (c : Bool) {M : List Int} {key : Int} (hM : ∀ p ∈ M, 0 ≤ p ∧ p ≤ 11) (hn : M.length ≤ 29) (hk : isPad key = true) {i : Nat} (hi : i < 144) :
    Ev (fun k => spec_thTable.stp k c key (plN key).toNat (rowL c M) (rowW c M) i 0) (lookN c (plN key :: M) ((i / 12 : Nat) : Int) ((i % 12 : Nat) : Int)) := by
  have hp := plN_range hk
  have hl : (0 : Int) ≤ ((i / 12 : Nat) : Int) ∧ ((i / 12 : Nat) : Int) ≤ 11 := by omega
  have hr : (0 : Int) ≤ ((i % 12 : Nat) : Int) ∧ ((i % 12 : Nat) : Int) ≤ 11 := by omega
  obtain ⟨K1, e1⟩ := thFar_ev (padC_pad hl) hk c
  obtain ⟨K2, e2⟩ := thFar_ev (padC_pad hr) hk c
  refine ⟨K1 + K2, fun k hk2 => ?_⟩
  have e1 := e1 k (by omega)
  have e2 := e2 k (by omega)
  rw [plN_padC hl] at e1
  rw [plN_padC hr] at e2
  have a1 : bt spec_thTable.pad ((i / 12 : Nat) : Int) = padC ((i / 12 : Nat) : Int) := pad_bt hl
  have a2 : bt spec_thTable.pad ((i % 12 : Nat) : Int) = padC ((i % 12 : Nat) : Int) := pad_bt hr
  have hpn : (((plN key).toNat : Nat) : Int) = plN key := by omega
  have l1 := rowL_two c M (a := (plN key).toNat) (b := i % 12) (by omega) (by omega)
  have l2 := rowL_two c M (a := i / 12) (b := (plN key).toNat) (by omega) (by omega)
  have w1 := rowW_two c M (a := (plN key).toNat) (b := i % 12) (by omega) (by omega)
  have w2 := rowW_two c M (a := i / 12) (b := (plN key).toNat) (by omega) (by omega)
  rw [hpn] at l1 l2 w1 w2
  have hA := lookN_small c hM (by omega) hp hr
  have hB := lookN_small c hM (by omega) hl hp
  have d1 := distN_range hl hp c
  have d2 := distN_range hr hp c
  dsimp only at e1 e2 ⊢
  unfold spec_thTable.stp
  rw [a1, e1, bsome, a2, e2, bsome, l1, l2, w1, w2, lookN]
  generalize lookN c M (plN key) ((i % 12 : Nat) : Int) = A at *
  generalize lookN c M ((i / 12 : Nat) : Int) (plN key) = B at *
  generalize distN ((i / 12 : Nat) : Int) (plN key) c = da at *
  generalize distN ((i % 12 : Nat) : Int) (plN key) c = db at *
  clear e1 e2 a1 a2 l1 l2 w1 w2
  rw [wr (x := da + A.1) (by omega) (by omega), wr (x := db + B.1) (by omega) (by omega), Int.zero_add, wr (x := A.2) (by omega) (by omega)]
  unfold spec_l1Least.f
  by_cases h1 : B.1 + db < A.1 + da
  · rw [if_neg (show ¬ da + A.1 < db + B.1 by omega), bsome, if_pos h1, if_pos (show db + B.1 ≤ da + A.1 by omega), if_neg (show ¬ da + A.1 ≤ db + B.1 by omega), Int.zero_add, wr (x := B.2) (by omega) (by omega), if_pos (show B.2 < 1000000000000001 by omega), bsome, Int.add_comm db]
  · by_cases h2 : B.1 + db = A.1 + da
    · rw [if_neg (show ¬ da + A.1 < db + B.1 by omega), bsome, if_neg h1, if_pos h2, if_pos (show db + B.1 ≤ da + A.1 by omega), if_pos (show da + A.1 ≤ db + B.1 by omega), wr (x := A.2 + B.2) (by omega) (by omega), if_pos (show A.2 + B.2 < 1000000000000001 by omega), bsome, show db + B.1 = A.1 + da by omega]
    · rw [if_pos (show da + A.1 < db + B.1 by omega), bsome, if_neg h1, if_neg h2, if_neg (show ¬ db + B.1 ≤ da + A.1 by omega), if_pos (show da + A.1 ≤ db + B.1 by omega), if_pos (show A.2 < 1000000000000001 by omega), bsome, Int.add_comm da]
def preN (F : List Int) (i : Nat) : List Int := F.take i ++ List.replicate (144 - i) 0
theorem preN_at {F : List Int} {i : Nat} (hF : F.length = 144) (hi : i < 144) : (preN F i).getD i 0 = 0 := by
  unfold preN
  rw [List.getD_eq_getElem?_getD, List.getElem?_append_right (by rw [List.length_take]; omega), List.length_take, show i - min i F.length = 0 by omega, show 144 - i = (143 - i) + 1 by omega, List.replicate_succ]
  rfl
theorem preN_set {F : List Int} {i : Nat} (hF : F.length = 144) (hi : i < 144) : (preN F i).set i (F.getD i 0) = preN F (i + 1) := by
  unfold preN
  rw [List.set_append_right _ _ (by rw [List.length_take]; omega), List.length_take, show i - min i F.length = 0 by omega, show 144 - i = (144 - (i + 1)) + 1 by omega, List.replicate_succ, List.set_cons_zero, List.take_succ_eq_append_getElem (by omega), List.append_assoc, List.getD_eq_getElem?_getD, List.getElem?_eq_getElem (by omega)]
  rfl
theorem inr_ev (c : Bool) {M : List Int} {key : Int} (hM : ∀ p ∈ M, 0 ≤ p ∧ p ≤ 11) (hn : M.length ≤ 29) (hk : isPad key = true) : ∀ (d i : Nat), i + d = 144 →
    Ev (fun k => spec_thTable.inr k c key (plN key).toNat (rowL c M) (rowW c M) d i (preN (rowL c (plN key :: M)) i) (preN (rowW c (plN key :: M)) i)) (rowL c (plN key :: M), rowW c (plN key :: M))
  | 0, i, h => by
    obtain rfl : i = 144 := by omega
    refine ⟨0, fun k _ => ?_⟩
    show some _ = _
    unfold preN
    rw [List.take_of_length_le (by rw [rowL_length]; omega), List.take_of_length_le (by rw [rowW_length]; omega)]
    simp
  | d + 1, i, h => by
    obtain ⟨K1, e1⟩ := stp_ev c hM hn hk (i := i) (by omega)
    obtain ⟨K2, e2⟩ := inr_ev c hM hn hk d (i + 1) (by omega)
    refine ⟨K1 + K2, fun k hk2 => ?_⟩
    have e1 := e1 k (by omega)
    have e2 := e2 k (by omega)
    dsimp only at e1 e2 ⊢
    rw [spec_thTable.inr, preN_at (rowW_length _ _) (by omega), e1, bsome, ← rowL_at c _ (by omega), ← rowW_at c _ (by omega), preN_set (rowL_length _ _) (by omega), preN_set (rowW_length _ _) (by omega)]
    exact e2
theorem row_ev (c : Bool) {M : List Int} {key : Int} (hM : ∀ p ∈ M, 0 ≤ p ∧ p ≤ 11) (hn : M.length ≤ 29) (hk : isPad key = true) :
    Ev (fun k => spec_thTable.row k c key (rowL c M, rowW c M)) (rowL c (plN key :: M), rowW c (plN key :: M)) := by
  obtain ⟨K1, e1⟩ := thPlace_pad key hk
  obtain ⟨K2, e2⟩ := inr_ev c hM hn hk 144 0 (by omega)
  have hp := plN_range hk
  refine ⟨K1 + K2, fun k hk2 => ?_⟩
  have e1 := e1 k (by omega)
  have e2 := e2 k (by omega)
  dsimp only at e1 e2 ⊢
  unfold spec_thTable.row
  rw [e1, bsome, if_pos hp]
  exact e2
def rowN (s : ByteArray) (c : Bool) (e : Nat) : List Int × List Int := (rowL c ((placesN s).drop (s.size - e)), rowW c ((placesN s).drop (s.size - e)))
theorem go_ev (s : ByteArray) (h : dialB s = true) (c : Bool) : ∀ (d : Nat), d ≤ s.size → Ev (fun k => spec_thTable.go k s c d ((List.range (s.size - d + 1)).map (rowN s c))) ((List.range (s.size + 1)).map (rowN s c))
  | 0, _ => ⟨0, fun k _ => rfl⟩
  | d + 1, hd => by
    have hs := (dialB_iff.1 h).1
    have hq := (dialB_iff.1 h).2 _ (bt_mem s d (by omega))
    have hm : ∀ p ∈ (placesN s).drop (d + 1), 0 ≤ p ∧ p ≤ 11 := fun p hp => placesN_range h p (List.mem_of_mem_drop hp)
    obtain ⟨K1, e1⟩ := row_ev c hm (by rw [List.length_drop, placesN_length]; omega) hq
    obtain ⟨K2, e2⟩ := go_ev s h c d (by omega)
    refine ⟨K1 + K2, fun k hk => ?_⟩
    have e1 := e1 k (by omega)
    have e2 := e2 k (by omega)
    dsimp only at e1 e2 ⊢
    have hlast : ((List.range (s.size - (d + 1) + 1)).map (rowN s c)).getD (((List.range (s.size - (d + 1) + 1)).map (rowN s c)).length - 1) ([], []) = (rowL c ((placesN s).drop (d + 1)), rowW c ((placesN s).drop (d + 1))) := by
      rw [List.length_map, List.length_range, List.getD_eq_getElem?_getD, List.getElem?_map, List.getElem?_range (by omega)]
      show rowN s c (s.size - (d + 1) + 1 - 1) = _
      unfold rowN
      rw [show s.size - (s.size - (d + 1) + 1 - 1) = d + 1 by omega]
    have hnew : (rowL c (plN (bt s (d : Int)) :: (placesN s).drop (d + 1)), rowW c (plN (bt s (d : Int)) :: (placesN s).drop (d + 1))) = rowN s c (s.size - d) := by
      rw [← drop_places s d (by omega)]
      unfold rowN
      rw [show s.size - (s.size - d) = d by omega]
    rw [spec_thTable.go, hlast, e1, bsome, hnew, show s.size - (d + 1) + 1 = s.size - d by omega, ← e2, List.range_succ, List.map_append]
    rfl
def tabL (s : ByteArray) (c : Bool) : List (List Int) := (((List.range (s.size + 1)).map (rowN s c)).map Prod.fst).reverse
def tabW (s : ByteArray) (c : Bool) : List (List Int) := (((List.range (s.size + 1)).map (rowN s c)).map Prod.snd).reverse
theorem thTable_ev (s : ByteArray) (h : dialB s = true) (c : Bool) : Ev (fun k => spec_thTable.f k s c) (tabL s c, tabW s c) := by
  obtain ⟨K, e⟩ := go_ev s h c s.size (Nat.le_refl _)
  have hs := (dialB_iff.1 h).1
  refine ⟨K, fun k hk => ?_⟩
  have e := e k hk
  dsimp only at e ⊢
  have h0 : (List.range (s.size - s.size + 1)).map (rowN s c) = [(List.replicate 144 0, List.replicate 144 1)] := by
    rw [Nat.sub_self, Nat.zero_add, List.range_one, List.map_singleton]
    unfold rowN
    rw [Nat.sub_zero, List.drop_eq_nil_of_le (by rw [placesN_length]; exact Nat.le_refl _)]
    unfold rowL rowW
    simp only [lookN]
    rw [List.map_const', List.map_const', List.length_range]
  rw [h0] at e
  unfold spec_thTable.f spec_thTable.g
  rw [if_pos (by omega), e, bsome]
  rfl
theorem tabL_length (s : ByteArray) (c : Bool) : (tabL s c).length = s.size + 1 := by simp [tabL]
theorem tabW_length (s : ByteArray) (c : Bool) : (tabW s c).length = s.size + 1 := by simp [tabW]
theorem rowN_at (s : ByteArray) (c : Bool) {j : Nat} (hj : j ≤ s.size) : ((List.range (s.size + 1)).map (rowN s c)).getD (s.size - j) ([], []) = (rowL c ((placesN s).drop j), rowW c ((placesN s).drop j)) := by
  rw [List.getD_eq_getElem?_getD, List.getElem?_map, List.getElem?_range (by omega)]
  show rowN s c (s.size - j) = _
  unfold rowN
  rw [show s.size - (s.size - j) = j by omega]
theorem tabL_at (s : ByteArray) (c : Bool) {j : Nat} (hj : j ≤ s.size) : rd_L4 (tabL s c) (j : Int) = rowL c ((placesN s).drop j) := by
  unfold rd_L4 tabL
  rw [Int.toNat_natCast, spec_thTable.rev_at Prod.fst rfl (by rw [List.length_map, List.length_range]) hj, rowN_at s c hj]
theorem tabW_at (s : ByteArray) (c : Bool) {j : Nat} (hj : j ≤ s.size) : rd_L4 (tabW s c) (j : Int) = rowW c ((placesN s).drop j) := by
  unfold rd_L4 tabW
  rw [Int.toNat_natCast, spec_thTable.rev_at Prod.snd rfl (by rw [List.length_map, List.length_range]) hj, rowN_at s c hj]
theorem rdL_two (c : Bool) (M : List Int) {a b : Int} (ha : 0 ≤ a ∧ a ≤ 11) (hb : 0 ≤ b ∧ b ≤ 11) : rd (rowL c M) (12 * a + b) = (lookN c M a b).1 := by
  have := rowL_two c M (a := a.toNat) (b := b.toNat) (by omega) (by omega)
  rw [show ((a.toNat : Nat) : Int) = a by omega, show ((b.toNat : Nat) : Int) = b by omega, show 12 * a.toNat + b.toNat = (12 * a + b).toNat by omega] at this
  exact this
theorem rdW_two (c : Bool) (M : List Int) {a b : Int} (ha : 0 ≤ a ∧ a ≤ 11) (hb : 0 ≤ b ∧ b ≤ 11) : rd (rowW c M) (12 * a + b) = (lookN c M a b).2 := by
  have := rowW_two c M (a := a.toNat) (b := b.toNat) (by omega) (by omega)
  rw [show ((a.toNat : Nat) : Int) = a by omega, show ((b.toNat : Nat) : Int) = b by omega, show 12 * a.toNat + b.toNat = (12 * a + b).toNat by omega] at this
  exact this
theorem thAt_ev (l r : ByteArray) (hl : oneB l = true) (hr : oneB r = true) : Ev (fun k => spec_thAt.f k l r) (12 * plN (bt l 0) + plN (bt r 0)) := by
  obtain ⟨l1, pl⟩ := oneB_iff.1 hl
  obtain ⟨r1, pr⟩ := oneB_iff.1 hr
  obtain ⟨K1, e1⟩ := thPlace_pad _ pl
  obtain ⟨K2, e2⟩ := thPlace_pad _ pr
  have p1 := plN_range pl
  have p2 := plN_range pr
  refine ⟨K1 + K2, fun k hk => ?_⟩
  have e1 := e1 k (by omega)
  have e2 := e2 k (by omega)
  dsimp only at e1 e2 ⊢
  unfold spec_thAt.f
  rw [if_pos (by omega), e1, bsome, if_pos (by omega), e2, bsome, wr (x := 12 * plN (bt l 0)) (by omega) (by omega), wr (by omega) (by omega)]
theorem bothB_iff {s l r : ByteArray} (h : bothB s l r = true) : dialB s = true ∧ oneB l = true ∧ oneB r = true := by
  unfold bothB at h
  rw [Bool.and_eq_true, Bool.and_eq_true] at h
  exact ⟨h.1, h.2.1, h.2.2⟩
def startN (s l r : ByteArray) (c : Bool) : Int × Int := lookN c (placesN s) (plN (bt l 0)) (plN (bt r 0))
theorem startN_small {s l r : ByteArray} (h : bothB s l r = true) (c : Bool) : (0 ≤ (startN s l r c).1 ∧ (startN s l r c).1 ≤ 150) ∧ 1 ≤ (startN s l r c).2 ∧ (startN s l r c).2 ≤ 1073741824 := by
  obtain ⟨hd, h1, h2⟩ := bothB_iff h
  exact lookN_small c (placesN_range hd) (by rw [placesN_length]; exact (dialB_iff.1 hd).1) (plN_range (oneB_iff.1 h1).2) (plN_range (oneB_iff.1 h2).2)
theorem twoS_ev (s l r : ByteArray) (c : Bool) : Ev (fun k => spec_TwoThumbs.f k s l r c) (if bothB s l r = true then ((startN s l r c).1, true) else (0, false)) := by
  obtain ⟨K1, e1⟩ := thBoth_ev s l r
  cases hb : bothB s l r with
  | false =>
    refine ⟨K1, fun k hk => ?_⟩
    have e1 := e1 k hk
    rw [hb] at e1
    dsimp only at e1 ⊢
    unfold spec_TwoThumbs.f
    rw [e1, bsome]
    rfl
  | true =>
    obtain ⟨hd, h1, h2⟩ := bothB_iff hb
    have p1 := plN_range (oneB_iff.1 h1).2
    have p2 := plN_range (oneB_iff.1 h2).2
    obtain ⟨K2, e2⟩ := thTable_ev s hd c
    obtain ⟨K3, e3⟩ := thAt_ev l r h1 h2
    refine ⟨K1 + K2 + K3, fun k hk => ?_⟩
    have e1 := e1 k (by omega)
    have e2 := e2 k (by omega)
    have e3 := e3 k (by omega)
    rw [hb] at e1
    dsimp only at e1 e2 e3 ⊢
    have ht : rd_L4 (tabL s c) 0 = rowL c (placesN s) := tabL_at s c (Nat.zero_le s.size)
    have hl : ((rd_L4 (tabL s c) 0).length : Int) = 144 := by
      rw [ht, rowL_length]
      rfl
    have hv : rd (rd_L4 (tabL s c) 0) (12 * plN (bt l 0) + plN (bt r 0)) = (startN s l r c).1 := by
      rw [ht, rdL_two c _ p1 p2]
      rfl
    unfold spec_TwoThumbs.f
    rw [e1, bsome, if_pos rfl, e2, bsome]
    dsimp only
    rw [if_pos (by rw [tabL_length]; omega), e3, bsome, if_pos (by omega), if_pos (by omega), hv, if_pos rfl]
theorem twoI_ev (s l r : ByteArray) (c : Bool) (hs : s.size ≤ 140737488351232) (hl : l.size ≤ 140737488351232) (hr : r.size ≤ 140737488351232) : Ev (fun k => impl_TwoThumbs.f k s l r c) (if bothB s l r = true then ((startN s l r c).1, true) else (0, false)) := by
  obtain ⟨K1, e1⟩ := thumbsOk_ev s l r hs hl hr
  cases hb : bothB s l r with
  | false =>
    refine ⟨K1, fun k hk => ?_⟩
    have e1 := e1 k hk
    rw [hb] at e1
    dsimp only at e1 ⊢
    unfold impl_TwoThumbs.f
    rw [e1, bsome]
    rfl
  | true =>
    obtain ⟨hd, h1, h2⟩ := bothB_iff hb
    have p1 := plN_range (oneB_iff.1 h1).2
    have p2 := plN_range (oneB_iff.1 h2).2
    obtain ⟨K2, e2⟩ := newLooker_ev s hd c
    refine ⟨K1 + K2, fun k hk => ?_⟩
    have e1 := e1 k (by omega)
    have e2 := e2 k (by omega)
    rw [hb, if_pos rfl] at e1
    dsimp only at e1 e2 ⊢
    have hf := from_is k c (L := placesN s) (i := 0) (placesN_range hd) (by rw [placesN_length]; exact (dialB_iff.1 hd).1) (Nat.zero_le _) p1 p2
    rw [List.drop_zero] at hf
    unfold impl_TwoThumbs.f
    rw [e1, bsome]
    dsimp only
    rw [if_pos rfl, e2, bsome, show (impl_looker_from.f k (placesN s, c) 0 (plN (bt l 0)) (plN (bt r 0))) = some (startN s l r c) from hf, bsome, if_pos rfl]
theorem countS_ev (s l r : ByteArray) (c : Bool) : Ev (fun k => spec_CountThumbs.f k s l r c) (if bothB s l r = true then ((startN s l r c).2, true) else (0, false)) := by
  obtain ⟨K1, e1⟩ := thBoth_ev s l r
  cases hb : bothB s l r with
  | false =>
    refine ⟨K1, fun k hk => ?_⟩
    have e1 := e1 k hk
    rw [hb] at e1
    dsimp only at e1 ⊢
    unfold spec_CountThumbs.f
    rw [e1, bsome]
    rfl
  | true =>
    obtain ⟨hd, h1, h2⟩ := bothB_iff hb
    have p1 := plN_range (oneB_iff.1 h1).2
    have p2 := plN_range (oneB_iff.1 h2).2
    have hsm := startN_small hb c
    obtain ⟨K2, e2⟩ := thTable_ev s hd c
    obtain ⟨K3, e3⟩ := thAt_ev l r h1 h2
    refine ⟨K1 + K2 + K3, fun k hk => ?_⟩
    have e1 := e1 k (by omega)
    have e2 := e2 k (by omega)
    have e3 := e3 k (by omega)
    rw [hb] at e1
    dsimp only at e1 e2 e3 ⊢
    have ht : rd_L4 (tabW s c) 0 = rowW c (placesN s) := tabW_at s c (Nat.zero_le s.size)
    have hl : ((rd_L4 (tabW s c) 0).length : Int) = 144 := by
      rw [ht, rowW_length]
      rfl
    have hv : rd (rd_L4 (tabW s c) 0) (12 * plN (bt l 0) + plN (bt r 0)) = (startN s l r c).2 := by
      rw [ht, rdW_two c _ p1 p2]
      rfl
    unfold spec_CountThumbs.f
    rw [e1, bsome, if_pos rfl, e2, bsome]
    dsimp only
    rw [if_pos (by rw [tabW_length]; omega), e3, bsome, if_pos (by omega), if_pos (by omega), hv, if_pos (by omega), if_pos rfl]
theorem countI_ev (s l r : ByteArray) (c : Bool) (hs : s.size ≤ 140737488351232) (hl : l.size ≤ 140737488351232) (hr : r.size ≤ 140737488351232) : Ev (fun k => impl_CountThumbs.f k s l r c) (if bothB s l r = true then ((startN s l r c).2, true) else (0, false)) := by
  obtain ⟨K1, e1⟩ := thumbsOk_ev s l r hs hl hr
  cases hb : bothB s l r with
  | false =>
    refine ⟨K1, fun k hk => ?_⟩
    have e1 := e1 k hk
    rw [hb] at e1
    dsimp only at e1 ⊢
    unfold impl_CountThumbs.f
    rw [e1, bsome]
    rfl
  | true =>
    obtain ⟨hd, h1, h2⟩ := bothB_iff hb
    have p1 := plN_range (oneB_iff.1 h1).2
    have p2 := plN_range (oneB_iff.1 h2).2
    have hsm := startN_small hb c
    obtain ⟨K2, e2⟩ := newLooker_ev s hd c
    refine ⟨K1 + K2, fun k hk => ?_⟩
    have e1 := e1 k (by omega)
    have e2 := e2 k (by omega)
    rw [hb, if_pos rfl] at e1
    dsimp only at e1 e2 ⊢
    have hf := from_is k c (L := placesN s) (i := 0) (placesN_range hd) (by rw [placesN_length]; exact (dialB_iff.1 hd).1) (Nat.zero_le _) p1 p2
    rw [List.drop_zero] at hf
    unfold impl_CountThumbs.f
    rw [e1, bsome]
    dsimp only
    rw [if_pos rfl, e2, bsome, show (impl_looker_from.f k (placesN s, c) 0 (plN (bt l 0)) (plN (bt r 0))) = some (startN s l r c) from hf, bsome, if_neg (by omega), if_pos rfl]
end Go.Proofs.YtldnddehmpbbpaaGreatDoor.Pu
end

section
namespace Go.Proofs.YtldnddehmpbbpaaGreatDoor.Pu
open Go.RowKit Go.Proofs.YtldnddehmpbbpaaGreatDoor.P Go.Proofs.YtldnddehmpbbpaaGreatDoorW.PrintWords Go.Proofs.YtldnddehmpbbpaaGreatDoorW.PrintLast Go.Proofs.YtldnddehmpbbpaaGreatDoorW.PrintMore
def valN (c : Bool) (L : List Int) (i : Nat) : Int := (lookN c L ((i / 12 : Nat) : Int) ((i % 12 : Nat) : Int)).1
def bestIx (f : Nat → Int) : Nat → Nat → Nat → Nat
  | 0, _, b => b
  | d + 1, i, b => if f i < f b then bestIx f d (i + 1) i else bestIx f d (i + 1) b
theorem bestIx_lt (f : Nat → Int) : ∀ (d i b : Nat), i + d = 144 → b < 144 → bestIx f d i b < 144
  | 0, _, b, _, hb => hb
  | d + 1, i, b, h, hb => by
    rw [bestIx]
    split
    · exact bestIx_lt f d (i + 1) i (by omega) (by omega)
    · exact bestIx_lt f d (i + 1) b (by omega) hb
def cutT (c : Bool) (L : List Int) (b : Nat) : ByteArray × ByteArray × Int × Bool := (strOfNums [padC ((b / 12 : Nat) : Int)], strOfNums [padC ((b % 12 : Nat) : Int)], valN c L b, true)
def bestsT (s : ByteArray) (c : Bool) : ByteArray × ByteArray × Int × Bool := if dialB s = true then cutT c (placesN s) (bestIx (valN c (placesN s)) 144 0 0) else ((⟨#[]⟩ : ByteArray), (⟨#[]⟩ : ByteArray), 0, false)
theorem bestI_stp (c : Bool) {L : List Int} (hL : ∀ p ∈ L, 0 ≤ p ∧ p ≤ 11) (hn : L.length ≤ 30) : ∀ (d i b : Nat), i + d = 144 → b < 144 →
    impl_BestStarts.stp (L, c) d i ((b / 12 : Nat) : Int) ((b % 12 : Nat) : Int) (valN c L b) = some (((bestIx (valN c L) d i b / 12 : Nat) : Int), ((bestIx (valN c L) d i b % 12 : Nat) : Int), valN c L (bestIx (valN c L) d i b))
  | 0, _, b, _, _ => rfl
  | d + 1, i, b, hi, hb => by
    have hf := from_is 0 c (i := 0) (l := ((i / 12 : Nat) : Int)) (r := ((i % 12 : Nat) : Int)) hL hn (Nat.zero_le _) (by omega) (by omega)
    have h0 := (lookN_small c hL hn (l := ((b / 12 : Nat) : Int)) (r := ((b % 12 : Nat) : Int)) (by omega) (by omega)).1.1
    have h0' : 0 ≤ valN c L b := h0
    rw [impl_BestStarts.stp, show impl_looker_from.f 0 (L, c) 0 ((i / 12 : Nat) : Int) ((i % 12 : Nat) : Int) = some (lookN c L ((i / 12 : Nat) : Int) ((i % 12 : Nat) : Int)) from hf, bsome, bestIx, show (lookN c L ((i / 12 : Nat) : Int) ((i % 12 : Nat) : Int)).1 = valN c L i from rfl]
    by_cases hc : valN c L i < valN c L b
    · rw [if_pos (Or.inr hc), if_pos hc]
      exact bestI_stp c hL hn d (i + 1) i (by omega) (by omega)
    · rw [if_neg (fun hx => hx.elim (fun h1 => by omega) (fun h1 => hc h1)), if_neg hc]
      exact bestI_stp c hL hn d (i + 1) b (by omega) hb
theorem bestI_all (c : Bool) {L : List Int} (hL : ∀ p ∈ L, 0 ≤ p ∧ p ≤ 11) (hn : L.length ≤ 30) :
    impl_BestStarts.stp (L, c) 144 0 0 0 (-1) = some (((bestIx (valN c L) 144 0 0 / 12 : Nat) : Int), ((bestIx (valN c L) 144 0 0 % 12 : Nat) : Int), valN c L (bestIx (valN c L) 144 0 0)) := by
  have hf := from_is 0 c (i := 0) (l := ((0 / 12 : Nat) : Int)) (r := ((0 % 12 : Nat) : Int)) hL hn (Nat.zero_le _) (by omega) (by omega)
  rw [impl_BestStarts.stp, show impl_looker_from.f 0 (L, c) 0 ((0 / 12 : Nat) : Int) ((0 % 12 : Nat) : Int) = some (lookN c L ((0 / 12 : Nat) : Int) ((0 % 12 : Nat) : Int)) from hf, bsome, if_pos (Or.inl (by decide)), bestIx, if_neg (by omega)]
  exact bestI_stp c hL hn 143 1 0 (by omega) (by omega)
theorem bestsI_ev (s : ByteArray) (c : Bool) (hs : s.size ≤ 140737488351232) : Ev (fun k => impl_BestStarts.f k s c) (bestsT s c) := by
  unfold bestsT
  cases hd : dialB s with
  | false =>
    refine ⟨0, fun k _ => ?_⟩
    dsimp only
    unfold impl_BestStarts.f
    rw [isDialed_is s hs, hd, bsome]
    rfl
  | true =>
    obtain ⟨K1, e1⟩ := newLooker_ev s hd c
    refine ⟨K1, fun k hk => ?_⟩
    have e1 := e1 k hk
    have hB := bestIx_lt (valN c (placesN s)) 144 0 0 rfl (by omega)
    dsimp only at e1 ⊢
    unfold impl_BestStarts.f
    rw [isDialed_is s hs, hd, bsome, if_pos rfl, e1, bsome, bestI_all c (placesN_range hd) (by rw [placesN_length]; exact (dialB_iff.1 hd).1), bsome, if_pos rfl]
    generalize bestIx (valN c (placesN s)) 144 0 0 = B at *
    unfold impl_BestStarts.cut impl_BestStarts.pad cutT
    dsimp only
    rw [if_pos ⟨by omega, by omega⟩, pad_cut (by omega), pad_cut (by omega)]
end Go.Proofs.YtldnddehmpbbpaaGreatDoor.Pu
end

section
namespace Go.Proofs.YtldnddehmpbbpaaGreatDoor.Pu
open Go.RowKit Go.Proofs.YtldnddehmpbbpaaGreatDoor.P Go.Proofs.YtldnddehmpbbpaaGreatDoorW.PrintWords Go.Proofs.YtldnddehmpbbpaaGreatDoorW.PrintLast Go.Proofs.YtldnddehmpbbpaaGreatDoorW.PrintMore
def firstN (c : Bool) : List Int → Int → Int → List Int
  | [], _, _ => []
  | p :: M, l, r => if (lookN c (p :: M) l r).1 < distN l p c + (lookN c M p r).1 then 1 :: firstN c M l p else 0 :: firstN c M p r
theorem firstN_length (c : Bool) : ∀ (L : List Int) (l r : Int), (firstN c L l r).length = L.length
  | [], _, _ => rfl
  | p :: M, l, r => by
    rw [firstN]
    split
    · rw [List.length_cons, List.length_cons, firstN_length c M l p]
    · rw [List.length_cons, List.length_cons, firstN_length c M p r]
theorem lookN_le (c : Bool) (p : Int) (M : List Int) (l r : Int) : (lookN c (p :: M) l r).1 ≤ distN l p c + (lookN c M p r).1 := by
  rw [lookN]
  split
  · dsimp only
    omega
  · split
    · dsimp only
      omega
    · dsimp only
      omega
theorem firstS_l0 (s : ByteArray) (h : dialB s = true) (c : Bool) : ∀ (d i : Nat) (l r : Int) (out : List Int), i + d = s.size → (0 ≤ l ∧ l ≤ 11) → (0 ≤ r ∧ r ≤ 11) → out.length = i →
    Ev (fun k => spec_FirstThumbs.l0 k s c (tabL s c) (12 * l + r) out (i : Int)) (out ++ firstN c ((placesN s).drop i) l r, true)
  | 0, i, l, r, out, hi, hl, hr, ho => by
    obtain rfl : i = s.size := by omega
    rw [List.drop_eq_nil_of_le (by rw [placesN_length]; exact Nat.le_refl _), firstN, List.append_nil]
    refine ev_from 0 fun k _ => ?_
    simp only [spec_FirstThumbs.l0]
    rw [if_neg (by omega)]
  | d + 1, i, l, r, out, hi, hl, hr, ho => by
    have hs := (dialB_iff.1 h).1
    have hq := (dialB_iff.1 h).2 _ (bt_mem s i (by omega))
    have hp := plN_range hq
    have hL : ∀ q ∈ (placesN s).drop (i + 1), 0 ≤ q ∧ q ≤ 11 := fun q hq => placesN_range h q (List.mem_of_mem_drop hq)
    have hlen : ((placesN s).drop (i + 1)).length ≤ 30 := by rw [List.length_drop, placesN_length]; omega
    have s1 := lookN_small c hL hlen hp hr
    have hle := lookN_le c (plN (bt s (i : Int))) ((placesN s).drop (i + 1)) l r
    have hd := distN_range hl hp c
    rw [drop_places s i (by omega), firstN]
    have ti : rd_L4 (tabL s c) (i : Int) = rowL c (plN (bt s (i : Int)) :: (placesN s).drop (i + 1)) := by
      rw [tabL_at s c (by omega), drop_places s i (by omega)]
    have tj : rd_L4 (tabL s c) ((i : Int) + 1) = rowL c ((placesN s).drop (i + 1)) := tabL_at s c (j := i + 1) (by omega)
    have li : ((rd_L4 (tabL s c) (i : Int)).length : Int) = 144 := by rw [ti, rowL_length]; rfl
    have lj : ((rd_L4 (tabL s c) ((i : Int) + 1)).length : Int) = 144 := by rw [tj, rowL_length]; rfl
    have ri := rdL_two c (plN (bt s (i : Int)) :: (placesN s).drop (i + 1)) hl hr
    have rj := rdL_two c ((placesN s).drop (i + 1)) hp hr
    have td : Int.tdiv (12 * l + r) 12 = l := by rw [Int.tdiv_eq_ediv_of_nonneg (by omega)]; omega
    have tm : Int.tmod (12 * l + r) 12 = r := by rw [Int.tmod_eq_emod_of_nonneg (by omega)]; omega
    have tl := tabL_length s c
    obtain ⟨K1, e1⟩ := thPlace_pad _ hq
    obtain ⟨K2, e2⟩ := thFar_ev (padC_pad hl) hq c
    rw [plN_padC hl] at e2
    by_cases hc : (lookN c (plN (bt s (i : Int)) :: (placesN s).drop (i + 1)) l r).1 < distN l (plN (bt s (i : Int))) c + (lookN c ((placesN s).drop (i + 1)) (plN (bt s (i : Int))) r).1
    · obtain ⟨K, ih⟩ := firstS_l0 s h c d (i + 1) l (plN (bt s (i : Int))) (out ++ [1]) (by omega) hl hp (by rw [List.length_append, List.length_singleton, ho])
      rw [if_pos hc]
      refine ev_from (K + K1 + K2) fun k hk => ?_
      have e := ih k (by omega)
      have e1 := e1 k (by omega)
      have e2 := e2 k (by omega)
      rw [show ((i + 1 : Nat) : Int) = (i : Int) + 1 from rfl] at e
      dsimp only at e e1 e2
      simp only [spec_FirstThumbs.l0]
      rw [if_pos (by omega), if_pos (by omega), e1, bsome, td, tm, wr (x := l) (by omega) (by omega), if_pos (by omega), if_pos (by omega), pad_bt hl, e2, bsome, wr (x := (i : Int) + 1) (by omega) (by omega), wr (x := 12 * plN (bt s (i : Int))) (by omega) (by omega), wr (x := 12 * plN (bt s (i : Int)) + r) (by omega) (by omega), wr (x := 12 * l) (by omega) (by omega), wr (x := 12 * l + plN (bt s (i : Int))) (by omega) (by omega)]
      rw [if_pos (by omega), if_pos (by omega), if_pos (by omega), if_pos (by omega), if_pos (by omega), if_pos (by omega), if_pos (by omega), ti, tj, ri, rj, wr (by omega) (by omega), if_neg (by omega), if_pos (by omega), e, List.append_assoc, List.singleton_append]
    · obtain ⟨K, ih⟩ := firstS_l0 s h c d (i + 1) (plN (bt s (i : Int))) r (out ++ [0]) (by omega) hp hr (by rw [List.length_append, List.length_singleton, ho])
      rw [if_neg hc]
      refine ev_from (K + K1 + K2) fun k hk => ?_
      have e := ih k (by omega)
      have e1 := e1 k (by omega)
      have e2 := e2 k (by omega)
      rw [show ((i + 1 : Nat) : Int) = (i : Int) + 1 from rfl] at e
      dsimp only at e e1 e2
      simp only [spec_FirstThumbs.l0]
      rw [if_pos (by omega), if_pos (by omega), e1, bsome, td, tm, wr (x := l) (by omega) (by omega), if_pos (by omega), if_pos (by omega), pad_bt hl, e2, bsome, wr (x := (i : Int) + 1) (by omega) (by omega), wr (x := 12 * plN (bt s (i : Int))) (by omega) (by omega), wr (x := 12 * plN (bt s (i : Int)) + r) (by omega) (by omega), wr (x := 12 * l) (by omega) (by omega), wr (x := 12 * l + plN (bt s (i : Int))) (by omega) (by omega)]
      rw [if_pos (by omega), if_pos (by omega), if_pos (by omega), if_pos (by omega), if_pos (by omega), if_pos (by omega), if_pos (by omega), ti, tj, ri, rj, wr (by omega) (by omega), if_pos (by omega), if_pos (by omega), e, List.append_assoc, List.singleton_append]
def firstT (s l r : ByteArray) (c : Bool) : List Int × Bool := if bothB s l r = true then (firstN c (placesN s) (plN (bt l 0)) (plN (bt r 0)), true) else ([], false)
theorem firstT_small (s l r : ByteArray) (c : Bool) : (firstT s l r c).1.length ≤ 30 := by
  unfold firstT
  split
  · rename_i h
    show (firstN c (placesN s) _ _).length ≤ 30
    rw [firstN_length, placesN_length]
    exact (dialB_iff.1 (bothB_iff h).1).1
  · simp
theorem firstS_ev (s l r : ByteArray) (c : Bool) : Ev (fun k => spec_FirstThumbs.f k s l r c) (firstT s l r c) := by
  obtain ⟨K1, e1⟩ := thBoth_ev s l r
  unfold firstT
  cases hb : bothB s l r with
  | false =>
    refine ⟨K1, fun k hk => ?_⟩
    have e1 := e1 k hk
    rw [hb] at e1
    dsimp only at e1 ⊢
    unfold spec_FirstThumbs.f
    rw [e1, bsome]
    rfl
  | true =>
    obtain ⟨hd, h1, h2⟩ := bothB_iff hb
    have p1 := plN_range (oneB_iff.1 h1).2
    have p2 := plN_range (oneB_iff.1 h2).2
    obtain ⟨K2, e2⟩ := thTable_ev s hd c
    obtain ⟨K3, e3⟩ := thAt_ev l r h1 h2
    obtain ⟨K4, e4⟩ := firstS_l0 s hd c s.size 0 _ _ [] (by omega) p1 p2 rfl
    refine ⟨K1 + K2 + K3 + K4, fun k hk => ?_⟩
    have e1 := e1 k (by omega)
    have e2 := e2 k (by omega)
    have e3 := e3 k (by omega)
    have e4 := e4 k (by omega)
    rw [hb] at e1
    dsimp only at e1 e2 e3 e4 ⊢
    unfold spec_FirstThumbs.f
    rw [e1, bsome, if_pos rfl, e2, bsome, e3, bsome, if_pos rfl]
    exact e4
theorem firstI_go (c : Bool) {L : List Int} (hL : ∀ p ∈ L, 0 ≤ p ∧ p ≤ 11) (hn : L.length ≤ 30) : ∀ (d i : Nat) (l r : Int) (acc : List Int), i + d = L.length → (0 ≤ l ∧ l ≤ 11) → (0 ≤ r ∧ r ≤ 11) →
    impl_FirstThumbs.go c (L, c) d i l r acc = some (acc ++ firstN c (L.drop i) l r)
  | 0, i, l, r, acc, hi, hl, hr => by
    rw [impl_FirstThumbs.go, List.drop_eq_nil_of_le (by omega), firstN, List.append_nil]
  | d + 1, i, l, r, acc, hi, hl, hr => by
    have hp := hL _ (rd_mem L i (by omega))
    have hM : ∀ q ∈ L.drop (i + 1), 0 ≤ q ∧ q ≤ 11 := fun q hq => hL q (List.mem_of_mem_drop hq)
    have hlen : (L.drop (i + 1)).length ≤ 30 := by rw [List.length_drop]; omega
    have s1 := lookN_small c hM hlen hp hr
    have hd := distN_range hl hp c
    have f0 := from_is 0 c (i := i + 1) (l := rd L (i : Int)) (r := r) hL hn (by omega) hp hr
    have f1 := from_is 0 c (i := i) (l := l) (r := r) hL hn (by omega) hl hr
    rw [show ((i + 1 : Nat) : Int) = (i : Int) + 1 from rfl] at f0
    rw [drop_rd L i (by omega)] at f1 ⊢
    have hg : (L, c).1.getD i 0 = rd L (i : Int) := by
      unfold rd
      rw [Int.toNat_natCast]
    rw [impl_FirstThumbs.go, hg, moved0_is hl hp, bsome]
    dsimp only
    rw [f0, bsome, f1, bsome, wr (x := distN l (rd L (i : Int)) c + (lookN c (L.drop (i + 1)) (rd L (i : Int)) r).1) (by omega) (by omega), firstN]
    by_cases hc : (lookN c (rd L (i : Int) :: L.drop (i + 1)) l r).1 < distN l (rd L (i : Int)) c + (lookN c (L.drop (i + 1)) (rd L (i : Int)) r).1
    · rw [if_pos hc, if_pos hc, moved1_is hr hp, bsome]
      dsimp only
      rw [firstI_go c hL hn d (i + 1) l (rd L (i : Int)) (acc ++ [1]) (by omega) hl hp, List.append_assoc, List.singleton_append]
    · rw [if_neg hc, if_neg hc, firstI_go c hL hn d (i + 1) (rd L (i : Int)) r (acc ++ [0]) (by omega) hp hr, List.append_assoc, List.singleton_append]
theorem firstI_ev (s l r : ByteArray) (c : Bool) (hs : s.size ≤ 140737488351232) (hl : l.size ≤ 140737488351232) (hr : r.size ≤ 140737488351232) : Ev (fun k => impl_FirstThumbs.f k s l r c) (firstT s l r c) := by
  obtain ⟨K1, e1⟩ := thumbsOk_ev s l r hs hl hr
  unfold firstT
  cases hb : bothB s l r with
  | false =>
    refine ⟨K1, fun k hk => ?_⟩
    have e1 := e1 k hk
    rw [hb] at e1
    dsimp only at e1 ⊢
    unfold impl_FirstThumbs.f
    rw [e1, bsome]
    rfl
  | true =>
    obtain ⟨hd, h1, h2⟩ := bothB_iff hb
    have p1 := plN_range (oneB_iff.1 h1).2
    have p2 := plN_range (oneB_iff.1 h2).2
    have hz := (dialB_iff.1 hd).1
    have hpl := placesN_length s
    obtain ⟨K2, e2⟩ := newLooker_ev s hd c
    refine ⟨K1 + K2, fun k hk => ?_⟩
    have e1 := e1 k (by omega)
    have e2 := e2 k (by omega)
    rw [hb, if_pos rfl] at e1
    dsimp only at e1 e2 ⊢
    unfold impl_FirstThumbs.f
    rw [e1, bsome]
    dsimp only
    rw [if_pos rfl, e2, bsome]
    dsimp only
    rw [if_pos (by omega), firstI_go c (placesN_range hd) (by omega) (placesN s).length 0 _ _ [] (by omega) p1 p2, bsome, if_pos rfl]
    rfl
end Go.Proofs.YtldnddehmpbbpaaGreatDoor.Pu
end

section
namespace Go.Proofs.YtldnddehmpbbpaaGreatDoor.Pu
open Go.RowKit Go.Proofs.YtldnddehmpbbpaaGreatDoor.P Go.Proofs.YtldnddehmpbbpaaGreatDoorW.PrintWords Go.Proofs.YtldnddehmpbbpaaGreatDoorW.PrintLast Go.Proofs.YtldnddehmpbbpaaGreatDoorW.PrintMore
theorem lookN_le2 (c : Bool) (p : Int) (M : List Int) (l r : Int) : (lookN c (p :: M) l r).1 ≤ distN r p c + (lookN c M l p).1 := by
  rw [lookN]
  split
  · dsimp only
    omega
  · split
    · dsimp only
      omega
    · dsimp only
      omega
theorem lookN_is (c : Bool) (p : Int) (M : List Int) (l r : Int) : (lookN c (p :: M) l r).1 = distN l p c + (lookN c M p r).1 ∨ (lookN c (p :: M) l r).1 = distN r p c + (lookN c M l p).1 := by
  rw [lookN]
  split
  · dsimp only
    omega
  · split
    · dsimp only
      omega
    · dsimp only
      omega
theorem plan_first (c : Bool) : ∀ (L : List Int) (l r : Int), planN c (firstN c L l r) L l r = (lookN c L l r).1
  | [], l, r => by simp [firstN, planN, lookN]
  | p :: M, l, r => by
    rw [firstN]
    split
    · rename_i h
      rw [planN, if_neg (by decide), plan_first c M l p]
      rcases lookN_is c p M l r with e | e
      · omega
      · exact e.symm
    · rename_i h
      have := lookN_le c p M l r
      rw [planN, if_pos rfl, plan_first c M p r]
      omega
theorem firstN_01 (c : Bool) : ∀ (L : List Int) (l r : Int), ∀ x ∈ firstN c L l r, 0 ≤ x ∧ x ≤ 1
  | [], l, r, x, h => by simp [firstN] at h
  | p :: M, l, r, x, h => by
    rw [firstN] at h
    split at h
    · rcases List.mem_cons.1 h with rfl | h
      · omega
      · exact firstN_01 c M l p x h
    · rcases List.mem_cons.1 h with rfl | h
      · omega
      · exact firstN_01 c M p r x h
theorem look_le_plan (c : Bool) : ∀ (L T : List Int) (l r : Int), T.length = L.length → (∀ x ∈ T, 0 ≤ x ∧ x ≤ 1) → (lookN c L l r).1 ≤ planN c T L l r
  | [], T, l, r, h, _ => by
    obtain rfl := List.eq_nil_of_length_eq_zero h
    simp [planN, lookN]
  | p :: M, [], l, r, h, _ => by simp at h
  | p :: M, t :: T, l, r, h, ht => by
    have h' : T.length = M.length := by simpa using h
    have hT : ∀ x ∈ T, 0 ≤ x ∧ x ≤ 1 := fun x hx => ht x (by simp [hx])
    rw [planN]
    split
    · have := look_le_plan c M T p r h' hT
      have := lookN_le c p M l r
      omega
    · have := look_le_plan c M T l p h' hT
      have := lookN_le2 c p M l r
      omega
theorem look_le_walk (c : Bool) : ∀ (L : List Int) (l r : Int), (lookN c L l r).1 ≤ walkN L l c
  | [], l, r => by simp [walkN, lookN]
  | p :: M, l, r => by
    have := look_le_walk c M p r
    have := lookN_le c p M l r
    rw [walkN]
    omega
theorem look_le_walk2 (c : Bool) : ∀ (L : List Int) (l r : Int), (lookN c L l r).1 ≤ walkN L r c
  | [], l, r => by simp [walkN, lookN]
  | p :: M, l, r => by
    have := look_le_walk2 c M l p
    have := lookN_le2 c p M l r
    rw [walkN]
    omega
theorem look_swap (c : Bool) : ∀ (L : List Int) (l r : Int), lookN c L r l = lookN c L l r
  | [], l, r => rfl
  | p :: M, l, r => by
    rw [lookN, lookN, look_swap c M p r, look_swap c M l p]
    generalize lookN c M l p = A
    generalize lookN c M p r = B
    by_cases h1 : A.1 + distN r p c < B.1 + distN l p c
    · rw [if_neg (show ¬ B.1 + distN l p c < A.1 + distN r p c by omega), if_neg (show ¬ B.1 + distN l p c = A.1 + distN r p c by omega), if_pos h1]
    · by_cases h2 : A.1 + distN r p c = B.1 + distN l p c
      · rw [if_neg (show ¬ B.1 + distN l p c < A.1 + distN r p c by omega), if_pos h2.symm, if_neg h1, if_pos h2, h2, Int.add_comm A.2 B.2]
      · rw [if_pos (show B.1 + distN l p c < A.1 + distN r p c by omega), if_neg h1, if_neg h2]
theorem dist_mir {a b : Int} (ha : 0 ≤ a ∧ a ≤ 11) (hb : 0 ≤ b ∧ b ≤ 11) (c : Bool) : distN (mirP a) (mirP b) c = distN a b c := by
  have key : ∀ m n : Fin 12, ∀ c : Bool, distN (mirP (m.val : Int)) (mirP (n.val : Int)) c = distN (m.val : Int) (n.val : Int) c := by decide +kernel
  have := key ⟨a.toNat, by omega⟩ ⟨b.toNat, by omega⟩ c
  rwa [show ((a.toNat : Nat) : Int) = a by omega, show ((b.toNat : Nat) : Int) = b by omega] at this
theorem look_mir (c : Bool) : ∀ (L : List Int) (l r : Int), (∀ p ∈ L, 0 ≤ p ∧ p ≤ 11) → (0 ≤ l ∧ l ≤ 11) → (0 ≤ r ∧ r ≤ 11) → lookN c (L.map mirP) (mirP l) (mirP r) = lookN c L l r
  | [], l, r, _, _, _ => rfl
  | p :: M, l, r, h, hl, hr => by
    have hp := h p (by simp)
    have hM : ∀ q ∈ M, 0 ≤ q ∧ q ≤ 11 := fun q hq => h q (by simp [hq])
    rw [List.map_cons, lookN, lookN, look_mir c M l p hM hl hp, look_mir c M p r hM hp hr, dist_mir hl hp, dist_mir hr hp]
theorem bestIx_le (f : Nat → Int) : ∀ (d i b : Nat), f (bestIx f d i b) ≤ f b ∧ ∀ j, i ≤ j → j < i + d → f (bestIx f d i b) ≤ f j
  | 0, i, b => ⟨Int.le_refl _, fun j h1 h2 => by omega⟩
  | d + 1, i, b => by
    rw [bestIx]
    split
    · rename_i h
      obtain ⟨h1, h2⟩ := bestIx_le f d (i + 1) i
      exact ⟨by omega, fun j hj hj2 => by
        by_cases e : j = i
        · rw [e]; exact h1
        · exact h2 j (by omega) (by omega)⟩
    · rename_i h
      obtain ⟨h1, h2⟩ := bestIx_le f d (i + 1) b
      exact ⟨h1, fun j hj hj2 => by
        by_cases e : j = i
        · rw [e]; omega
        · exact h2 j (by omega) (by omega)⟩
theorem val_two (c : Bool) (L : List Int) {a b : Int} (ha : 0 ≤ a ∧ a ≤ 11) (hb : 0 ≤ b ∧ b ≤ 11) : valN c L (12 * a.toNat + b.toNat) = (lookN c L a b).1 := by
  unfold valN
  rw [show (12 * a.toNat + b.toNat) / 12 = a.toNat by omega, show (12 * a.toNat + b.toNat) % 12 = b.toNat by omega, show ((a.toNat : Nat) : Int) = a by omega, show ((b.toNat : Nat) : Int) = b by omega]
theorem best_le (c : Bool) (L : List Int) {a b : Int} (ha : 0 ≤ a ∧ a ≤ 11) (hb : 0 ≤ b ∧ b ≤ 11) : valN c L (bestIx (valN c L) 144 0 0) ≤ (lookN c L a b).1 := by
  rw [← val_two c L ha hb]
  exact (bestIx_le (valN c L) 144 0 0).2 _ (Nat.zero_le _) (by omega)
end Go.Proofs.YtldnddehmpbbpaaGreatDoor.Pu
end

section
namespace Go.Proofs.YtldnddehmpbbpaaGreatDoor.Pu
open Go.RowKit Go.Proofs.YtldnddehmpbbpaaGreatDoor.P Go.Proofs.YtldnddehmpbbpaaGreatDoorW.PrintWords Go.Proofs.YtldnddehmpbbpaaGreatDoorW.PrintLast Go.Proofs.YtldnddehmpbbpaaGreatDoorW.PrintMore
def okXY (x y : Int) : Bool := (decide (0 ≤ x) && decide (x ≤ 2)) && (decide (0 ≤ y) && decide (y ≤ 3))
theorem okXY_iff {x y : Int} : okXY x y = true ↔ (0 ≤ x ∧ x ≤ 2) ∧ (0 ≤ y ∧ y ≤ 3) := by unfold okXY; simp
def movN : List Int → Int → Int → List Int → Option (List Int)
  | [], _, _, A => some A
  | c :: L, x, y, A =>
    if c = 108 then (if okXY (x - 1) y = true then movN L (x - 1) y A else none)
    else if c = 114 then (if okXY (x + 1) y = true then movN L (x + 1) y A else none)
    else if c = 117 then (if okXY x (y - 1) = true then movN L x (y - 1) A else none)
    else if c = 100 then (if okXY x (y + 1) = true then movN L x (y + 1) A else none)
    else if c = 46 then (if okXY x y = true then movN L x y (A ++ [padC (3 * y + x)]) else none)
    else none
def movT : Option (List Int) → ByteArray × Bool
  | none => (⟨#[]⟩, false)
  | some A => if A.length > 30 then (⟨#[]⟩, false) else (strOfNums A, true)
theorem movS_j2 {s : ByteArray} {x y : Int} {A : ByteArray} {i : Nat} {r : ByteArray × Bool} (hi : i ≤ 1000) (h : okXY x y = true → Ev (fun k => spec_KeysOfMoves.l0 k s x y A ((i + 1 : Nat) : Int)) r) : Ev (fun k => spec_KeysOfMoves.j2 k s x y A i) (if okXY x y = true then r else (⟨#[]⟩, false)) := by
  cases ho : okXY x y with
  | true =>
    obtain ⟨K, e⟩ := h ho
    refine ev_from K fun k hk => ?_
    have e := e k hk
    dsimp only at e
    simp only [spec_KeysOfMoves.j2]
    have := okXY_iff.1 ho
    rw [l1In_is, bsome, decide_eq_true this.1.1, decide_eq_true this.1.2, if_pos (show (true && true) = true from rfl), l1In_is, bsome, decide_eq_true this.2.1, decide_eq_true this.2.2, if_pos (show (true && true) = true from rfl), if_pos (show True from trivial), wr (by omega) (by omega)]
    exact e
  | false =>
    refine ev_from 0 fun k hk => ?_
    simp only [spec_KeysOfMoves.j2]
    unfold okXY at ho
    rw [l1In_is, bsome]
    cases h1 : (decide (0 ≤ x) && decide (x ≤ 2)) with
    | false => rfl
    | true =>
      rw [h1, Bool.true_and] at ho
      rw [if_pos rfl, l1In_is, bsome, ho]
      rfl
theorem movI_j2 {s : ByteArray} {x y : Int} {A : List Int} {i : Nat} {n : Int} {r : ByteArray × Bool} (hi : i ≤ 1000) (h : okXY x y = true → Ev (fun k => impl_KeysOfMoves.l0 k s x y A n ((i + 1 : Nat) : Int)) r) : Ev (fun k => impl_KeysOfMoves.j2 k s x y A n i) (if okXY x y = true then r else (⟨#[]⟩, false)) := by
  cases ho : okXY x y with
  | true =>
    obtain ⟨K, e⟩ := h ho
    refine ev_from K fun k hk => ?_
    have e := e k hk
    dsimp only at e
    simp only [impl_KeysOfMoves.j2]
    have := okXY_iff.1 ho
    rw [in_is, bsome, decide_eq_true this.1.1, decide_eq_true this.1.2, if_pos (show (true && true) = true from rfl), in_is, bsome, decide_eq_true this.2.1, decide_eq_true this.2.2, if_pos (show (true && true) = true from rfl), if_pos (show True from trivial), wr (by omega) (by omega)]
    exact e
  | false =>
    refine ev_from 0 fun k hk => ?_
    simp only [impl_KeysOfMoves.j2]
    unfold okXY at ho
    rw [in_is, bsome]
    cases h1 : (decide (0 ≤ x) && decide (x ≤ 2)) with
    | false => rfl
    | true =>
      rw [h1, Bool.true_and] at ho
      rw [if_pos rfl, in_is, bsome, ho]
      rfl
theorem movIf {p : Prop} [Decidable p] {a : Option (List Int)} : movT (if p then a else none) = if p then movT a else (⟨#[]⟩, false) := by
  by_cases h : p
  · rw [if_pos h, if_pos h]
  · rw [if_neg h, if_neg h]; rfl
theorem movS_l0 (s : ByteArray) (hs : s.size ≤ 200) : ∀ (d i : Nat) (x y : Int) (A : List Int), i + d = s.size → okXY x y = true → A.length ≤ i → Ev (fun k => spec_KeysOfMoves.l0 k s x y (strOfNums A) i) (movT (movN ((bytesOf s).drop i) x y A))
  | 0, i, x, y, A, hi, ho, hA => by
    obtain rfl : i = s.size := by omega
    rw [drop_end]
    refine ev_from 0 fun k _ => ?_
    simp only [spec_KeysOfMoves.l0, movN, movT]
    rw [if_neg (by omega), size_nums]
    by_cases h : A.length > 30
    · rw [if_pos h, if_pos (by omega)]
    · rw [if_neg h, if_neg (by omega)]
  | d + 1, i, x, y, A, hi, ho, hA => by
    have hxy := okXY_iff.1 ho
    have go : ∀ (x' y' : Int) (A' : List Int), A'.length ≤ i + 1 → Ev (fun k => spec_KeysOfMoves.j2 k s x' y' (strOfNums A') i) (if okXY x' y' = true then movT (movN ((bytesOf s).drop (i + 1)) x' y' A') else (⟨#[]⟩, false)) :=
      fun x' y' A' hl => movS_j2 (by omega) fun ho' => movS_l0 s hs d (i + 1) x' y' A' (by omega) ho' hl
    rw [drop_bytes s i (by omega), movN]
    by_cases c1 : bt s i = 108
    · obtain ⟨K, e⟩ := go (x - 1) y A (by omega)
      rw [if_pos c1, movIf]
      refine ev_from K fun k hk => ?_
      have e := e k hk
      dsimp only at e
      simp only [spec_KeysOfMoves.l0]
      rw [if_pos (by omega), if_pos (by omega), if_pos c1, wr (by omega) (by omega), e]
    rw [if_neg c1]
    by_cases c2 : bt s i = 114
    · obtain ⟨K, e⟩ := go (x + 1) y A (by omega)
      rw [if_pos c2, movIf]
      refine ev_from K fun k hk => ?_
      have e := e k hk
      dsimp only at e
      simp only [spec_KeysOfMoves.l0]
      rw [if_pos (by omega), if_pos (by omega), if_neg c1, if_pos c2, wr (by omega) (by omega), e]
    rw [if_neg c2]
    by_cases c3 : bt s i = 117
    · obtain ⟨K, e⟩ := go x (y - 1) A (by omega)
      rw [if_pos c3, movIf]
      refine ev_from K fun k hk => ?_
      have e := e k hk
      dsimp only at e
      simp only [spec_KeysOfMoves.l0]
      rw [if_pos (by omega), if_pos (by omega), if_neg c1, if_neg c2, if_pos c3, wr (by omega) (by omega), e]
    rw [if_neg c3]
    by_cases c4 : bt s i = 100
    · obtain ⟨K, e⟩ := go x (y + 1) A (by omega)
      rw [if_pos c4, movIf]
      refine ev_from K fun k hk => ?_
      have e := e k hk
      dsimp only at e
      simp only [spec_KeysOfMoves.l0]
      rw [if_pos (by omega), if_pos (by omega), if_neg c1, if_neg c2, if_neg c3, if_pos c4, wr (by omega) (by omega), e]
    rw [if_neg c4]
    by_cases c5 : bt s i = 46
    · obtain ⟨K, e⟩ := go x y (A ++ [padC (3 * y + x)]) (by simp; omega)
      rw [if_pos c5, movIf]
      refine ev_from K fun k hk => ?_
      have e := e k hk
      dsimp only at e
      simp only [spec_KeysOfMoves.l0]
      rw [if_pos (by omega), if_pos (by omega), if_neg c1, if_neg c2, if_neg c3, if_neg c4, if_pos c5, wr (x := 3 * y) (by omega) (by omega), wr (x := 3 * y + x) (by omega) (by omega), wr (x := 3 * y + x + 1) (by omega) (by omega), if_pos (by omega), if_pos (by omega), if_pos (by omega), pad_cut (by omega), if_pos (by rw [size_nums, size_nums]; simp; omega), ← numsApp, e]
    · rw [if_neg c5]
      refine ev_from 0 fun k hk => ?_
      simp only [spec_KeysOfMoves.l0]
      rw [if_pos (by omega), if_pos (by omega), if_neg c1, if_neg c2, if_neg c3, if_neg c4, if_neg c5]
      rfl
theorem movI_l0 (s : ByteArray) (hs : s.size ≤ 200) : ∀ (d i : Nat) (x y : Int) (A : List Int), i + d = s.size → okXY x y = true → A.length ≤ i → Ev (fun k => impl_KeysOfMoves.l0 k s x y A s.size i) (movT (movN ((bytesOf s).drop i) x y A))
  | 0, i, x, y, A, hi, ho, hA => by
    obtain rfl : i = s.size := by omega
    rw [drop_end]
    refine ev_from 0 fun k _ => ?_
    simp only [impl_KeysOfMoves.l0, movN, movT]
    rw [if_neg (by omega)]
    by_cases h : A.length > 30
    · rw [if_pos h, if_pos (by omega)]
    · rw [if_neg h, if_neg (by omega)]
  | d + 1, i, x, y, A, hi, ho, hA => by
    have hxy := okXY_iff.1 ho
    have go : ∀ (x' y' : Int) (A' : List Int), A'.length ≤ i + 1 → Ev (fun k => impl_KeysOfMoves.j2 k s x' y' A' s.size i) (if okXY x' y' = true then movT (movN ((bytesOf s).drop (i + 1)) x' y' A') else (⟨#[]⟩, false)) :=
      fun x' y' A' hl => movI_j2 (by omega) fun ho' => movI_l0 s hs d (i + 1) x' y' A' (by omega) ho' hl
    rw [drop_bytes s i (by omega), movN]
    by_cases c1 : bt s i = 108
    · obtain ⟨K, e⟩ := go (x - 1) y A (by omega)
      rw [if_pos c1, movIf]
      refine ev_from K fun k hk => ?_
      have e := e k hk
      dsimp only at e
      simp only [impl_KeysOfMoves.l0]
      rw [if_pos (by omega), if_pos (by omega), if_pos (by omega), if_pos c1, wr (by omega) (by omega), e]
    rw [if_neg c1]
    by_cases c2 : bt s i = 114
    · obtain ⟨K, e⟩ := go (x + 1) y A (by omega)
      rw [if_pos c2, movIf]
      refine ev_from K fun k hk => ?_
      have e := e k hk
      dsimp only at e
      simp only [impl_KeysOfMoves.l0]
      rw [if_pos (by omega), if_pos (by omega), if_pos (by omega), if_neg c1, if_pos c2, wr (by omega) (by omega), e]
    rw [if_neg c2]
    by_cases c3 : bt s i = 117
    · obtain ⟨K, e⟩ := go x (y - 1) A (by omega)
      rw [if_pos c3, movIf]
      refine ev_from K fun k hk => ?_
      have e := e k hk
      dsimp only at e
      simp only [impl_KeysOfMoves.l0]
      rw [if_pos (by omega), if_pos (by omega), if_pos (by omega), if_neg c1, if_neg c2, if_pos c3, wr (by omega) (by omega), e]
    rw [if_neg c3]
    by_cases c4 : bt s i = 100
    · obtain ⟨K, e⟩ := go x (y + 1) A (by omega)
      rw [if_pos c4, movIf]
      refine ev_from K fun k hk => ?_
      have e := e k hk
      dsimp only at e
      simp only [impl_KeysOfMoves.l0]
      rw [if_pos (by omega), if_pos (by omega), if_pos (by omega), if_neg c1, if_neg c2, if_neg c3, if_pos c4, wr (by omega) (by omega), e]
    rw [if_neg c4]
    by_cases c5 : bt s i = 46
    · obtain ⟨K, e⟩ := go x y (A ++ [padC (3 * y + x)]) (by simp; omega)
      rw [if_pos c5, movIf]
      refine ev_from K fun k hk => ?_
      have e := e k hk
      dsimp only at e
      simp only [impl_KeysOfMoves.l0]
      rw [if_pos (by omega), if_pos (by omega), if_pos (by omega), if_neg c1, if_neg c2, if_neg c3, if_neg c4, if_pos c5, wr (x := y * 3) (by omega) (by omega), wr (x := y * 3 + x) (by omega) (by omega), if_pos (by omega), if_pos (by omega), if_pos (by omega), Int.mul_comm y 3, pad_bt (by omega), e]
    · rw [if_neg c5]
      refine ev_from 0 fun k hk => ?_
      simp only [impl_KeysOfMoves.l0]
      rw [if_pos (by omega), if_pos (by omega), if_pos (by omega), if_neg c1, if_neg c2, if_neg c3, if_neg c4, if_neg c5]
      rfl
theorem tmod3 {p : Int} (h : 0 ≤ p ∧ p ≤ 11) : Int.tmod p 3 = p % 3 ∧ wrap64 (Int.tdiv p 3) = p / 3 := by
  have key : ∀ n : Fin 12, Int.tmod (n.val : Int) 3 = (n.val : Int) % 3 ∧ wrap64 (Int.tdiv (n.val : Int) 3) = (n.val : Int) / 3 := by decide +kernel
  have := key ⟨p.toNat, by omega⟩
  rwa [show ((p.toNat : Nat) : Int) = p by omega] at this
def keysT (s t : ByteArray) : ByteArray × Bool := if (oneB s && !decide (t.size > 200)) = true then movT (movN (bytesOf t) (plN (bt s 0) % 3) (plN (bt s 0) / 3) []) else (⟨#[]⟩, false)
theorem keysS_ev (s t : ByteArray) : Ev (fun k => spec_KeysOfMoves.f k s t) (keysT s t) := by
  obtain ⟨K1, h1⟩ := thOne_ev s
  unfold keysT
  cases hs : oneB s with
  | false =>
    refine ev_from K1 fun k hk => ?_
    have e1 := h1 (k + 1) (by omega)
    rw [hs] at e1
    dsimp only at e1
    unfold spec_KeysOfMoves.f
    rw [e1, bsome]
    rfl
  | true =>
    by_cases h2 : t.size > 200
    · refine ev_from K1 fun k hk => ?_
      have e1 := h1 (k + 1) (by omega)
      rw [hs] at e1
      dsimp only at e1
      unfold spec_KeysOfMoves.f
      rw [e1, bsome, if_pos rfl, decide_eq_true h2, decide_eq_true (show (t.size : Int) > 200 by omega)]
      rfl
    · obtain ⟨s1, ps⟩ := oneB_iff.1 hs
      obtain ⟨K3, e3⟩ := thPlace_pad _ ps
      have hp := plN_range ps
      obtain ⟨K2, e2⟩ := movS_l0 t (by omega) t.size 0 (plN (bt s 0) % 3) (plN (bt s 0) / 3) [] (by omega) (okXY_iff.2 (by omega)) (by simp)
      refine ev_from (K1 + K2 + K3) fun k hk => ?_
      have e1 := h1 (k + 1) (by omega)
      have e2 := e2 k (by omega)
      have e3 := e3 k (by omega)
      rw [hs] at e1
      dsimp only at e1 e2 e3
      unfold spec_KeysOfMoves.f
      rw [e1, bsome, if_pos rfl, decide_eq_false h2, decide_eq_false (show ¬ (t.size : Int) > 200 by omega)]
      simp only [spec_KeysOfMoves.j0]
      rw [if_neg (by simp), if_pos (by omega), e3, bsome, (tmod3 hp).1, (tmod3 hp).2]
      exact e2
theorem keysI_ev (s t : ByteArray) (h1 : s.size ≤ 140737488351232) : Ev (fun k => impl_KeysOfMoves.f k s t) (keysT s t) := by
  unfold keysT
  cases hs : oneB s with
  | false =>
    refine ev_from 0 fun k hk => ?_
    unfold impl_KeysOfMoves.f
    rw [isKey_is s h1, bsome, hs]
    rfl
  | true =>
    by_cases h2 : t.size > 200
    · refine ev_from 0 fun k hk => ?_
      unfold impl_KeysOfMoves.f
      rw [isKey_is s h1, bsome, hs, if_pos rfl, decide_eq_true h2, decide_eq_true (show (t.size : Int) > 200 by omega)]
      rfl
    · obtain ⟨s1, ps⟩ := oneB_iff.1 hs
      have hp := plN_range ps
      obtain ⟨K2, e2⟩ := movI_l0 t (by omega) t.size 0 (plN (bt s 0) % 3) (plN (bt s 0) / 3) [] (by omega) (okXY_iff.2 (by omega)) (by simp)
      refine ev_from K2 fun k hk => ?_
      have e2 := e2 k (by omega)
      dsimp only at e2
      unfold impl_KeysOfMoves.f
      rw [isKey_is s h1, bsome, hs, if_pos rfl, decide_eq_false h2, decide_eq_false (show ¬ (t.size : Int) > 200 by omega)]
      simp only [impl_KeysOfMoves.j0]
      rw [if_neg (by simp), if_pos (by omega), place_is _ ps, bsome, bsome, (tmod3 hp).1, (tmod3 hp).2]
      exact e2
end Go.Proofs.YtldnddehmpbbpaaGreatDoor.Pu
end

section
namespace Go.Proofs.YtldnddehmpbbpaaGreatDoor.Pu
open Go.RowKit Go.Proofs.YtldnddehmpbbpaaGreatDoor.P Go.Proofs.YtldnddehmpbbpaaGreatDoorW.PrintWords Go.Proofs.YtldnddehmpbbpaaGreatDoorW.PrintLast Go.Proofs.YtldnddehmpbbpaaGreatDoorW.PrintMore
def AllBytes (l : List Int) : Prop := ∀ c ∈ l, 0 ≤ c ∧ c ≤ 255
theorem rd_all {l : List Int} (h : AllBytes l) (i : Int) : 0 ≤ rd l i ∧ rd l i ≤ 255 := by
  unfold rd
  by_cases hi : i.toNat < l.length
  · rw [List.getD_eq_getElem?_getD, List.getElem?_eq_getElem hi, Option.getD_some]
    exact h _ (List.getElem_mem _)
  · rw [List.getD_eq_getElem?_getD, List.getElem?_eq_none (by omega), Option.getD_none]
    omega
theorem u64_range (x : Int) : 0 ≤ IntKind.u64.wrap x ∧ IntKind.u64.wrap x < 18446744073709551616 := by
  rw [IntKind.wrap_u64]
  omega
theorem and_byte (x : Int) (h0 : 0 ≤ x) (h1 : x < 18446744073709551616) : Go.bits .and .u64 x 255 = x % 256 := by
  have h := bits_mask .u64 64 (by decide) (fun n h₀ h₁ => by rw [IntKind.wrap_u64]; omega) 8 (by decide) x h0 (by omega)
  simpa using h
theorem seed_byte (x : Int) : 0 ≤ wrap64 (Go.bits .and .u64 (IntKind.u64.wrap x / 1099511627776) 255) ∧ wrap64 (Go.bits .and .u64 (IntKind.u64.wrap x / 1099511627776) 255) ≤ 255 := by
  have h := u64_range x
  generalize IntKind.u64.wrap x = y at *
  rw [and_byte _ (by omega) (by omega)]
  unfold wrap64
  omega
theorem next_ok {l : List Int} (h : AllBytes l) {p : Int} (q : Int) (hp : 0 ≤ p ∧ p ≤ 1000000000) : ∃ x p' q', spec_l1Cur_next.f l p q = some (x, p', q') ∧ (0 ≤ x ∧ x ≤ 255) ∧ (0 ≤ p' ∧ p' ≤ p + 1) := by
  unfold spec_l1Cur_next.f
  have hr := rd_all h p
  have hw : wrap64 (p + 1) = p + 1 := wr (by omega) (by omega)
  have hx : wrap64 (rd l p) = rd l p := wr (by omega) (by omega)
  rw [hw, hx]
  by_cases h1 : p < (l.length : Int)
  · rw [if_pos h1, if_pos (show 0 ≤ p from hp.1), if_pos (show p + 1 ≤ (l.length : Int) by omega)]
    exact ⟨_, _, _, rfl, hr, by omega⟩
  · rw [if_neg h1, if_neg (show ¬ p + 1 ≤ (l.length : Int) by omega)]
    exact ⟨_, _, _, rfl, seed_byte _, by omega⟩
theorem pick_ok {l : List Int} (h : AllBytes l) {p : Int} (q : Int) (hp : 0 ≤ p ∧ p ≤ 1000000000) (n : Int) (hn : 1 ≤ n ∧ n ≤ 200) : ∃ x p' q', spec_l1Cur_pick.f l p q n = some (x, p', q') ∧ (0 ≤ x ∧ x < n) ∧ (0 ≤ p' ∧ p' ≤ p + 1) := by
  unfold spec_l1Cur_pick.f
  by_cases h1 : n ≤ 1
  · rw [if_pos h1]
    exact ⟨_, _, _, rfl, by omega, by omega⟩
  · obtain ⟨x, p', q', e, hx, hp'⟩ := next_ok h q hp
    rw [if_neg h1, e, bsome, if_neg (by omega), if_neg (by omega)]
    refine ⟨_, _, _, rfl, ?_, hp'⟩
    dsimp only
    rw [Int.tmod_eq_emod_of_nonneg hx.1]
    exact ⟨Int.emod_nonneg _ (by omega), Int.emod_lt_of_pos _ (by omega)⟩
theorem one_ok {l : List Int} (h : AllBytes l) {p : Int} (q : Int) (hp : 0 ≤ p ∧ p ≤ 1000000000) (n : Int) (hn : 1 ≤ n ∧ n ≤ 200) : ∃ x p' q', spec_l1Cur_one.f l p q n = some (x, p', q') ∧ (0 ≤ p' ∧ p' ≤ p + 1) := by
  obtain ⟨x, p', q', e, hx, hp'⟩ := pick_ok h q hp n hn
  unfold spec_l1Cur_one.f
  rw [e, bsome]
  exact ⟨_, _, _, rfl, hp'⟩
theorem of_ok {l : List Int} (h : AllBytes l) {p : Int} (q : Int) (hp : 0 ≤ p ∧ p ≤ 1000000000) (L : List ByteArray) (hL : 1 ≤ L.length ∧ L.length ≤ 200) : ∃ x p' q', spec_l1Cur_of.f l p q L = some (x, p', q') ∧ x ∈ L ∧ (0 ≤ p' ∧ p' ≤ p + 1) := by
  obtain ⟨x, p', q', e, hx, hp'⟩ := pick_ok h q hp (L.length : Int) (by omega)
  unfold spec_l1Cur_of.f
  rw [e, bsome, if_pos hx.1, if_pos hx.2]
  refine ⟨_, _, _, rfl, ?_, hp'⟩
  dsimp only
  unfold rdOf
  have hi : x.toNat < L.length := by omega
  rw [List.getD_eq_getElem?_getD, List.getElem?_eq_getElem hi, Option.getD_some]
  exact List.getElem_mem _
theorem among_ok {l : List Int} (h : AllBytes l) {p : Int} (q : Int) (hp : 0 ≤ p ∧ p ≤ 1000000000) (L : List Int) (hL : 1 ≤ L.length ∧ L.length ≤ 200) : ∃ x p' q', spec_l1Cur_among.f l p q L = some (x, p', q') ∧ x ∈ L ∧ (0 ≤ p' ∧ p' ≤ p + 1) := by
  obtain ⟨x, p', q', e, hx, hp'⟩ := pick_ok h q hp (L.length : Int) (by omega)
  unfold spec_l1Cur_among.f
  rw [e, bsome, if_pos hx.1, if_pos hx.2]
  refine ⟨_, _, _, rfl, ?_, hp'⟩
  dsimp only
  unfold rd
  have hi : x.toNat < L.length := by omega
  rw [List.getD_eq_getElem?_getD, List.getElem?_eq_getElem hi, Option.getD_some]
  exact List.getElem_mem _
theorem sure_l0 {l : List Int} (h : AllBytes l) : ∀ (n : Nat) (A : List Int) (p q : Int), (0 ≤ p ∧ p + n ≤ 1000000000) → A.length + n ≤ 1000 → (∀ c ∈ A, isPad c = true) → ∃ M p' q', Ev (fun k => spec_l1Cur_sureDialed.l0 k (strOfNums A) (n : Int) l p q) (strOfNums (A ++ M), p', q') ∧ M.length = n ∧ (∀ c ∈ A ++ M, isPad c = true) ∧ (0 ≤ p' ∧ p' ≤ p + n)
  | 0, A, p, q, hp, hA, hq => ⟨[], p, q, ev_from 0 fun k _ => by rw [spec_l1Cur_sureDialed.l0, if_neg (by omega), List.append_nil], rfl, by simpa using hq, by omega⟩
  | n + 1, A, p, q, hp, hA, hq => by
    obtain ⟨x, p1, q1, e, hx, hp1⟩ := pick_ok h q (show 0 ≤ p ∧ p ≤ 1000000000 by omega) 12 (by omega)
    have hpad : isPad (padC x) = true := padC_pad (by omega)
    obtain ⟨M, p2, q2, e2, hM, hall, hp2⟩ := sure_l0 h n (A ++ [padC x]) p1 q1 (by omega) (by simp; omega) (fun c hc => by
      rcases List.mem_append.1 hc with hc | hc
      · exact hq c hc
      · rw [List.mem_singleton.1 hc]; exact hpad)
    refine ⟨padC x :: M, p2, q2, ?_, by simp [hM], by simpa using hall, by omega⟩
    obtain ⟨K, e2⟩ := e2
    refine ev_from K fun k hk => ?_
    have e2 := e2 k hk
    dsimp only at e2
    have hw : wrap64 (x + 1) = x + 1 := wr (by omega) (by omega)
    have hw2 : wrap64 (((n + 1 : Nat) : Int) - 1) = (n : Int) := (wr (by omega) (by omega)).trans (by omega)
    have hsz := size_nums A
    rw [spec_l1Cur_sureDialed.l0, if_pos (by omega), e, bsome, hw, hw2, if_pos hx.1, if_pos (by omega), if_pos (by omega), pad_cut (by omega), if_pos (by rw [hsz, size_nums]; simp only [List.length_singleton]; omega), ← numsApp, e2]
    simp
theorem sureDialed_ok {l : List Int} (h : AllBytes l) {p : Int} (q : Int) (hp : 0 ≤ p ∧ p ≤ 1000000) (n : Int) (hn : 1 ≤ n ∧ n ≤ 100) : ∃ s p' q', Ev (fun k => spec_l1Cur_sureDialed.f k l p q n) (s, p', q') ∧ (s.size : Int) ≤ n ∧ (∀ c ∈ bytesOf s, isPad c = true) ∧ (0 ≤ p' ∧ p' ≤ p + 1 + n) := by
  have hw : wrap64 (n + 1) = n + 1 := wr (by omega) (by omega)
  obtain ⟨x, p1, q1, e, hx, hp1⟩ := pick_ok h q (show 0 ≤ p ∧ p ≤ 1000000000 by omega) (n + 1) (by omega)
  obtain ⟨m, rfl⟩ : ∃ m : Nat, x = (m : Int) := ⟨x.toNat, by omega⟩
  obtain ⟨M, p2, q2, e2, hM, hall, hp2⟩ := sure_l0 h m [] p1 q1 (by omega) (by simp; omega) (by simp)
  rw [List.nil_append] at e2 hall
  refine ⟨strOfNums M, p2, q2, ?_, by rw [size_nums]; omega, ?_, by omega⟩
  · obtain ⟨K, e2⟩ := e2
    refine ⟨K, fun k hk => ?_⟩
    have e2 := e2 k hk
    dsimp only at e2 ⊢
    unfold spec_l1Cur_sureDialed.f
    rw [hw, e, bsome]
    exact e2
  · rw [bytes_nums (fun c hc => by have := isPad_iff.1 (hall c hc); omega)]
    exact hall
def Short (s : ByteArray) : Prop := s.size ≤ 40 ∧ ∀ c ∈ bytesOf s, c < 128
theorem short_list (L : List ByteArray) (h : (L.all fun s => decide (s.size ≤ 40) && s.data.toList.all fun b => decide (b < 128)) = true) {s : ByteArray} (hs : s ∈ L) : Short s := by
  have := List.all_eq_true.1 h s hs
  rw [Bool.and_eq_true] at this
  refine ⟨of_decide_eq_true this.1, fun c hc => ?_⟩
  unfold bytesOf at hc
  obtain ⟨b, hb, rfl⟩ := List.mem_map.1 hc
  have := of_decide_eq_true (List.all_eq_true.1 this.2 b hb)
  exact_mod_cast (UInt8.lt_iff_toNat_lt.1 this)
theorem pad_short {s : ByteArray} (h : s.size ≤ 40) (hp : ∀ c ∈ bytesOf s, isPad c = true) : Short s := ⟨h, fun c hc => by have := isPad_iff.1 (hp c hc); omega⟩
theorem dialed_ok {l : List Int} (h : AllBytes l) {p : Int} (q : Int) (hp : 0 ≤ p ∧ p ≤ 100000) : ∃ s p' q', Ev (fun k => spec_l1Cur_dialed.f k l p q) (s, p', q') ∧ Short s ∧ (0 ≤ p' ∧ p' ≤ p + 100) := by
  obtain ⟨b, p1, q1, e, hp1⟩ := one_ok h q (show 0 ≤ p ∧ p ≤ 1000000000 by omega) 14 (by omega)
  cases b with
  | true =>
    obtain ⟨s, p2, q2, e2, hs, hp2⟩ := of_ok h q1 (show 0 ≤ p1 ∧ p1 ≤ 1000000000 by omega) [(⟨#[]⟩ : ByteArray), (⟨#[97]⟩ : ByteArray), (⟨#[49, 50, 32, 51]⟩ : ByteArray), (⟨#[48, 48, 48, 48, 48, 48, 48, 48, 48, 48, 48, 48, 48, 48, 48, 48, 48, 48, 48, 48, 48, 48, 48, 48, 48, 48, 48, 48, 48, 48, 48]⟩ : ByteArray), (⟨#[49, 50, 51, 52, 53, 54, 55, 56, 57, 42, 48, 35]⟩ : ByteArray)] (by decide)
    refine ⟨s, p2, q2, ⟨0, fun k _ => ?_⟩, short_list _ (by decide +kernel) hs, by omega⟩
    dsimp only
    unfold spec_l1Cur_dialed.f
    rw [e, bsome, if_pos rfl, e2, bsome]
  | false =>
    obtain ⟨s, p2, q2, ⟨K, e2⟩, hs, hs2, hp2⟩ := sureDialed_ok h q1 (show 0 ≤ p1 ∧ p1 ≤ 1000000 by omega) 9 (by omega)
    refine ⟨s, p2, q2, ⟨K, fun k hk => ?_⟩, pad_short (by omega) hs2, by omega⟩
    have e2 := e2 k hk
    dsimp only at e2 ⊢
    unfold spec_l1Cur_dialed.f
    rw [e, bsome, if_neg (by simp), e2, bsome]
theorem key_ok {l : List Int} (h : AllBytes l) {p : Int} (q : Int) (hp : 0 ≤ p ∧ p ≤ 100000) : ∃ s p' q', spec_l1Cur_key.f l p q = some (s, p', q') ∧ Short s ∧ (0 ≤ p' ∧ p' ≤ p + 2) := by
  obtain ⟨b, p1, q1, e, hp1⟩ := one_ok h q (show 0 ≤ p ∧ p ≤ 1000000000 by omega) 16 (by omega)
  unfold spec_l1Cur_key.f
  cases b with
  | true =>
    obtain ⟨s, p2, q2, e2, hs, hp2⟩ := of_ok h q1 (show 0 ≤ p1 ∧ p1 ≤ 1000000000 by omega) [(⟨#[]⟩ : ByteArray), (⟨#[120]⟩ : ByteArray), (⟨#[49, 50]⟩ : ByteArray), (⟨#[32]⟩ : ByteArray)] (by decide)
    refine ⟨s, p2, q2, ?_, short_list _ (by decide +kernel) hs, by omega⟩
    rw [e, bsome, if_pos rfl, e2, bsome]
  | false =>
    obtain ⟨x, p2, q2, e2, hx, hp2⟩ := pick_ok h q1 (show 0 ≤ p1 ∧ p1 ≤ 1000000000 by omega) 12 (by omega)
    have hw : wrap64 (x + 1) = x + 1 := wr (by omega) (by omega)
    refine ⟨strOfNums [padC x], p2, q2, ?_, pad_short (by rw [size_nums]; simp) (fun c hc => ?_), by omega⟩
    · rw [e, bsome, if_neg (by simp), e2, bsome]
      dsimp only
      rw [hw, if_pos hx.1, if_pos (by omega), if_pos (by omega), pad_cut (by omega)]
    · have hb := padC_byte x hx.1
      rw [bytes_nums (by simpa using hb)] at hc
      rw [List.mem_singleton.1 hc]
      exact padC_pad (by omega)
theorem drawTwo_ok {l : List Int} (h : AllBytes l) : ∃ s a b c, Ev (fun k => spec_DrawTwoThumbs.f k l) (s, a, b, c) ∧ Short s ∧ Short a ∧ Short b := by
  obtain ⟨s, p1, q1, ⟨K, e1⟩, hs, hp1⟩ := dialed_ok h 0 (p := 0) (by omega)
  obtain ⟨a, p2, q2, e2, ha, hp2⟩ := key_ok h q1 (show 0 ≤ p1 ∧ p1 ≤ 100000 by omega)
  obtain ⟨b, p3, q3, e3, hb, hp3⟩ := key_ok h q2 (show 0 ≤ p2 ∧ p2 ≤ 100000 by omega)
  obtain ⟨c, p4, q4, e4, hp4⟩ := one_ok h q3 (show 0 ≤ p3 ∧ p3 ≤ 1000000000 by omega) 2 (by omega)
  refine ⟨s, a, b, c, ⟨K, fun k hk => ?_⟩, hs, ha, hb⟩
  have e1 := e1 k hk
  dsimp only at e1 ⊢
  unfold spec_DrawTwoThumbs.f
  rw [e1, bsome, e2, bsome, e3, bsome, e4, bsome]
theorem drawFirst_ok {l : List Int} (h : AllBytes l) : ∃ s a b c, Ev (fun k => spec_DrawFirstThumbs.f k l) (s, a, b, c) ∧ Short s ∧ Short a ∧ Short b := by
  obtain ⟨s, a, b, c, ⟨K, e⟩, hs⟩ := drawTwo_ok h
  refine ⟨s, a, b, c, ⟨K, fun k hk => ?_⟩, hs⟩
  have e := e k hk
  dsimp only at e ⊢
  unfold spec_DrawFirstThumbs.f
  rw [e, bsome]
theorem drawOne_ok {l : List Int} (h : AllBytes l) : ∃ s a c, Ev (fun k => spec_DrawOneThumb.f k l) (s, a, c) ∧ Short s ∧ Short a := by
  obtain ⟨s, p1, q1, ⟨K, e1⟩, hs, hp1⟩ := dialed_ok h 0 (p := 0) (by omega)
  obtain ⟨a, p2, q2, e2, ha, hp2⟩ := key_ok h q1 (show 0 ≤ p1 ∧ p1 ≤ 100000 by omega)
  obtain ⟨c, p4, q4, e4, hp4⟩ := one_ok h q2 (show 0 ≤ p2 ∧ p2 ≤ 1000000000 by omega) 2 (by omega)
  refine ⟨s, a, c, ⟨K, fun k hk => ?_⟩, hs, ha⟩
  have e1 := e1 k hk
  dsimp only at e1 ⊢
  unfold spec_DrawOneThumb.f
  rw [e1, bsome, e2, bsome, e4, bsome]
theorem drawMoves_ok {l : List Int} (h : AllBytes l) : ∃ s a, Ev (fun k => spec_DrawMovesOf.f k l) (s, a) ∧ Short s ∧ Short a := by
  obtain ⟨s, p1, q1, ⟨K, e1⟩, hs, hp1⟩ := dialed_ok h 0 (p := 0) (by omega)
  obtain ⟨a, p2, q2, e2, ha, hp2⟩ := key_ok h q1 (show 0 ≤ p1 ∧ p1 ≤ 100000 by omega)
  refine ⟨s, a, ⟨K, fun k hk => ?_⟩, hs, ha⟩
  have e1 := e1 k hk
  dsimp only at e1 ⊢
  unfold spec_DrawMovesOf.f
  rw [e1, bsome, e2, bsome]
theorem planLp_ok {l : List Int} (h : AllBytes l) : ∀ (n : Nat) (p q : Int) (A : List Int), (0 ≤ p ∧ p + n ≤ 1000000000) → ∃ M p' q', spec_DrawThumbPlan.lp l n p q A = some (A ++ M, p', q') ∧ M.length = n ∧ (0 ≤ p' ∧ p' ≤ p + n)
  | 0, p, q, A, hp => ⟨[], p, q, by simp [spec_DrawThumbPlan.lp], rfl, by omega⟩
  | n + 1, p, q, A, hp => by
    obtain ⟨x, p1, q1, e, hx, hp1⟩ := pick_ok h q (show 0 ≤ p ∧ p ≤ 1000000000 by omega) 2 (by omega)
    obtain ⟨M, p2, q2, e2, hM, hp2⟩ := planLp_ok h n p1 q1 (A ++ [x]) (by omega)
    refine ⟨x :: M, p2, q2, ?_, by simp [hM], by omega⟩
    rw [spec_DrawThumbPlan.lp, e, bsome]
    dsimp only
    rw [e2]
    simp
theorem asc_short {s : ByteArray} (h : Short s) : spec_DrawThumbPlan.asc s = true := by
  unfold spec_DrawThumbPlan.asc
  refine List.all_eq_true.2 fun b hb => decide_eq_true ?_
  have := h.2 (b.toNat : Int) (List.mem_map.2 ⟨b, hb, rfl⟩)
  exact UInt8.lt_iff_toNat_lt.2 (by exact_mod_cast this)
theorem drawPlan_ok {l : List Int} (h : AllBytes l) : ∃ s a b T c, Ev (fun k => spec_DrawThumbPlan.f k l) (s, a, b, T, c) ∧ Short s ∧ Short a ∧ Short b ∧ T.length ≤ 41 := by
  obtain ⟨s, p1, q1, ⟨K, e1⟩, hs, hp1⟩ := dialed_ok h 0 (p := 0) (by omega)
  obtain ⟨a, p2, q2, e2, ha, hp2⟩ := key_ok h q1 (show 0 ≤ p1 ∧ p1 ≤ 100000 by omega)
  obtain ⟨b, p3, q3, e3, hb, hp3⟩ := key_ok h q2 (show 0 ≤ p2 ∧ p2 ≤ 100000 by omega)
  have hs1 := hs.1
  obtain ⟨M, p4, q4, e4, hM, hp4⟩ := planLp_ok h s.size p3 q3 [] (by omega)
  obtain ⟨o, p5, q5, e5, hp5⟩ := one_ok h q4 (show 0 ≤ p4 ∧ p4 ≤ 1000000000 by omega) 10 (by omega)
  have hmore : ∃ T p6 q6, spec_DrawThumbPlan.more l ([] ++ M, p4, q4) (o, p5, q5) = some (T, p6, q6) ∧ T.length ≤ 41 ∧ (0 ≤ p6 ∧ p6 ≤ 1000000000) := by
    unfold spec_DrawThumbPlan.more
    cases o with
    | true =>
      obtain ⟨x, p6, q6, e6, hx, hp6⟩ := among_ok h q5 (show 0 ≤ p5 ∧ p5 ≤ 1000000000 by omega) spec_DrawThumbPlan.ab (by decide)
      rw [if_pos rfl, e6, bsome]
      exact ⟨_, _, _, rfl, by simp; omega, by dsimp only; omega⟩
    | false =>
      rw [if_neg (by simp)]
      exact ⟨_, _, _, rfl, by simp; omega, by dsimp only; omega⟩
  obtain ⟨T, p6, q6, e6, hT, hp6⟩ := hmore
  obtain ⟨c, p7, q7, e7, hp7⟩ := one_ok h q6 hp6 2 (by omega)
  refine ⟨s, a, b, T, c, ⟨K, fun k hk => ?_⟩, hs, ha, hb, hT⟩
  have e1 := e1 k hk
  dsimp only at e1 ⊢
  unfold spec_DrawThumbPlan.f
  rw [e1, bsome, e2, bsome, e3, bsome]
  dsimp only
  rw [if_pos ⟨by omega, asc_short hs⟩, e4, bsome]
  dsimp only
  rw [e5, bsome, e6, bsome]
  dsimp only
  rw [e7, bsome]
end Go.Proofs.YtldnddehmpbbpaaGreatDoor.Pu
end

section
namespace Go.Proofs.YtldnddehmpbbpaaGreatDoor.Pm
open Go.RowKit Go.Proofs.YtldnddehmpbbpaaGreatDoor.P Go.Proofs.YtldnddehmpbbpaaGreatDoor.Pu Go.Proofs.YtldnddehmpbbpaaGreatDoorW.PrintWords Go.Proofs.YtldnddehmpbbpaaGreatDoorW.PrintLast Go.Proofs.YtldnddehmpbbpaaGreatDoorW.PrintMore
def isPad (c : Int) : Bool := (decide (49 ≤ c) && decide (c ≤ 57)) || c == 42 || c == 48 || c == 35
def plN (c : Int) : Int := if 49 ≤ c then c - 49 else if c = 42 then 9 else if c = 48 then 10 else 11
def padC (p : Int) : Int := if p ≤ 8 then 49 + p else if p = 9 then 42 else if p = 10 then 48 else 35
theorem isPad_iff {c : Int} : isPad c = true ↔ (49 ≤ c ∧ c ≤ 57) ∨ c = 42 ∨ c = 48 ∨ c = 35 := by
  unfold isPad
  simp only [Bool.or_eq_true, Bool.and_eq_true, decide_eq_true_eq, beq_iff_eq]
  omega
theorem plN_range {c : Int} (h : isPad c = true) : 0 ≤ plN c ∧ plN c ≤ 11 := by
  have := isPad_iff.1 h
  unfold plN
  omega
theorem padC_plN {c : Int} (h : isPad c = true) : padC (plN c) = c := by
  have := isPad_iff.1 h
  unfold padC plN
  omega
theorem plN_padC {p : Int} (h : 0 ≤ p ∧ p ≤ 11) : plN (padC p) = p := by
  unfold padC plN
  omega
theorem padC_pad {p : Int} (h : 0 ≤ p ∧ p ≤ 11) : isPad (padC p) = true := by
  rw [isPad_iff]
  unfold padC
  omega
theorem padC_byte (p : Int) (h : 0 ≤ p) : 0 ≤ padC p ∧ padC p ≤ 255 := by
  unfold padC
  omega
theorem pad_contains (b : UInt8) : (⟨#[49, 50, 51, 52, 53, 54, 55, 56, 57, 42, 48, 35]⟩ : ByteArray).data.toList.contains b = isPad b.toNat := by
  have key : ∀ n : Fin 256, (⟨#[49, 50, 51, 52, 53, 54, 55, 56, 57, 42, 48, 35]⟩ : ByteArray).data.toList.contains (UInt8.ofNat n.val) = isPad (UInt8.ofNat n.val).toNat := by decide +kernel
  have := key ⟨b.toNat, b.toNat_lt⟩
  simpa using this
theorem pad_bt {p : Int} (h : 0 ≤ p ∧ p ≤ 11) : bt (⟨#[49, 50, 51, 52, 53, 54, 55, 56, 57, 42, 48, 35]⟩ : ByteArray) p = padC p := by
  have key : ∀ n : Fin 12, bt (⟨#[49, 50, 51, 52, 53, 54, 55, 56, 57, 42, 48, 35]⟩ : ByteArray) (n.val : Int) = padC (n.val : Int) := by decide +kernel
  have := key ⟨p.toNat, by omega⟩
  rwa [show ((p.toNat : Nat) : Int) = p by omega] at this
theorem pad_cut {p : Int} (h : 0 ≤ p ∧ p ≤ 11) : (⟨#[49, 50, 51, 52, 53, 54, 55, 56, 57, 42, 48, 35]⟩ : ByteArray).extract p.toNat (p + 1).toNat = strOfNums [padC p] := by
  have key : ∀ n : Fin 12, ((⟨#[49, 50, 51, 52, 53, 54, 55, 56, 57, 42, 48, 35]⟩ : ByteArray).extract n.val (n.val + 1)).data.toList = (strOfNums [padC (n.val : Int)]).data.toList := by decide +kernel
  have := key ⟨p.toNat, by omega⟩
  rw [show ((p.toNat : Nat) : Int) = p by omega] at this
  rw [show (p + 1).toNat = p.toNat + 1 by omega]
  exact bytes_ext (by unfold bytesOf; rw [this])
theorem place_is (c : Int) (h : isPad c = true) : impl_place.f c = some (plN c) := by
  have key : ∀ n : Fin 12, impl_place.f (padC (n.val : Int)) = some (n.val : Int) := by decide +kernel
  have hp := plN_range h
  have := key ⟨(plN c).toNat, by omega⟩
  rwa [show (((plN c).toNat : Nat) : Int) = plN c by omega, padC_plN h] at this
theorem thPlace_ev (c : Int) (h : 0 ≤ c ∧ c ≤ 255) : Ev (fun k => spec_thPlace.f k c) (if isPad c = true then plN c else -1) := by
  have key : ∀ n : Fin 256, spec_thPlace.f 14 (n.val : Int) = some (if isPad (n.val : Int) = true then plN (n.val : Int) else -1) := by decide +kernel
  have := key ⟨c.toNat, by omega⟩
  rw [show ((c.toNat : Nat) : Int) = c by omega] at this
  exact Ev.of (spec_thPlace.mono c) this
theorem thPlace_pad (c : Int) (h : isPad c = true) : Ev (fun k => spec_thPlace.f k c) (plN c) := by
  have h2 := isPad_iff.1 h
  have := thPlace_ev c ⟨by omega, by omega⟩
  rwa [if_pos h] at this
def dialB (s : ByteArray) : Bool := decide (s.size ≤ 30) && (bytesOf s).all isPad
theorem dialB_iff {s : ByteArray} : dialB s = true ↔ s.size ≤ 30 ∧ ∀ c ∈ bytesOf s, isPad c = true := by
  unfold dialB
  simp [List.all_eq_true]
def oneB (s : ByteArray) : Bool := decide (s.size = 1) && dialB s
theorem oneB_iff {s : ByteArray} : oneB s = true ↔ s.size = 1 ∧ isPad (bt s 0) = true := by
  unfold oneB
  rw [Bool.and_eq_true, decide_eq_true_eq, dialB_iff]
  constructor
  · rintro ⟨h1, _, h2⟩
    exact ⟨h1, h2 _ (bt_mem s 0 (by omega))⟩
  · rintro ⟨h1, h2⟩
    refine ⟨h1, by omega, fun c hc => ?_⟩
    have := drop_bytes s 0 (by omega)
    rw [List.drop_zero, show (0 : Nat) + 1 = s.size by omega, drop_end] at this
    rw [this, List.mem_singleton] at hc
    rw [hc]
    exact h2
theorem isDialed_is (s : ByteArray) (hs : s.size ≤ 140737488351232) : impl_IsDialed.f s = some (dialB s) := by
  unfold impl_IsDialed.f dialB
  by_cases h : s.size ≤ 30
  · rw [if_pos (by omega)]
    unfold impl_over.f strings_Trim.f
    rw [if_pos (by omega), if_pos (by decide), if_pos (by decide), bsome, bsome, decide_eq_true h, Bool.true_and, ← bytes_all pad_contains]
    congr 1
    rw [Bool.eq_iff_iff, beq_iff_eq, Lib.toList_data, ← trimS_nil]
  · rw [if_neg (by omega), decide_eq_false h]
    rfl
theorem isKey_is (s : ByteArray) (hs : s.size ≤ 140737488351232) : impl_isKey.f s = some (oneB s) := by
  unfold impl_isKey.f oneB
  by_cases h : s.size = 1
  · rw [if_pos (by omega), isDialed_is s hs, bsome, decide_eq_true h]
    rfl
  · rw [if_neg (by omega), decide_eq_false h]
    rfl
theorem thGood_l0 (s : ByteArray) (hs : s.size ≤ 1000000) : ∀ (d i : Nat), i + d = s.size → Ev (fun k => spec_thGood.l0 k s i) (((bytesOf s).drop i).all isPad)
  | 0, i, h => by
    obtain rfl : i = s.size := by omega
    rw [drop_end]
    refine ev_from 0 fun k _ => ?_
    simp only [spec_thGood.l0]
    rw [if_neg (by omega)]
    rfl
  | d + 1, i, h => by
    obtain ⟨K, ih⟩ := thGood_l0 s hs d (i + 1) (by omega)
    obtain ⟨K0, h0⟩ := thPlace_ev (bt s i) (bytes_range s _ (bt_mem s i (by omega)))
    rw [drop_bytes s i (by omega), List.all_cons]
    refine ev_from (K0 + K) fun k hk => ?_
    have e := ih k (by omega)
    have e0 := h0 k (by omega)
    rw [show ((i + 1 : Nat) : Int) = (i : Int) + 1 from rfl] at e
    dsimp only at e e0
    simp only [spec_thGood.l0]
    rw [if_pos (by omega), if_pos (by omega), e0, bsome, wr (by omega) (by omega), e]
    cases hp : isPad (bt s i) with
    | false =>
      rw [show (if false = true then plN (bt s i) else (-1 : Int)) = -1 from rfl, if_pos (by omega)]; rfl
    | true =>
      have := plN_range hp
      rw [show (if true = true then plN (bt s i) else (-1 : Int)) = plN (bt s i) from rfl, if_neg (by omega)]; rfl
theorem thGood_ev (s : ByteArray) : Ev (fun k => spec_thGood.f k s) (dialB s) := by
  unfold dialB
  by_cases h : s.size ≤ 30
  · obtain ⟨K, e⟩ := thGood_l0 s (by omega) s.size 0 (by omega)
    refine ⟨K, fun k hk => ?_⟩
    have e := e k hk
    dsimp only at e ⊢
    unfold spec_thGood.f
    rw [if_neg (by omega), decide_eq_true h, Bool.true_and]
    exact e
  · refine ⟨0, fun k _ => ?_⟩
    dsimp only
    unfold spec_thGood.f
    rw [if_pos (by omega), decide_eq_false h]
    rfl
theorem thOne_ev (s : ByteArray) : Ev (fun k => spec_thOne.f k s) (oneB s) := by
  obtain ⟨K, e⟩ := thGood_ev s
  refine ⟨K, fun k hk => ?_⟩
  have e := e k hk
  dsimp only at e ⊢
  unfold spec_thOne.f oneB
  by_cases h : s.size = 1
  · rw [if_pos (by omega), e, bsome, decide_eq_true h]
    rfl
  · rw [if_neg (by omega), decide_eq_false h]
    rfl
def placesN (s : ByteArray) : List Int := (bytesOf s).map plN
theorem placesN_length (s : ByteArray) : (placesN s).length = s.size := by rw [placesN, List.length_map, bytesOf_length]
theorem placesN_range {s : ByteArray} (h : dialB s = true) : ∀ p ∈ placesN s, 0 ≤ p ∧ p ≤ 11 := by
  intro p hp
  obtain ⟨c, hc, rfl⟩ := List.mem_map.1 hp
  exact plN_range ((dialB_iff.1 h).2 c hc)
theorem places_l0 (s : ByteArray) (h : dialB s = true) : ∀ (d i : Nat) (A : List Int), i + d = s.size → A.length ≤ i → Ev (fun k => impl_places.l0 k s A s.size i) (A ++ ((bytesOf s).drop i).map plN)
  | 0, i, A, hi, hA => by
    obtain rfl : i = s.size := by omega
    rw [drop_end]
    refine ev_from 0 fun k _ => ?_
    simp only [impl_places.l0]
    rw [if_neg (by omega)]
    simp
  | d + 1, i, A, hi, hA => by
    have hs := (dialB_iff.1 h).1
    have hp := (dialB_iff.1 h).2 _ (bt_mem s i (by omega))
    obtain ⟨K, ih⟩ := places_l0 s h d (i + 1) (A ++ [plN (bt s i)]) (by omega) (by simp; omega)
    rw [drop_bytes s i (by omega)]
    refine ev_from K fun k hk => ?_
    have e := ih k (by omega)
    rw [show ((i + 1 : Nat) : Int) = (i : Int) + 1 from rfl] at e
    dsimp only at e
    simp only [impl_places.l0]
    rw [if_pos (by omega), if_pos (by omega), if_pos (by omega), place_is _ hp, bsome, if_pos (by omega), wr (by omega) (by omega), e]
    simp
theorem places_ev (s : ByteArray) (h : dialB s = true) : Ev (fun k => impl_places.f k s) (placesN s) := by
  obtain ⟨K, e⟩ := places_l0 s h s.size 0 [] (by omega) (by simp)
  exact ⟨K, fun k hk => by have e := e k hk; dsimp only at e; unfold impl_places.f placesN; simpa using e⟩
theorem drop_rd (L : List Int) (i : Nat) (h : i < L.length) : L.drop i = rd L i :: L.drop (i + 1) := by
  rw [List.drop_eq_getElem_cons h, rd, Int.toNat_natCast, List.getD_eq_getElem?_getD, List.getElem?_eq_getElem h]
  rfl
theorem drop_places (s : ByteArray) (i : Nat) (h : i < s.size) : (placesN s).drop i = plN (bt s i) :: (placesN s).drop (i + 1) := by
  unfold placesN
  rw [← List.map_drop, drop_bytes s i h, List.map_cons, List.map_drop]
def horN (n : Int) : List Int := if n < 0 then List.replicate (-n).toNat 108 else List.replicate n.toNat 114
def verN (n : Int) : List Int := if n < 0 then List.replicate (-n).toNat 117 else List.replicate n.toNat 100
def segN (p q : Int) : List Int := horN (q % 3 - p % 3) ++ verN (q / 3 - p / 3) ++ [46]
def movesN : List Int → Int → List Int
  | [], _ => []
  | q :: L, p => segN p q ++ movesN L q
theorem bytes_of_list {x : Option ByteArray} {L : List Int} (h : x.map (fun b => b.data.toList) = some (L.map fun c => c.toNat.toUInt8)) : x = some (strOfNums L) := by
  cases x with
  | none => cases h
  | some b =>
    have : b.data.toList = L.map fun c => c.toNat.toUInt8 := Option.some.inj h
    congr 1
    exact bytes_ext (by unfold bytesOf; rw [this]; unfold strOfNums; simp)
theorem stepsH_is {n : Int} (h : -3 ≤ n ∧ n ≤ 3) : spec_thSteps.f 12 n (⟨#[108]⟩ : ByteArray) (⟨#[114]⟩ : ByteArray) = some (strOfNums (horN n)) := by
  have key : ∀ m : Fin 7, (spec_thSteps.f 12 ((m.val : Int) - 3) (⟨#[108]⟩ : ByteArray) (⟨#[114]⟩ : ByteArray)).map (fun b => b.data.toList) = some ((horN ((m.val : Int) - 3)).map fun c => c.toNat.toUInt8) := by decide +kernel
  have := key ⟨(n + 3).toNat, by omega⟩
  rw [show (((n + 3).toNat : Nat) : Int) - 3 = n by omega] at this
  exact bytes_of_list this
theorem stepsV_is {n : Int} (h : -3 ≤ n ∧ n ≤ 3) : spec_thSteps.f 12 n (⟨#[117]⟩ : ByteArray) (⟨#[100]⟩ : ByteArray) = some (strOfNums (verN n)) := by
  have key : ∀ m : Fin 7, (spec_thSteps.f 12 ((m.val : Int) - 3) (⟨#[117]⟩ : ByteArray) (⟨#[100]⟩ : ByteArray)).map (fun b => b.data.toList) = some ((verN ((m.val : Int) - 3)).map fun c => c.toNat.toUInt8) := by decide +kernel
  have := key ⟨(n + 3).toNat, by omega⟩
  rw [show (((n + 3).toNat : Nat) : Int) - 3 = n by omega] at this
  exact bytes_of_list this
theorem repH_is {n : Int} (h : -3 ≤ n ∧ n ≤ 3) : impl_repeated.f (⟨#[108]⟩ : ByteArray) (⟨#[114]⟩ : ByteArray) n = some (strOfNums (horN n)) := by
  have key : ∀ m : Fin 7, (impl_repeated.f (⟨#[108]⟩ : ByteArray) (⟨#[114]⟩ : ByteArray) ((m.val : Int) - 3)).map (fun b => b.data.toList) = some ((horN ((m.val : Int) - 3)).map fun c => c.toNat.toUInt8) := by decide +kernel
  have := key ⟨(n + 3).toNat, by omega⟩
  rw [show (((n + 3).toNat : Nat) : Int) - 3 = n by omega] at this
  exact bytes_of_list this
theorem repV_is {n : Int} (h : -3 ≤ n ∧ n ≤ 3) : impl_repeated.f (⟨#[117]⟩ : ByteArray) (⟨#[100]⟩ : ByteArray) n = some (strOfNums (verN n)) := by
  have key : ∀ m : Fin 7, (impl_repeated.f (⟨#[117]⟩ : ByteArray) (⟨#[100]⟩ : ByteArray) ((m.val : Int) - 3)).map (fun b => b.data.toList) = some ((verN ((m.val : Int) - 3)).map fun c => c.toNat.toUInt8) := by decide +kernel
  have := key ⟨(n + 3).toNat, by omega⟩
  rw [show (((n + 3).toNat : Nat) : Int) - 3 = n by omega] at this
  exact bytes_of_list this
theorem dx_is {p q : Int} (hp : 0 ≤ p ∧ p ≤ 11) (hq : 0 ≤ q ∧ q ≤ 11) : wrap64 (Int.tmod q 3 - Int.tmod p 3) = q % 3 - p % 3 := by
  rw [Int.tmod_eq_emod_of_nonneg hq.1, Int.tmod_eq_emod_of_nonneg hp.1]
  exact wr (by omega) (by omega)
theorem dy_is {p q : Int} (hp : 0 ≤ p ∧ p ≤ 11) (hq : 0 ≤ q ∧ q ≤ 11) : wrap64 (wrap64 (Int.tdiv q 3) - wrap64 (Int.tdiv p 3)) = q / 3 - p / 3 := by
  rw [Int.tdiv_eq_ediv_of_nonneg hq.1, Int.tdiv_eq_ediv_of_nonneg hp.1, wr (x := q / 3) (by omega) (by omega), wr (x := p / 3) (by omega) (by omega)]
  exact wr (by omega) (by omega)
theorem horN_length {n : Int} (h : -3 ≤ n ∧ n ≤ 3) : (horN n).length ≤ 3 := by
  unfold horN
  split <;> rw [List.length_replicate] <;> omega
theorem verN_length {n : Int} (h : -3 ≤ n ∧ n ≤ 3) : (verN n).length ≤ 3 := by
  unfold verN
  split <;> rw [List.length_replicate] <;> omega
theorem nums_data (L : List Int) : (strOfNums L).data.toList = L.map fun c => c.toNat.toUInt8 := by
  unfold strOfNums
  simp
theorem moves_go : ∀ (L : List Int) (p : Int) (A : List Int), (∀ q ∈ L, 0 ≤ q ∧ q ≤ 11) → (0 ≤ p ∧ p ≤ 11) → A.length + 7 * L.length ≤ 1000000 →
    impl_MovesOf.go L p (A.map fun c => c.toNat.toUInt8) = some ((A ++ movesN L p).map fun c => c.toNat.toUInt8)
  | [], p, A, _, _, _ => by simp [impl_MovesOf.go, movesN]
  | q :: L, p, A, hL, hp, hA => by
    have hq := hL q List.mem_cons_self
    rw [List.length_cons] at hA
    have h1 := horN_length (n := q % 3 - p % 3) (by omega)
    have h2 := verN_length (n := q / 3 - p / 3) (by omega)
    have ih := moves_go L q (A ++ segN p q) (fun x hx => hL x (List.mem_cons_of_mem q hx)) hq (by
      unfold segN
      rw [List.length_append, List.length_append, List.length_append, List.length_singleton]
      omega)
    rw [impl_MovesOf.go, dx_is hp hq, dy_is hp hq, repH_is (by omega), bsome, repV_is (by omega), bsome, if_pos (by rw [size_nums]; omega), if_pos (by rw [size_nums]; omega), if_pos (by rw [List.length_map]; omega)]
    rw [show (⟨#[46]⟩ : ByteArray) = strOfNums [46] from rfl, ← numsApp, ← numsApp, nums_data, ← List.map_append]
    rw [show horN (q % 3 - p % 3) ++ verN (q / 3 - p / 3) ++ [46] = segN p q from rfl, ih, movesN, List.append_assoc]
theorem movesS_l0 (s : ByteArray) (h : dialB s = true) : ∀ (d i : Nat) (A : List Int) (p : Int), i + d = s.size → (0 ≤ p ∧ p ≤ 11) → A.length ≤ 7 * i → Ev (fun k => spec_MovesOf.l0 k s (strOfNums A) p i) (strOfNums (A ++ movesN ((placesN s).drop i) p), true)
  | 0, i, A, p, hi, hp, hA => by
    obtain rfl : i = s.size := by omega
    rw [← placesN_length s, List.drop_length]
    refine ev_from 0 fun k _ => ?_
    simp only [spec_MovesOf.l0]
    rw [placesN_length, if_neg (by omega)]
    simp [movesN]
  | d + 1, i, A, p, hi, hp, hA => by
    have hs := (dialB_iff.1 h).1
    have hc := (dialB_iff.1 h).2 _ (bt_mem s i (by omega))
    have hq := plN_range hc
    have h1 := horN_length (n := plN (bt s i) % 3 - p % 3) (by omega)
    have h2 := verN_length (n := plN (bt s i) / 3 - p / 3) (by omega)
    obtain ⟨K1, e1⟩ := thPlace_pad _ hc
    obtain ⟨K2, e2⟩ := Ev.of (spec_thSteps.mono _ _ _) (stepsH_is (n := plN (bt s i) % 3 - p % 3) (by omega))
    obtain ⟨K3, e3⟩ := Ev.of (spec_thSteps.mono _ _ _) (stepsV_is (n := plN (bt s i) / 3 - p / 3) (by omega))
    obtain ⟨K, ih⟩ := movesS_l0 s h d (i + 1) (A ++ segN p (plN (bt s i))) (plN (bt s i)) (by omega) hq (by
      unfold segN
      rw [List.length_append, List.length_append, List.length_append, List.length_singleton]
      omega)
    rw [drop_places s i (by omega)]
    refine ev_from (K + K1 + K2 + K3) fun k hk => ?_
    have e := ih k (by omega)
    have e1 := e1 k (by omega)
    have e2 := e2 k (by omega)
    have e3 := e3 k (by omega)
    rw [show ((i + 1 : Nat) : Int) = (i : Int) + 1 from rfl] at e
    dsimp only at e e1 e2 e3
    simp only [spec_MovesOf.l0]
    rw [if_pos (by omega), if_pos (by omega), e1, bsome, dx_is hp hq, dy_is hp hq, e2, bsome, e3, bsome, if_pos (by rw [size_nums, size_nums]; omega), if_pos (by rw [ByteArray.size_append, size_nums, size_nums]; omega),
      if_pos (by rw [ByteArray.size_append, ByteArray.size_append, size_nums, size_nums, size_nums, show (⟨#[46]⟩ : ByteArray).size = 1 from rfl]; omega), wr (by omega) (by omega)]
    rw [show (⟨#[46]⟩ : ByteArray) = strOfNums [46] from rfl, ← numsApp, ← numsApp, ← numsApp]
    rw [show horN (plN (bt s i) % 3 - p % 3) ++ verN (plN (bt s i) / 3 - p / 3) ++ [46] = segN p (plN (bt s i)) from rfl, e, movesN, List.append_assoc]
def movT (s t : ByteArray) : ByteArray × Bool := if (dialB s && oneB t) = true then (strOfNums (movesN (placesN s) (plN (bt t 0))), true) else ((⟨#[]⟩ : ByteArray), false)
theorem movesS_ev (s t : ByteArray) : Ev (fun k => spec_MovesOf.f k s t) (movT s t) := by
  obtain ⟨K0, e0⟩ := thGood_ev s
  obtain ⟨K1, e1⟩ := thOne_ev t
  unfold movT
  cases h0 : dialB s with
  | false =>
    refine ⟨K0 + 1, fun k hk => ?_⟩
    obtain ⟨k, rfl⟩ : ∃ m, k = m + 1 := ⟨k - 1, by omega⟩
    have e0 := e0 (k + 1) (by omega)
    rw [h0] at e0
    dsimp only at e0 ⊢
    unfold spec_MovesOf.f
    rw [e0, bsome, if_neg (by simp)]
    simp [spec_MovesOf.j0]
  | true =>
    cases h1 : oneB t with
    | false =>
      refine ⟨K0 + K1 + 1, fun k hk => ?_⟩
      obtain ⟨k, rfl⟩ : ∃ m, k = m + 1 := ⟨k - 1, by omega⟩
      have e0 := e0 (k + 1) (by omega)
      have e1 := e1 (k + 1) (by omega)
      rw [h0] at e0
      rw [h1] at e1
      dsimp only at e0 e1 ⊢
      unfold spec_MovesOf.f
      rw [e0, bsome, if_pos rfl, e1, bsome]
      simp [spec_MovesOf.j0]
    | true =>
      obtain ⟨ht, hc⟩ := oneB_iff.1 h1
      have hp := plN_range hc
      obtain ⟨K2, e2⟩ := thPlace_pad _ hc
      obtain ⟨K3, e3⟩ := movesS_l0 s h0 s.size 0 [] (plN (bt t 0)) (by omega) hp (by simp)
      refine ⟨K0 + K1 + K2 + K3 + 1, fun k hk => ?_⟩
      obtain ⟨k, rfl⟩ : ∃ m, k = m + 1 := ⟨k - 1, by omega⟩
      have e0 := e0 (k + 1) (by omega)
      have e1 := e1 (k + 1) (by omega)
      have e2 := e2 k (by omega)
      have e3 := e3 k (by omega)
      rw [h0] at e0
      rw [h1] at e1
      rw [List.nil_append, List.drop_zero] at e3
      dsimp only at e0 e1 e2 e3 ⊢
      unfold spec_MovesOf.f
      rw [e0, bsome, if_pos rfl, e1, bsome]
      simp only [spec_MovesOf.j0, Bool.not_true]
      rw [if_neg (by simp), if_pos (by omega), e2, bsome]
      exact e3
theorem movesI_ev (s t : ByteArray) (hs : s.size ≤ 140737488351232) (ht : t.size ≤ 140737488351232) : Ev (fun k => impl_MovesOf.f k s t) (movT s t) := by
  have e0 := isDialed_is s hs
  have e1 := isKey_is t ht
  unfold movT
  cases h0 : dialB s with
  | false =>
    rw [h0] at e0
    exact ⟨0, fun k _ => by dsimp only; unfold impl_MovesOf.f; rw [e0, bsome, if_neg (by simp)]; rfl⟩
  | true =>
    rw [h0] at e0
    cases h1 : oneB t with
    | false =>
      rw [h1] at e1
      exact ⟨0, fun k _ => by dsimp only; unfold impl_MovesOf.f; rw [e0, bsome, if_pos rfl, e1, bsome, if_neg (by simp)]; rfl⟩
    | true =>
      rw [h1] at e1
      obtain ⟨hts, hc⟩ := oneB_iff.1 h1
      have hsz := (dialB_iff.1 h0).1
      have hp := plN_range hc
      obtain ⟨K, e⟩ := places_ev s h0
      have hg := moves_go (placesN s) (plN (bt t 0)) [] (placesN_range h0) hp (by rw [placesN_length, List.length_nil]; omega)
      refine ⟨K, fun k hk => ?_⟩
      have e := e k hk
      dsimp only at e ⊢
      unfold impl_MovesOf.f
      rw [e0, bsome, if_pos rfl, e1, bsome, if_pos rfl, if_pos (by omega), place_is _ hc, bsome, e, bsome, if_pos (by rw [placesN_length]; omega), show ([] : List UInt8) = ([] : List Int).map (fun c => c.toNat.toUInt8) from rfl, hg, bsome, if_pos (by rfl)]
      rfl
end Go.Proofs.YtldnddehmpbbpaaGreatDoor.Pm
end

section
namespace Go.Proofs.YtldnddehmpbbpaaGreatDoor.Pb
open Go.RowKit Go.Proofs.YtldnddehmpbbpaaGreatDoor.P Go.Proofs.YtldnddehmpbbpaaGreatDoor.Pu Go.Proofs.YtldnddehmpbbpaaGreatDoorW.PrintWords Go.Proofs.YtldnddehmpbbpaaGreatDoorW.PrintLast Go.Proofs.YtldnddehmpbbpaaGreatDoorW.PrintMore
def isPad (c : Int) : Bool := (decide (49 ≤ c) && decide (c ≤ 57)) || c == 42 || c == 48 || c == 35
def plN (c : Int) : Int := if 49 ≤ c then c - 49 else if c = 42 then 9 else if c = 48 then 10 else 11
def padC (p : Int) : Int := if p ≤ 8 then 49 + p else if p = 9 then 42 else if p = 10 then 48 else 35
theorem isPad_iff {c : Int} : isPad c = true ↔ (49 ≤ c ∧ c ≤ 57) ∨ c = 42 ∨ c = 48 ∨ c = 35 := by
  unfold isPad
  simp only [Bool.or_eq_true, Bool.and_eq_true, decide_eq_true_eq, beq_iff_eq]
  omega
theorem plN_range {c : Int} (h : isPad c = true) : 0 ≤ plN c ∧ plN c ≤ 11 := by
  have := isPad_iff.1 h
  unfold plN
  omega
theorem padC_plN {c : Int} (h : isPad c = true) : padC (plN c) = c := by
  have := isPad_iff.1 h
  unfold padC plN
  omega
theorem plN_padC {p : Int} (h : 0 ≤ p ∧ p ≤ 11) : plN (padC p) = p := by
  unfold padC plN
  omega
theorem padC_pad {p : Int} (h : 0 ≤ p ∧ p ≤ 11) : isPad (padC p) = true := by
  rw [isPad_iff]
  unfold padC
  omega
theorem padC_byte (p : Int) (h : 0 ≤ p) : 0 ≤ padC p ∧ padC p ≤ 255 := by
  unfold padC
  omega
theorem pad_contains (b : UInt8) : (⟨#[49, 50, 51, 52, 53, 54, 55, 56, 57, 42, 48, 35]⟩ : ByteArray).data.toList.contains b = isPad b.toNat := by
  have key : ∀ n : Fin 256, (⟨#[49, 50, 51, 52, 53, 54, 55, 56, 57, 42, 48, 35]⟩ : ByteArray).data.toList.contains (UInt8.ofNat n.val) = isPad (UInt8.ofNat n.val).toNat := by decide +kernel
  have := key ⟨b.toNat, b.toNat_lt⟩
  simpa using this
theorem pad_bt {p : Int} (h : 0 ≤ p ∧ p ≤ 11) : bt (⟨#[49, 50, 51, 52, 53, 54, 55, 56, 57, 42, 48, 35]⟩ : ByteArray) p = padC p := by
  have key : ∀ n : Fin 12, bt (⟨#[49, 50, 51, 52, 53, 54, 55, 56, 57, 42, 48, 35]⟩ : ByteArray) (n.val : Int) = padC (n.val : Int) := by decide +kernel
  have := key ⟨p.toNat, by omega⟩
  rwa [show ((p.toNat : Nat) : Int) = p by omega] at this
theorem pad_cut {p : Int} (h : 0 ≤ p ∧ p ≤ 11) : (⟨#[49, 50, 51, 52, 53, 54, 55, 56, 57, 42, 48, 35]⟩ : ByteArray).extract p.toNat (p + 1).toNat = strOfNums [padC p] := by
  have key : ∀ n : Fin 12, ((⟨#[49, 50, 51, 52, 53, 54, 55, 56, 57, 42, 48, 35]⟩ : ByteArray).extract n.val (n.val + 1)).data.toList = (strOfNums [padC (n.val : Int)]).data.toList := by decide +kernel
  have := key ⟨p.toNat, by omega⟩
  rw [show ((p.toNat : Nat) : Int) = p by omega] at this
  rw [show (p + 1).toNat = p.toNat + 1 by omega]
  exact bytes_ext (by unfold bytesOf; rw [this])
theorem place_is (c : Int) (h : isPad c = true) : impl_place.f c = some (plN c) := by
  have key : ∀ n : Fin 12, impl_place.f (padC (n.val : Int)) = some (n.val : Int) := by decide +kernel
  have hp := plN_range h
  have := key ⟨(plN c).toNat, by omega⟩
  rwa [show (((plN c).toNat : Nat) : Int) = plN c by omega, padC_plN h] at this
theorem thPlace_ev (c : Int) (h : 0 ≤ c ∧ c ≤ 255) : Ev (fun k => spec_thPlace.f k c) (if isPad c = true then plN c else -1) := by
  have key : ∀ n : Fin 256, spec_thPlace.f 14 (n.val : Int) = some (if isPad (n.val : Int) = true then plN (n.val : Int) else -1) := by decide +kernel
  have := key ⟨c.toNat, by omega⟩
  rw [show ((c.toNat : Nat) : Int) = c by omega] at this
  exact Ev.of (spec_thPlace.mono c) this
theorem thPlace_pad (c : Int) (h : isPad c = true) : Ev (fun k => spec_thPlace.f k c) (plN c) := by
  have h2 := isPad_iff.1 h
  have := thPlace_ev c ⟨by omega, by omega⟩
  rwa [if_pos h] at this
def dialB (s : ByteArray) : Bool := decide (s.size ≤ 30) && (bytesOf s).all isPad
theorem dialB_iff {s : ByteArray} : dialB s = true ↔ s.size ≤ 30 ∧ ∀ c ∈ bytesOf s, isPad c = true := by
  unfold dialB
  simp [List.all_eq_true]
def oneB (s : ByteArray) : Bool := decide (s.size = 1) && dialB s
theorem oneB_iff {s : ByteArray} : oneB s = true ↔ s.size = 1 ∧ isPad (bt s 0) = true := by
  unfold oneB
  rw [Bool.and_eq_true, decide_eq_true_eq, dialB_iff]
  constructor
  · rintro ⟨h1, _, h2⟩
    exact ⟨h1, h2 _ (bt_mem s 0 (by omega))⟩
  · rintro ⟨h1, h2⟩
    refine ⟨h1, by omega, fun c hc => ?_⟩
    have := drop_bytes s 0 (by omega)
    rw [List.drop_zero, show (0 : Nat) + 1 = s.size by omega, drop_end] at this
    rw [this, List.mem_singleton] at hc
    rw [hc]
    exact h2
theorem isDialed_is (s : ByteArray) (hs : s.size ≤ 140737488351232) : impl_IsDialed.f s = some (dialB s) := by
  unfold impl_IsDialed.f dialB
  by_cases h : s.size ≤ 30
  · rw [if_pos (by omega)]
    unfold impl_over.f strings_Trim.f
    rw [if_pos (by omega), if_pos (by decide), if_pos (by decide), bsome, bsome, decide_eq_true h, Bool.true_and, ← bytes_all pad_contains]
    congr 1
    rw [Bool.eq_iff_iff, beq_iff_eq, Lib.toList_data, ← trimS_nil]
  · rw [if_neg (by omega), decide_eq_false h]
    rfl
theorem thGood_l0 (s : ByteArray) (hs : s.size ≤ 1000000) : ∀ (d i : Nat), i + d = s.size → Ev (fun k => spec_thGood.l0 k s i) (((bytesOf s).drop i).all isPad)
  | 0, i, h => by
    obtain rfl : i = s.size := by omega
    rw [drop_end]
    refine ev_from 0 fun k _ => ?_
    simp only [spec_thGood.l0]
    rw [if_neg (by omega)]
    rfl
  | d + 1, i, h => by
    obtain ⟨K, ih⟩ := thGood_l0 s hs d (i + 1) (by omega)
    obtain ⟨K0, h0⟩ := thPlace_ev (bt s i) (bytes_range s _ (bt_mem s i (by omega)))
    rw [drop_bytes s i (by omega), List.all_cons]
    refine ev_from (K0 + K) fun k hk => ?_
    have e := ih k (by omega)
    have e0 := h0 k (by omega)
    rw [show ((i + 1 : Nat) : Int) = (i : Int) + 1 from rfl] at e
    dsimp only at e e0
    simp only [spec_thGood.l0]
    rw [if_pos (by omega), if_pos (by omega), e0, bsome, wr (by omega) (by omega), e]
    cases hp : isPad (bt s i) with
    | false =>
      rw [show (if false = true then plN (bt s i) else (-1 : Int)) = -1 from rfl, if_pos (by omega)]; rfl
    | true =>
      have := plN_range hp
      rw [show (if true = true then plN (bt s i) else (-1 : Int)) = plN (bt s i) from rfl, if_neg (by omega)]; rfl
theorem thGood_ev (s : ByteArray) : Ev (fun k => spec_thGood.f k s) (dialB s) := by
  unfold dialB
  by_cases h : s.size ≤ 30
  · obtain ⟨K, e⟩ := thGood_l0 s (by omega) s.size 0 (by omega)
    refine ⟨K, fun k hk => ?_⟩
    have e := e k hk
    dsimp only at e ⊢
    unfold spec_thGood.f
    rw [if_neg (by omega), decide_eq_true h, Bool.true_and]
    exact e
  · refine ⟨0, fun k _ => ?_⟩
    dsimp only
    unfold spec_thGood.f
    rw [if_pos (by omega), decide_eq_false h]
    rfl
def placesN (s : ByteArray) : List Int := (bytesOf s).map plN
theorem placesN_length (s : ByteArray) : (placesN s).length = s.size := by rw [placesN, List.length_map, bytesOf_length]
theorem placesN_range {s : ByteArray} (h : dialB s = true) : ∀ p ∈ placesN s, 0 ≤ p ∧ p ≤ 11 := by
  intro p hp
  obtain ⟨c, hc, rfl⟩ := List.mem_map.1 hp
  exact plN_range ((dialB_iff.1 h).2 c hc)
def distN (a b : Int) (corners : Bool) : Int :=
  let x := if a % 3 < b % 3 then b % 3 - a % 3 else a % 3 - b % 3
  let y := if a / 3 < b / 3 then b / 3 - a / 3 else a / 3 - b / 3
  if corners then (if x < y then y else x) else x + y
theorem distN_range {a b : Int} (ha : 0 ≤ a ∧ a ≤ 11) (hb : 0 ≤ b ∧ b ≤ 11) (c : Bool) : 0 ≤ distN a b c ∧ distN a b c ≤ 5 := by
  have key : ∀ m n : Fin 12, ∀ c : Bool, 0 ≤ distN (m.val : Int) (n.val : Int) c ∧ distN (m.val : Int) (n.val : Int) c ≤ 5 := by decide +kernel
  have := key ⟨a.toNat, by omega⟩ ⟨b.toNat, by omega⟩ c
  rwa [show ((a.toNat : Nat) : Int) = a by omega, show ((b.toNat : Nat) : Int) = b by omega] at this
theorem distance_is {a b : Int} (ha : 0 ≤ a ∧ a ≤ 11) (hb : 0 ≤ b ∧ b ≤ 11) (c : Bool) : impl_distance.f a b c = some (distN a b c) := by
  have key : ∀ m n : Fin 12, ∀ c : Bool, impl_distance.f (m.val : Int) (n.val : Int) c = some (distN (m.val : Int) (n.val : Int) c) := by decide +kernel
  have := key ⟨a.toNat, by omega⟩ ⟨b.toNat, by omega⟩ c
  rwa [show ((a.toNat : Nat) : Int) = a by omega, show ((b.toNat : Nat) : Int) = b by omega] at this
theorem thFar_ev {a b : Int} (ha : isPad a = true) (hb : isPad b = true) (c : Bool) : Ev (fun k => spec_thFar.f k a b c) (distN (plN a) (plN b) c) := by
  have key : ∀ m n : Fin 12, ∀ c : Bool, spec_thFar.f 14 (padC (m.val : Int)) (padC (n.val : Int)) c = some (distN (m.val : Int) (n.val : Int) c) := by decide +kernel
  have pa := plN_range ha
  have pb := plN_range hb
  have := key ⟨(plN a).toNat, by omega⟩ ⟨(plN b).toNat, by omega⟩ c
  rw [show (((plN a).toNat : Nat) : Int) = plN a by omega, show (((plN b).toNat : Nat) : Int) = plN b by omega, padC_plN ha, padC_plN hb] at this
  exact Ev.of (spec_thFar.mono a b c) this
theorem places_l0 (s : ByteArray) (h : dialB s = true) : ∀ (d i : Nat) (A : List Int), i + d = s.size → A.length ≤ i → Ev (fun k => impl_places.l0 k s A s.size i) (A ++ ((bytesOf s).drop i).map plN)
  | 0, i, A, hi, hA => by
    obtain rfl : i = s.size := by omega
    rw [drop_end]
    refine ev_from 0 fun k _ => ?_
    simp only [impl_places.l0]
    rw [if_neg (by omega)]
    simp
  | d + 1, i, A, hi, hA => by
    have hs := (dialB_iff.1 h).1
    have hp := (dialB_iff.1 h).2 _ (bt_mem s i (by omega))
    obtain ⟨K, ih⟩ := places_l0 s h d (i + 1) (A ++ [plN (bt s i)]) (by omega) (by simp; omega)
    rw [drop_bytes s i (by omega)]
    refine ev_from K fun k hk => ?_
    have e := ih k (by omega)
    rw [show ((i + 1 : Nat) : Int) = (i : Int) + 1 from rfl] at e
    dsimp only at e
    simp only [impl_places.l0]
    rw [if_pos (by omega), if_pos (by omega), if_pos (by omega), place_is _ hp, bsome, if_pos (by omega), wr (by omega) (by omega), e]
    simp
theorem places_ev (s : ByteArray) (h : dialB s = true) : Ev (fun k => impl_places.f k s) (placesN s) := by
  obtain ⟨K, e⟩ := places_l0 s h s.size 0 [] (by omega) (by simp)
  exact ⟨K, fun k hk => by have e := e k hk; dsimp only at e; unfold impl_places.f placesN; simpa using e⟩
theorem drop_rd (L : List Int) (i : Nat) (h : i < L.length) : L.drop i = rd L i :: L.drop (i + 1) := by
  rw [List.drop_eq_getElem_cons h, rd, Int.toNat_natCast, List.getD_eq_getElem?_getD, List.getElem?_eq_getElem h]
  rfl
theorem rd_mem (L : List Int) (i : Nat) (h : i < L.length) : rd L i ∈ L := by
  have : rd L i ∈ L.drop i := by rw [drop_rd L i h]; exact List.mem_cons_self
  exact List.mem_of_mem_drop this
theorem drop_places (s : ByteArray) (i : Nat) (h : i < s.size) : (placesN s).drop i = plN (bt s i) :: (placesN s).drop (i + 1) := by
  unfold placesN
  rw [← List.map_drop, drop_bytes s i h, List.map_cons, List.map_drop]
def walkN : List Int → Int → Bool → Int
  | [], _, _ => 0
  | q :: L, p, c => distN p q c + walkN L q c
theorem walkS_l0 (s : ByteArray) (h : dialB s = true) (c : Bool) : ∀ (d i : Nat) (p a : Int), i + d = s.size → isPad p = true → 0 ≤ a → a ≤ 5 * i → Ev (fun k => spec_thWalk.l0 k s p c a i) (a + walkN ((placesN s).drop i) (plN p) c)
  | 0, i, p, a, hi, hp, h0, h1 => by
    obtain rfl : i = s.size := by omega
    rw [← placesN_length s, List.drop_length]
    refine ev_from 0 fun k _ => ?_
    simp only [spec_thWalk.l0]
    rw [placesN_length, if_neg (by omega)]
    simp [walkN]
  | d + 1, i, p, a, hi, hp, h0, h1 => by
    have hs := (dialB_iff.1 h).1
    have hq := (dialB_iff.1 h).2 _ (bt_mem s i (by omega))
    have hd := distN_range (plN_range hp) (plN_range hq) c
    obtain ⟨K0, e0⟩ := thFar_ev hp hq c
    obtain ⟨K, ih⟩ := walkS_l0 s h c d (i + 1) (bt s i) (a + distN (plN p) (plN (bt s i)) c) (by omega) hq (by omega) (by omega)
    rw [drop_places s i (by omega)]
    refine ev_from (K0 + K) fun k hk => ?_
    have e := ih k (by omega)
    have e0 := e0 k (by omega)
    rw [show ((i + 1 : Nat) : Int) = (i : Int) + 1 from rfl] at e
    dsimp only at e e0
    simp only [spec_thWalk.l0]
    rw [if_pos (by omega), if_pos (by omega), e0, bsome, wr (by omega) (by omega), wr (by omega) (by omega), e, walkN, Int.add_assoc]
theorem walkI_l0 (L : List Int) (hl : L.length ≤ 1000) (hL : ∀ p ∈ L, 0 ≤ p ∧ p ≤ 11) (c : Bool) : ∀ (d i : Nat) (p a : Int), i + d = L.length → (0 ≤ p ∧ p ≤ 11) → 0 ≤ a → a ≤ 5 * i → Ev (fun k => impl_oneThumb.l0 k p c a L L.length i) (a + walkN (L.drop i) p c)
  | 0, i, p, a, hi, hp, h0, h1 => by
    obtain rfl : i = L.length := by omega
    rw [List.drop_length]
    refine ev_from 0 fun k _ => ?_
    simp only [impl_oneThumb.l0]
    rw [if_neg (by omega)]
    simp [walkN]
  | d + 1, i, p, a, hi, hp, h0, h1 => by
    have hq := hL _ (rd_mem L i (by omega))
    have hd := distN_range hp hq c
    obtain ⟨K, ih⟩ := walkI_l0 L hl hL c d (i + 1) (rd L i) (a + distN p (rd L i) c) (by omega) hq (by omega) (by omega)
    rw [drop_rd L i (by omega)]
    refine ev_from K fun k hk => ?_
    have e := ih k (by omega)
    rw [show ((i + 1 : Nat) : Int) = (i : Int) + 1 from rfl] at e
    dsimp only at e
    simp only [impl_oneThumb.l0]
    rw [if_pos (by omega), if_pos (by omega), if_pos (by omega), distance_is hp hq, bsome, wr (by omega) (by omega), wr (by omega) (by omega), e, walkN, Int.add_assoc]
theorem walkS_ev (s : ByteArray) (h : dialB s = true) (c : Bool) (p : Int) (hp : isPad p = true) : Ev (fun k => spec_thWalk.f k s p c) (walkN (placesN s) (plN p) c) := by
  obtain ⟨K, e⟩ := walkS_l0 s h c s.size 0 p 0 (by omega) hp (by omega) (by omega)
  exact ⟨K, fun k hk => by have e := e k hk; dsimp only at e; unfold spec_thWalk.f; simpa using e⟩
theorem walkI_ev (L : List Int) (hl : L.length ≤ 1000) (hL : ∀ p ∈ L, 0 ≤ p ∧ p ≤ 11) (c : Bool) (p : Int) (hp : 0 ≤ p ∧ p ≤ 11) : Ev (fun k => impl_oneThumb.f k L p c) (walkN L p c) := by
  obtain ⟨K, e⟩ := walkI_l0 L hl hL c L.length 0 p 0 (by omega) hp (by omega) (by omega)
  exact ⟨K, fun k hk => by have e := e k hk; dsimp only at e; unfold impl_oneThumb.f; simpa using e⟩
def walkT (s : ByteArray) (c : Bool) (i : Nat) : Int := walkN (placesN s) (i : Int) c
theorem walkN_pos (c : Bool) : ∀ (L : List Int) (p : Int), (∀ q ∈ L, 0 ≤ q ∧ q ≤ 11) → (0 ≤ p ∧ p ≤ 11) → 0 ≤ walkN L p c
  | [], _, _, _ => Int.le_refl _
  | q :: L, p, h, hp => by
    have hq := h q List.mem_cons_self
    have h1 := (distN_range hp hq c).1
    have h2 := walkN_pos c L q (fun x hx => h x (List.mem_cons_of_mem q hx)) hq
    rw [walkN]
    omega
def bestN (W : Nat → Int) : Nat → Nat
  | 0 => 0
  | i + 1 => if W i < W (bestN W i) then i else bestN W i
theorem bestN_lt (W : Nat → Int) : ∀ i, i ≤ 12 → bestN W i < 12
  | 0, _ => by show (0 : Nat) < 12; omega
  | i + 1, h => by
    rw [bestN]
    split
    · omega
    · exact bestN_lt W i (by omega)
theorem bsI_l0 (s : ByteArray) (h : dialB s = true) (c : Bool) : ∀ (d i : Nat), i + 1 + d = 12 → Ev (fun k => impl_BestStart.l0 k s c (bestN (walkT s c) (i + 1)) (walkT s c (bestN (walkT s c) (i + 1))) ((i + 1 : Nat) : Int)) (strOfNums [padC (bestN (walkT s c) 12 : Int)], walkT s c (bestN (walkT s c) 12), true)
  | 0, i, hi => by
    obtain rfl : i = 11 := by omega
    have hb := bestN_lt (walkT s c) 12 (Nat.le_refl _)
    rw [show (11 : Nat) + 1 = 12 from rfl]
    have hcut := pad_cut (p := (bestN (walkT s c) 12 : Int)) (by omega)
    refine ev_from 0 fun k _ => ?_
    simp only [impl_BestStart.l0]
    rw [if_neg (by omega), if_pos (by omega), wr (x := (bestN (walkT s c) 12 : Int) + 1) (by omega) (by omega), if_pos (by omega), if_pos (by omega), hcut]
  | d + 1, i, hi => by
    have hr := placesN_range h
    have hsz := (dialB_iff.1 h).1
    obtain ⟨K1, e1⟩ := places_ev s h
    obtain ⟨K2, e2⟩ : Ev (fun k => impl_oneThumb.f k (placesN s) ((i + 1 : Nat) : Int) c) (walkT s c (i + 1)) := walkI_ev (placesN s) (by rw [placesN_length]; omega) hr c ((i + 1 : Nat) : Int) (by omega)
    obtain ⟨K3, e3⟩ := bsI_l0 s h c d (i + 1) (by omega)
    have hb := bestN_lt (walkT s c) (i + 1) (by omega)
    have hpos : 0 ≤ walkT s c (bestN (walkT s c) (i + 1)) := walkN_pos c _ _ hr (by omega)
    refine ev_from (K1 + K2 + K3) fun k hk => ?_
    have e1 := e1 k (by omega)
    have e2 := e2 k (by omega)
    have e3 := e3 k (by omega)
    rw [bestN] at e3
    dsimp only at e1 e2 e3
    simp only [impl_BestStart.l0]
    rw [if_pos (by omega), e1, bsome, e2, bsome, if_neg (by omega), wr (x := ((i + 1 : Nat) : Int) + 1) (by omega) (by omega)]
    by_cases hd : walkT s c (i + 1) < walkT s c (bestN (walkT s c) (i + 1))
    · rw [if_pos hd] at e3
      rw [if_pos hd]
      exact e3
    · rw [if_neg hd] at e3
      rw [if_neg hd]
      exact e3
def bsT (s : ByteArray) (c : Bool) : ByteArray × Int × Bool := if dialB s = true then (strOfNums [padC (bestN (walkT s c) 12 : Int)], walkT s c (bestN (walkT s c) 12), true) else ((⟨#[]⟩ : ByteArray), 0, false)
theorem bsI_f (s : ByteArray) (hs : s.size ≤ 140737488351232) (c : Bool) : Ev (fun k => impl_BestStart.f k s c) (bsT s c) := by
  have e0 := isDialed_is s hs
  unfold bsT
  cases ho : dialB s with
  | false =>
    rw [ho] at e0
    exact ⟨0, fun k _ => by dsimp only; unfold impl_BestStart.f; rw [e0, bsome, if_neg (by simp), if_neg (by simp)]⟩
  | true =>
    rw [ho] at e0
    have hr := placesN_range ho
    have hsz := (dialB_iff.1 ho).1
    obtain ⟨K1, e1⟩ := places_ev s ho
    obtain ⟨K2, e2⟩ := walkI_ev (placesN s) (by rw [placesN_length]; omega) hr c ((0 : Nat) : Int) (by omega)
    obtain ⟨K3, e3⟩ := bsI_l0 s ho c 11 0 (by omega)
    have h1 : bestN (walkT s c) (0 + 1) = 0 := by rw [bestN, bestN, if_neg (by omega)]
    refine ⟨K1 + K2 + K3 + 1, fun k hk => ?_⟩
    obtain ⟨k, rfl⟩ : ∃ m, k = m + 1 := ⟨k - 1, by omega⟩
    have e1 := e1 k (by omega)
    have e2 := e2 k (by omega)
    have e3 := e3 k (by omega)
    rw [h1] at e3
    dsimp only at e1 e2 e3 ⊢
    unfold impl_BestStart.f
    rw [e0, bsome, if_pos rfl, if_pos rfl]
    simp only [impl_BestStart.l0]
    rw [if_pos (by omega), e1, bsome, show (0 : Int) = ((0 : Nat) : Int) from rfl, e2, bsome, if_pos (by decide), wr (by omega) (by omega)]
    exact e3
end Go.Proofs.YtldnddehmpbbpaaGreatDoor.Pb
end

section
namespace Go.Proofs.YtldnddehmpbbpaaGreatDoor.Pu
open Go.RowKit Go.Proofs.YtldnddehmpbbpaaGreatDoor.P Go.Proofs.YtldnddehmpbbpaaGreatDoorW.PrintWords Go.Proofs.YtldnddehmpbbpaaGreatDoorW.PrintLast Go.Proofs.YtldnddehmpbbpaaGreatDoorW.PrintMore
theorem pm_dial (s : ByteArray) : Pm.dialB s = dialB s := rfl
theorem pm_one (s : ByteArray) : Pm.oneB s = oneB s := rfl
theorem pm_places (s : ByteArray) : Pm.placesN s = placesN s := rfl
theorem pb_dial (s : ByteArray) : Pb.dialB s = dialB s := rfl
theorem pb_walk (c : Bool) : ∀ (L : List Int) (p : Int), Pb.walkN L p c = walkN L p c
  | [], _ => rfl
  | q :: L, p => by rw [Pb.walkN, walkN, pb_walk c L q]; rfl
theorem mov_right (R A : List Int) : ∀ (d : Nat) (x y : Int), 0 ≤ x → x + d ≤ 2 → (0 ≤ y ∧ y ≤ 3) → movN (List.replicate d 114 ++ R) x y A = movN R (x + d) y A
  | 0, x, y, h0, h1, hy => by simp
  | d + 1, x, y, h0, h1, hy => by
    rw [List.replicate_succ, List.cons_append, movN, if_neg (by decide), if_pos rfl, if_pos (okXY_iff.2 (by omega)), mov_right R A d (x + 1) y (by omega) (by omega) hy]
    congr 1
    omega
theorem mov_left (R A : List Int) : ∀ (d : Nat) (x y : Int), x ≤ 2 → 0 ≤ x - d → (0 ≤ y ∧ y ≤ 3) → movN (List.replicate d 108 ++ R) x y A = movN R (x - d) y A
  | 0, x, y, h0, h1, hy => by simp
  | d + 1, x, y, h0, h1, hy => by
    rw [List.replicate_succ, List.cons_append, movN, if_pos rfl, if_pos (okXY_iff.2 (by omega)), mov_left R A d (x - 1) y (by omega) (by omega) hy]
    congr 1
    omega
theorem mov_down (R A : List Int) : ∀ (d : Nat) (x y : Int), (0 ≤ x ∧ x ≤ 2) → 0 ≤ y → y + d ≤ 3 → movN (List.replicate d 100 ++ R) x y A = movN R x (y + d) A
  | 0, x, y, hx, h0, h1 => by simp
  | d + 1, x, y, hx, h0, h1 => by
    rw [List.replicate_succ, List.cons_append, movN, if_neg (by decide), if_neg (by decide), if_neg (by decide), if_pos rfl, if_pos (okXY_iff.2 (by omega)), mov_down R A d x (y + 1) hx (by omega) (by omega)]
    congr 1
    omega
theorem mov_up (R A : List Int) : ∀ (d : Nat) (x y : Int), (0 ≤ x ∧ x ≤ 2) → y ≤ 3 → 0 ≤ y - d → movN (List.replicate d 117 ++ R) x y A = movN R x (y - d) A
  | 0, x, y, hx, h0, h1 => by simp
  | d + 1, x, y, hx, h0, h1 => by
    rw [List.replicate_succ, List.cons_append, movN, if_neg (by decide), if_neg (by decide), if_pos rfl, if_pos (okXY_iff.2 (by omega)), mov_up R A d x (y - 1) hx (by omega) (by omega)]
    congr 1
    omega
theorem mov_hor (R A : List Int) {x y n : Int} (hx : 0 ≤ x ∧ x ≤ 2) (hn : 0 ≤ x + n ∧ x + n ≤ 2) (hy : 0 ≤ y ∧ y ≤ 3) : movN (Pm.horN n ++ R) x y A = movN R (x + n) y A := by
  unfold Pm.horN
  split
  · rw [mov_left R A _ x y hx.2 (by omega) hy]
    congr 1
    omega
  · rw [mov_right R A _ x y hx.1 (by omega) hy]
    congr 1
    omega
theorem mov_ver (R A : List Int) {x y n : Int} (hx : 0 ≤ x ∧ x ≤ 2) (hy : 0 ≤ y ∧ y ≤ 3) (hn : 0 ≤ y + n ∧ y + n ≤ 3) : movN (Pm.verN n ++ R) x y A = movN R x (y + n) A := by
  unfold Pm.verN
  split
  · rw [mov_up R A _ x y hx hy.2 (by omega)]
    congr 1
    omega
  · rw [mov_down R A _ x y hx hy.1 (by omega)]
    congr 1
    omega
theorem mov_seg (R A : List Int) {p q : Int} (hp : 0 ≤ p ∧ p ≤ 11) (hq : 0 ≤ q ∧ q ≤ 11) : movN (Pm.segN p q ++ R) (p % 3) (p / 3) A = movN R (q % 3) (q / 3) (A ++ [padC q]) := by
  unfold Pm.segN
  rw [List.append_assoc, List.append_assoc, mov_hor _ _ (by omega) (by omega) (by omega), mov_ver _ _ (by omega) (by omega) (by omega)]
  rw [show p % 3 + (q % 3 - p % 3) = q % 3 by omega, show p / 3 + (q / 3 - p / 3) = q / 3 by omega]
  rw [List.singleton_append, movN, if_neg (by decide), if_neg (by decide), if_neg (by decide), if_neg (by decide), if_pos rfl, if_pos (okXY_iff.2 (by omega)), show 3 * (q / 3) + q % 3 = q by omega]
theorem mov_all : ∀ (L : List Int) (p : Int) (A : List Int), (∀ q ∈ L, 0 ≤ q ∧ q ≤ 11) → (0 ≤ p ∧ p ≤ 11) → movN (Pm.movesN L p) (p % 3) (p / 3) A = some (A ++ L.map padC)
  | [], p, A, _, _ => by simp [Pm.movesN, movN]
  | q :: L, p, A, h, hp => by
    have hq := h q (by simp)
    rw [Pm.movesN, mov_seg _ _ hp hq, mov_all L q _ (fun x hx => h x (by simp [hx])) hq]
    simp
theorem seg_length {p q : Int} (hp : 0 ≤ p ∧ p ≤ 11) (hq : 0 ≤ q ∧ q ≤ 11) : ((Pm.segN p q).length : Int) = distN p q false + 1 := by
  have key : ∀ m n : Fin 12, ((Pm.segN (m.val : Int) (n.val : Int)).length : Int) = distN (m.val : Int) (n.val : Int) false + 1 := by decide +kernel
  have := key ⟨p.toNat, by omega⟩ ⟨q.toNat, by omega⟩
  rwa [show ((p.toNat : Nat) : Int) = p by omega, show ((q.toNat : Nat) : Int) = q by omega] at this
theorem moves_length : ∀ (L : List Int) (p : Int), (∀ q ∈ L, 0 ≤ q ∧ q ≤ 11) → (0 ≤ p ∧ p ≤ 11) → ((Pm.movesN L p).length : Int) = walkN L p false + (L.length : Int)
  | [], p, _, _ => by simp [Pm.movesN, walkN]
  | q :: L, p, h, hp => by
    have hq := h q (by simp)
    have h1 := moves_length L q (fun x hx => h x (by simp [hx])) hq
    have h2 := seg_length hp hq
    rw [Pm.movesN, List.length_append, walkN, List.length_cons]
    omega
theorem seg_bytes {p q : Int} (hp : 0 ≤ p ∧ p ≤ 11) (hq : 0 ≤ q ∧ q ≤ 11) : ∀ c ∈ Pm.segN p q, 0 ≤ c ∧ c ≤ 255 := by
  have key : ∀ m n : Fin 12, ((Pm.segN (m.val : Int) (n.val : Int)).all fun c => decide (0 ≤ c ∧ c ≤ 255)) = true := by decide +kernel
  have := key ⟨p.toNat, by omega⟩ ⟨q.toNat, by omega⟩
  rw [show ((p.toNat : Nat) : Int) = p by omega, show ((q.toNat : Nat) : Int) = q by omega] at this
  exact fun c hc => of_decide_eq_true (List.all_eq_true.1 this c hc)
theorem moves_bytes : ∀ (L : List Int) (p : Int), (∀ q ∈ L, 0 ≤ q ∧ q ≤ 11) → (0 ≤ p ∧ p ≤ 11) → ∀ c ∈ Pm.movesN L p, 0 ≤ c ∧ c ≤ 255
  | [], p, _, _, c, hc => by simp [Pm.movesN] at hc
  | q :: L, p, h, hp, c, hc => by
    have hq := h q (by simp)
    rw [Pm.movesN] at hc
    rcases List.mem_append.1 hc with hc | hc
    · exact seg_bytes hp hq c hc
    · exact moves_bytes L q (fun x hx => h x (by simp [hx])) hq c hc
theorem dist_three {a b c : Int} (ha : 0 ≤ a ∧ a ≤ 11) (hb : 0 ≤ b ∧ b ≤ 11) (hc : 0 ≤ c ∧ c ≤ 11) : distN a c false ≤ distN a b false + distN b c false := by
  have key : ∀ m n o : Fin 12, distN (m.val : Int) (o.val : Int) false ≤ distN (m.val : Int) (n.val : Int) false + distN (n.val : Int) (o.val : Int) false := by decide +kernel
  have := key ⟨a.toNat, by omega⟩ ⟨b.toNat, by omega⟩ ⟨c.toNat, by omega⟩
  rwa [show ((a.toNat : Nat) : Int) = a by omega, show ((b.toNat : Nat) : Int) = b by omega, show ((c.toNat : Nat) : Int) = c by omega] at this
theorem dist_self {a : Int} (ha : 0 ≤ a ∧ a ≤ 11) : distN a a false = 0 := by
  have key : ∀ m : Fin 12, distN (m.val : Int) (m.val : Int) false = 0 := by decide +kernel
  have := key ⟨a.toNat, by omega⟩
  rwa [show ((a.toNat : Nat) : Int) = a by omega] at this
theorem dist_step {x y x' y' : Int} (h : okXY x y = true) (h' : okXY x' y' = true) (e : (y' = y ∧ (x' = x - 1 ∨ x' = x + 1)) ∨ (x' = x ∧ (y' = y - 1 ∨ y' = y + 1))) : distN (3 * y + x) (3 * y' + x') false = 1 := by
  have h := okXY_iff.1 h
  have h' := okXY_iff.1 h'
  have key : ∀ (m n : Fin 3) (o u : Fin 4), ((o.val = u.val ∧ (m.val = n.val + 1 ∨ n.val = m.val + 1)) ∨ (m.val = n.val ∧ (o.val = u.val + 1 ∨ u.val = o.val + 1))) → distN (3 * (o.val : Int) + (m.val : Int)) (3 * (u.val : Int) + (n.val : Int)) false = 1 := by decide +kernel
  have := key ⟨x.toNat, by omega⟩ ⟨x'.toNat, by omega⟩ ⟨y.toNat, by omega⟩ ⟨y'.toNat, by omega⟩ (by dsimp only; omega)
  rwa [show ((x.toNat : Nat) : Int) = x by omega, show ((y.toNat : Nat) : Int) = y by omega, show ((x'.toNat : Nat) : Int) = x' by omega, show ((y'.toNat : Nat) : Int) = y' by omega] at this
theorem walk_near (Q : List Int) {p p' : Int} (hp : 0 ≤ p ∧ p ≤ 11) (hp' : 0 ≤ p' ∧ p' ≤ 11) (hQ : ∀ q ∈ Q, 0 ≤ q ∧ q ≤ 11) : walkN Q p false ≤ distN p p' false + walkN Q p' false := by
  cases Q with
  | nil =>
    have := (distN_range hp hp' false).1
    simp only [walkN]
    omega
  | cons q L =>
    have := dist_three hp hp' (hQ q (by simp))
    simp only [walkN]
    omega
theorem mov_back : ∀ (M : List Int) (x y : Int) (A B : List Int), okXY x y = true → movN M x y A = some B → ∃ Q, B = A ++ Q.map padC ∧ (∀ q ∈ Q, 0 ≤ q ∧ q ≤ 11) ∧ walkN Q (3 * y + x) false + (Q.length : Int) ≤ (M.length : Int)
  | [], x, y, A, B, h, e => ⟨[], by simpa [movN] using e.symm, by simp, by simp [walkN]⟩
  | c :: M, x, y, A, B, h, e => by
    have hxy := okXY_iff.1 h
    have step : ∀ (x' y' : Int), okXY x' y' = true → ((y' = y ∧ (x' = x - 1 ∨ x' = x + 1)) ∨ (x' = x ∧ (y' = y - 1 ∨ y' = y + 1))) → movN M x' y' A = some B → ∃ Q, B = A ++ Q.map padC ∧ (∀ q ∈ Q, 0 ≤ q ∧ q ≤ 11) ∧ walkN Q (3 * y + x) false + (Q.length : Int) ≤ ((c :: M).length : Int) := by
      intro x' y' h' hs e
      obtain ⟨Q, h1, h2, h3⟩ := mov_back M x' y' A B h' e
      refine ⟨Q, h1, h2, ?_⟩
      have hxy' := okXY_iff.1 h'
      have h4 := walk_near Q (p := 3 * y + x) (p' := 3 * y' + x') (by omega) (by omega) h2
      have h5 := dist_step h h' hs
      rw [List.length_cons]
      omega
    rw [movN] at e
    split at e
    · split at e
      · exact step (x - 1) y (by assumption) (by omega) e
      · cases e
    · split at e
      · split at e
        · exact step (x + 1) y (by assumption) (by omega) e
        · cases e
      · split at e
        · split at e
          · exact step x (y - 1) (by assumption) (by omega) e
          · cases e
        · split at e
          · split at e
            · exact step x (y + 1) (by assumption) (by omega) e
            · cases e
          · split at e
            · obtain ⟨Q, h1, h2, h3⟩ := mov_back M x y _ B h e
              refine ⟨(3 * y + x) :: Q, by rw [h1]; simp, ?_, ?_⟩
              · intro q hq
                rcases List.mem_cons.1 hq with rfl | hq
                · omega
                · exact h2 q hq
              · rw [walkN, dist_self (by omega), List.length_cons, List.length_cons]
                omega
            · cases e
theorem places_back {s : ByteArray} (h : dialB s = true) : (placesN s).map padC = bytesOf s := by
  have h2 := (dialB_iff.1 h).2
  unfold placesN
  rw [List.map_map]
  conv => rhs; rw [← List.map_id (bytesOf s)]
  exact List.map_congr_left fun c hc => padC_plN (h2 c hc)
theorem pads_bytes {Q : List Int} (h : ∀ q ∈ Q, 0 ≤ q ∧ q ≤ 11) : ∀ c ∈ Q.map padC, 0 ≤ c ∧ c ≤ 255 := by
  intro c hc
  obtain ⟨q, hq, rfl⟩ := List.mem_map.1 hc
  exact padC_byte q (h q hq).1
theorem dial_pads {Q : List Int} (h : ∀ q ∈ Q, 0 ≤ q ∧ q ≤ 11) (hn : Q.length ≤ 30) : dialB (strOfNums (Q.map padC)) = true := by
  refine dialB_iff.2 ⟨by rw [size_nums]; simpa using hn, ?_⟩
  rw [bytes_nums (pads_bytes h)]
  intro c hc
  obtain ⟨q, hq, rfl⟩ := List.mem_map.1 hc
  exact padC_pad (h q hq)
theorem places_pads {Q : List Int} (h : ∀ q ∈ Q, 0 ≤ q ∧ q ≤ 11) : placesN (strOfNums (Q.map padC)) = Q := by
  unfold placesN
  rw [bytes_nums (pads_bytes h), List.map_map]
  conv => rhs; rw [← List.map_id Q]
  exact List.map_congr_left fun q hq => plN_padC (h q hq)
theorem one_pad {p : Int} (h : 0 ≤ p ∧ p ≤ 11) : oneB (strOfNums [padC p]) = true ∧ plN (bt (strOfNums [padC p]) 0) = p := by
  have hb := padC_byte p h.1
  have e : bt (strOfNums [padC p]) 0 = padC p := by
    rw [bt_bytes, bytes_nums (by simpa using hb)]
    rfl
  exact ⟨oneB_iff.2 ⟨by rw [size_nums]; rfl, by rw [e]; exact padC_pad h⟩, by rw [e]; exact plN_padC h⟩
theorem moves_pressed {s t : ByteArray} {mv : ByteArray} (h : Pm.movT s t = (mv, true)) (hn : mv.size ≤ 200) : keysT t mv = (s, true) ∧ oneT s t false = (walkN (placesN s) (plN (bt t 0)) false, true) ∧ (mv.size : Int) = walkN (placesN s) (plN (bt t 0)) false + (s.size : Int) := by
  unfold Pm.movT at h
  rw [pm_dial, pm_one, pm_places] at h
  split at h
  · rename_i hb
    obtain ⟨hd, ho⟩ := (Bool.and_eq_true _ _).mp hb
    obtain rfl := (Prod.mk.inj h).1.symm
    have hL := placesN_range hd
    have hp := plN_range (oneB_iff.1 ho).2
    have hp' : Pm.plN (bt t 0) = plN (bt t 0) := rfl
    rw [hp'] at hn ⊢
    have hb2 := moves_bytes (placesN s) _ hL hp
    have hm := moves_length (placesN s) _ hL hp
    have h30 := (dialB_iff.1 hd).1
    have hpl := placesN_length s
    refine ⟨?_, ?_, ?_⟩
    · unfold keysT
      rw [ho, decide_eq_false (show ¬ (strOfNums (Pm.movesN (placesN s) (plN (bt t 0)))).size > 200 by omega), if_pos (by rfl), bytes_nums hb2, mov_all _ _ _ hL hp, List.nil_append, places_back hd]
      show (if (bytesOf s).length > 30 then ((⟨#[]⟩ : ByteArray), false) else (strOfNums (bytesOf s), true)) = (s, true)
      rw [if_neg (by rw [bytesOf_length]; omega), nums_bytes]
    · unfold oneT
      rw [if_pos hb]
    · rw [size_nums, hm, hpl]
  · cases h
theorem pressed_moves {s t pr : ByteArray} (h : keysT s t = (pr, true)) : ∃ r, Pm.movT pr s = (r, true) ∧ r.size ≤ t.size := by
  unfold keysT at h
  split at h
  · rename_i hb
    obtain ⟨ho, hn⟩ := (Bool.and_eq_true _ _).mp hb
    have hp := plN_range (oneB_iff.1 ho).2
    cases e : movN (bytesOf t) (plN (bt s 0) % 3) (plN (bt s 0) / 3) [] with
    | none => rw [e] at h; cases h
    | some B =>
      rw [e] at h
      replace h : (if B.length > 30 then ((⟨#[]⟩ : ByteArray), false) else (strOfNums B, true)) = (pr, true) := h
      split at h
      · cases h
      · rename_i h30
        obtain rfl := (Prod.mk.inj h).1.symm
        obtain ⟨Q, h1, h2, h3⟩ := mov_back _ _ _ _ _ (okXY_iff.2 (by omega)) e
        rw [List.nil_append] at h1
        subst h1
        rw [List.length_map] at h30
        have hd := dial_pads h2 (by omega)
        have hq := places_pads h2
        have hm := moves_length Q _ h2 hp
        rw [show 3 * (plN (bt s 0) / 3) + plN (bt s 0) % 3 = plN (bt s 0) by omega, bytesOf_length] at h3
        refine ⟨strOfNums (Pm.movesN Q (plN (bt s 0))), ?_, by rw [size_nums]; omega⟩
        unfold Pm.movT
        rw [pm_dial, pm_one, pm_places, hd, ho, if_pos (by rfl), hq]
        rfl
  · cases h
theorem bestN_le (W : Nat → Int) : ∀ i j, j < i → W (Pb.bestN W i) ≤ W j
  | 0, j, h => by omega
  | i + 1, j, h => by
    rw [Pb.bestN]
    split
    · rename_i hlt
      by_cases e : j = i
      · rw [e]; exact Int.le_refl _
      · have := bestN_le W i j (by omega)
        omega
    · rename_i hlt
      by_cases e : j = i
      · rw [e]; omega
      · exact bestN_le W i j (by omega)
theorem best_start {s : ByteArray} (h : dialB s = true) (c : Bool) {p : Int} (hp : 0 ≤ p ∧ p ≤ 11) : ∃ b n, Pb.bsT s c = (b, n, true) ∧ n ≤ walkN (placesN s) p c ∧ b.size = 1 := by
  unfold Pb.bsT
  rw [pb_dial, if_pos h]
  refine ⟨_, _, rfl, ?_, by rw [size_nums]; rfl⟩
  have := bestN_le (Pb.walkT s c) 12 p.toNat (by omega)
  have e : Pb.walkT s c p.toNat = walkN (placesN s) p c := by
    unfold Pb.walkT
    rw [pb_walk, show ((p.toNat : Nat) : Int) = p by omega]
    rfl
  omega
theorem mir_one {t : ByteArray} (h : oneB t = true) : overT t false = (strOfNums [padC (mirP (plN (bt t 0)))], true) := by
  have h1 := oneB_iff.1 h
  have hd : dialB t = true := by
    unfold oneB at h
    exact ((Bool.and_eq_true _ _).mp h).2
  unfold overT
  rw [if_pos hd]
  have e : placesN t = [plN (bt t 0)] := by
    have := drop_places t 0 (by omega)
    rw [List.drop_zero, List.drop_eq_nil_of_le (by rw [placesN_length]; omega)] at this
    exact this
  rw [e]
  simp
theorem mir_all {s : ByteArray} (h : dialB s = true) : ∃ m, overT s false = (m, true) ∧ dialB m = true ∧ placesN m = (placesN s).map mirP := by
  have hL := placesN_range h
  have hM : ∀ q ∈ (placesN s).map mirP, 0 ≤ q ∧ q ≤ 11 := by
    intro q hq
    obtain ⟨p, hp, rfl⟩ := List.mem_map.1 hq
    exact mirP_range (hL p hp)
  have e : ((placesN s).map fun p => padC (if (false : Bool) = true then turnP p else mirP p)) = ((placesN s).map mirP).map padC := by
    rw [List.map_map]
    rfl
  refine ⟨strOfNums (((placesN s).map mirP).map padC), ?_, dial_pads hM (by rw [List.length_map, placesN_length]; exact (dialB_iff.1 h).1), places_pads hM⟩
  unfold overT
  rw [if_pos h, e]
def twoT (s l r : ByteArray) (c : Bool) : Int × Bool := if bothB s l r = true then ((startN s l r c).1, true) else (0, false)
theorem both_mk {s l r : ByteArray} (hs : dialB s = true) (hl : oneB l = true) (hr : oneB r = true) : bothB s l r = true := by
  unfold bothB
  rw [hs, hl, hr]
  rfl
theorem two_swap {s l r : ByteArray} (h : bothB s l r = true) (c : Bool) : twoT s r l c = ((startN s l r c).1, true) := by
  obtain ⟨hs, hl, hr⟩ := bothB_iff h
  unfold twoT
  rw [if_pos (both_mk hs hr hl)]
  unfold startN
  rw [look_swap]
theorem two_mir {s l r : ByteArray} (h : bothB s l r = true) (c : Bool) : ∃ m a b, overT s false = (m, true) ∧ overT l false = (a, true) ∧ overT r false = (b, true) ∧ twoT m a b c = ((startN s l r c).1, true) ∧ m.size ≤ 30 ∧ a.size ≤ 30 ∧ b.size ≤ 30 := by
  obtain ⟨hs, hl, hr⟩ := bothB_iff h
  obtain ⟨m, e1, h1, h2⟩ := mir_all hs
  have pl := plN_range (oneB_iff.1 hl).2
  have pr := plN_range (oneB_iff.1 hr).2
  obtain ⟨o1, o2⟩ := one_pad (mirP_range pl)
  obtain ⟨o3, o4⟩ := one_pad (mirP_range pr)
  refine ⟨m, _, _, e1, mir_one hl, mir_one hr, ?_, (dialB_iff.1 h1).1, by rw [size_nums]; simp, by rw [size_nums]; simp⟩
  unfold twoT
  rw [if_pos (both_mk h1 o1 o3)]
  unfold startN
  rw [h2, o2, o4, look_mir c _ _ _ (placesN_range hs) pl pr]
theorem two_best {s l r : ByteArray} (h : bothB s l r = true) (c : Bool) : ∃ x y e, bestsT s c = (x, y, e, true) ∧ e ≤ (startN s l r c).1 ∧ twoT s x y c = (e, true) ∧ x.size ≤ 30 ∧ y.size ≤ 30 := by
  obtain ⟨hs, hl, hr⟩ := bothB_iff h
  have pl := plN_range (oneB_iff.1 hl).2
  have pr := plN_range (oneB_iff.1 hr).2
  have hb := bestIx_lt (valN c (placesN s)) 144 0 0 (by omega) (by omega)
  have hle := best_le c (placesN s) pl pr
  unfold bestsT
  rw [if_pos hs]
  unfold cutT
  generalize bestIx (valN c (placesN s)) 144 0 0 = b at *
  obtain ⟨o1, o2⟩ := one_pad (p := ((b / 12 : Nat) : Int)) (by omega)
  obtain ⟨o3, o4⟩ := one_pad (p := ((b % 12 : Nat) : Int)) (by omega)
  refine ⟨_, _, _, rfl, hle, ?_, by rw [size_nums]; simp, by rw [size_nums]; simp⟩
  unfold twoT
  rw [if_pos (both_mk hs o1 o3)]
  unfold startN valN
  rw [o2, o4]
end Go.Proofs.YtldnddehmpbbpaaGreatDoor.Pu
end

section
namespace Go.Proofs.YtldnddehmpbbpaaGreatDoor.Pu
open Go.RowKit Go.Proofs.YtldnddehmpbbpaaGreatDoor.P Go.Proofs.YtldnddehmpbbpaaGreatDoorW.PrintWords Go.Proofs.YtldnddehmpbbpaaGreatDoorW.PrintLast Go.Proofs.YtldnddehmpbbpaaGreatDoorW.PrintMore
theorem fSame_l0 (L : List Int) (hl : L.length ≤ 1000000) : ∀ (d i : Nat), i + d = L.length → Ev (fun k => laws_fSame.l0 k L L L.length i) true
  | 0, i, hi => ev_from 0 fun k _ => by rw [laws_fSame.l0, if_neg (by omega)]
  | d + 1, i, hi => by
    obtain ⟨K, e⟩ := fSame_l0 L hl d (i + 1) (by omega)
    refine ev_from K fun k hk => ?_
    have e := e k hk
    dsimp only at e
    rw [laws_fSame.l0, if_pos (by omega), if_pos (by omega), if_pos (by omega), if_pos (by omega), if_pos rfl, wr (by omega) (by omega)]
    exact e
theorem fSame_ev (L : List Int) (hl : L.length ≤ 1000000) : Ev (fun k => laws_fSame.f k L L) true := by
  obtain ⟨K, e⟩ := fSame_l0 L hl L.length 0 (by omega)
  refine ⟨K, fun k hk => ?_⟩
  have e := e k hk
  dsimp only at e ⊢
  unfold laws_fSame.f
  rw [if_pos rfl]
  exact e
theorem isDialedS_ev (s : ByteArray) : Ev (fun k => spec_IsDialed.f k s) (dialB s) := by
  obtain ⟨K, e⟩ := thGood_ev s
  refine ⟨K, fun k hk => ?_⟩
  have e := e k hk
  dsimp only at e ⊢
  unfold spec_IsDialed.f
  rw [e, bsome]
theorem twoI_evT (s l r : ByteArray) (c : Bool) (hs : s.size ≤ 40) (hl : l.size ≤ 40) (hr : r.size ≤ 40) : Ev (fun k => impl_TwoThumbs.f k s l r c) (twoT s l r c) := twoI_ev s l r c (by omega) (by omega) (by omega)
theorem oneB_size {s : ByteArray} (h : oneB s = true) : s.size = 1 := (oneB_iff.1 h).1
theorem gb_ok {s l r : ByteArray} (h : bothB s l r = true) (c : Bool) : ∃ a2 a3 mi a b x y e, ∃ K, ∀ k, K ≤ k → laws_FnThumbsMove.GB k s l r c (firstN c (placesN s) (plN (bt l 0)) (plN (bt r 0))) (startN s l r c).1 (startN s l r c).2 true a2 a3 mi a b x y e := by
  obtain ⟨hs, hl, hr⟩ := bothB_iff h
  have s1 := (dialB_iff.1 hs).1
  have s2 := oneB_size hl
  have s3 := oneB_size hr
  obtain ⟨mi, a, b, m1, m2, m3, m4, m5, m6, m7⟩ := two_mir h c
  obtain ⟨x, y, e, b1, b2, b3, b4, b5⟩ := two_best h c
  obtain ⟨K1, e1⟩ := planI_ev s l r (firstN c (placesN s) (plN (bt l 0)) (plN (bt r 0))) c (by omega) (by omega) (by omega)
  obtain ⟨K2, e2⟩ := oneThumbI_ev s l c (by omega) (by omega)
  obtain ⟨K3, e3⟩ := oneThumbI_ev s r c (by omega) (by omega)
  obtain ⟨K4, e4⟩ := twoI_evT s r l c (by omega) (by omega) (by omega)
  obtain ⟨K5, e5⟩ := mirrorI_ev s (by omega)
  obtain ⟨K6, e6⟩ := mirrorI_ev l (by omega)
  obtain ⟨K7, e7⟩ := mirrorI_ev r (by omega)
  obtain ⟨K8, e8⟩ := twoI_evT mi a b c (by omega) (by omega) (by omega)
  obtain ⟨K9, e9⟩ := bestsI_ev s c (by omega)
  obtain ⟨K10, e10⟩ := twoI_evT s x y c (by omega) (by omega) (by omega)
  have hfl := firstN_length c (placesN s) (plN (bt l 0)) (plN (bt r 0))
  have hpl := placesN_length s
  have hplan : planT s l r (firstN c (placesN s) (plN (bt l 0)) (plN (bt r 0))) c = ((startN s l r c).1, true) := by
    unfold planT
    rw [h, decide_eq_true (show (firstN c (placesN s) (plN (bt l 0)) (plN (bt r 0))).length = s.size by omega), (allB_iff.2 (firstN_01 c _ _ _)), if_pos (by rfl), plan_first]
    rfl
  have hone : oneT s l c = (walkN (placesN s) (plN (bt l 0)) c, true) := by
    unfold oneT
    rw [hs, hl, if_pos (by rfl)]
  have hone2 : oneT s r c = (walkN (placesN s) (plN (bt r 0)) c, true) := by
    unfold oneT
    rw [hs, hr, if_pos (by rfl)]
  refine ⟨walkN (placesN s) (plN (bt l 0)) c, walkN (placesN s) (plN (bt r 0)) c, mi, a, b, x, y, e, K1 + K2 + K3 + K4 + K5 + K6 + K7 + K8 + K9 + K10, fun k hk => ?_⟩
  exact ⟨(e1 k (by omega)).trans (by rw [hplan]), (e2 k (by omega)).trans (by rw [hone]), (e3 k (by omega)).trans (by rw [hone2]), (e4 k (by omega)).trans (by rw [two_swap h]),
    (e5 k (by omega)).trans (by rw [m1]), (e6 k (by omega)).trans (by rw [m2]), (e7 k (by omega)).trans (by rw [m3]), (e8 k (by omega)).trans (by rw [m4]), (e9 k (by omega)).trans (by rw [b1]), (e10 k (by omega)).trans (by rw [b3]),
    hfl.trans hpl, look_le_walk c _ _ _, look_le_walk2 c _ _ _, b2, fun _ => (startN_small h c).2.1⟩
theorem ga_ok {l0 : List Int} (h : AllBytes l0) : ∃ s l rr c p ok m n okn di, ∃ K, ∀ k, K ≤ k → laws_FnThumbsMove.GA k l0 s l rr c p ok m n okn di := by
  obtain ⟨s, l, r, c, ⟨K1, e1⟩, hs, hl, hr⟩ := drawFirst_ok h
  have s1 := hs.1
  have s2 := hl.1
  have s3 := hr.1
  obtain ⟨K2, e2⟩ := firstI_ev s l r c (by omega) (by omega) (by omega)
  obtain ⟨K3, e3⟩ := firstS_ev s l r c
  obtain ⟨K4, e4⟩ := twoI_evT s l r c (by omega) (by omega) (by omega)
  obtain ⟨K5, e5⟩ := twoS_ev s l r c
  obtain ⟨K6, e6⟩ := countI_ev s l r c (by omega) (by omega) (by omega)
  obtain ⟨K7, e7⟩ := countS_ev s l r c
  obtain ⟨K8, e8⟩ := fSame_ev (firstT s l r c).1 (by have := firstT_small s l r c; omega)
  have e9 := isDialed_is s (by omega)
  obtain ⟨K10, e10⟩ := isDialedS_ev s
  have hsm := firstT_small s l r c
  cases hb : bothB s l r with
  | false =>
    have hf : firstT s l r c = ([], false) := by unfold firstT; rw [hb, if_neg (by simp)]
    have ht : twoT s l r c = (0, false) := by unfold twoT; rw [hb, if_neg (by simp)]
    rw [hf] at e2 e3 e8
    rw [ht] at e4
    rw [hb, if_neg (by simp)] at e5 e6 e7
    exact ⟨s, l, r, c, [], false, 0, 0, false, dialB s, K1 + K2 + K3 + K4 + K5 + K6 + K7 + K8 + K10, fun k hk => ⟨e1 k (by omega), e2 k (by omega), e3 k (by omega), e4 k (by omega), e5 k (by omega), e6 k (by omega), e7 k (by omega), e8 k (by omega), e9, e10 k (by omega), fun x => x, fun x => (by cases x), fun x => (by cases x)⟩⟩
  | true =>
    have hf : firstT s l r c = (firstN c (placesN s) (plN (bt l 0)) (plN (bt r 0)), true) := by unfold firstT; rw [hb, if_pos rfl]
    have ht : twoT s l r c = ((startN s l r c).1, true) := by unfold twoT; rw [hb, if_pos rfl]
    rw [hf] at e2 e3 e8
    rw [ht] at e4
    rw [hb, if_pos rfl] at e5 e6 e7
    obtain ⟨a2, a3, mi, a, b, x, y, e, KB, hB⟩ := gb_ok hb c
    exact ⟨s, l, r, c, _, true, (startN s l r c).1, (startN s l r c).2, true, dialB s, K1 + K2 + K3 + K4 + K5 + K6 + K7 + K8 + K10 + KB, fun k hk => ⟨e1 k (by omega), e2 k (by omega), e3 k (by omega), e4 k (by omega), e5 k (by omega), e6 k (by omega), e7 k (by omega), e8 k (by omega), e9, e10 k (by omega), fun x => x, fun _ => (bothB_iff hb).1, fun _ => ⟨a2, a3, mi, a, b, x, y, e, hB k (by omega)⟩⟩⟩
theorem keysLp_ok {l : List Int} (h : AllBytes l) : ∀ (n : Nat) (p q : Int) (s : ByteArray), (0 ≤ p ∧ p + n ≤ 1000000000) → s.size + 2 * n ≤ 1000 → ∃ r p' q', spec_DrawKeysOfMoves.lp l n p q s = some (r, p', q') ∧ r.size ≤ s.size + 2 * n ∧ (0 ≤ p' ∧ p' ≤ p + n)
  | 0, p, q, s, hp, hs => ⟨s, p, q, rfl, by omega, by omega⟩
  | n + 1, p, q, s, hp, hs => by
    obtain ⟨x, p1, q1, e, hx, hp1⟩ := of_ok h q (show 0 ≤ p ∧ p ≤ 1000000000 by omega) spec_DrawKeysOfMoves.mv (by decide)
    have hx1 : x.size ≤ 1 := by
      unfold spec_DrawKeysOfMoves.mv at hx
      simp only [List.mem_cons, List.not_mem_nil, or_false] at hx
      rcases hx with rfl | rfl | rfl | rfl | rfl | rfl <;> exact Nat.le_refl 1
    obtain ⟨r, p2, q2, e2, hr, hp2⟩ := keysLp_ok h n p1 q1 (s ++ x) (by omega) (by rw [ByteArray.size_append]; omega)
    rw [ByteArray.size_append] at hr
    refine ⟨r, p2, q2, ?_, by omega, by omega⟩
    rw [spec_DrawKeysOfMoves.lp, e, bsome, if_pos (by dsimp only; omega)]
    exact e2
theorem keysRest_ok {l : List Int} (h : AllBytes l) (st : ByteArray) {p : Int} (q : Int) (hp : 0 ≤ p ∧ p ≤ 100000) : ∃ tx, spec_DrawKeysOfMoves.rest l st p q = some (st, tx) ∧ tx.size ≤ 100 := by
  obtain ⟨x, p1, q1, e1, hx, hp1⟩ := pick_ok h q (show 0 ≤ p ∧ p ≤ 1000000000 by omega) 12 (by omega)
  obtain ⟨r, p2, q2, e2, hr, hp2⟩ := keysLp_ok h x.toNat p1 q1 (⟨#[]⟩ : ByteArray) (by omega) (by show 0 + 2 * x.toNat ≤ 1000; omega)
  have hr0 : r.size ≤ 22 := by
    have : (⟨#[]⟩ : ByteArray).size = 0 := rfl
    omega
  obtain ⟨o, p3, q3, e3, hp3⟩ := one_ok h q2 (show 0 ≤ p2 ∧ p2 ≤ 1000000000 by omega) 6 (by omega)
  unfold spec_DrawKeysOfMoves.rest
  rw [e1, bsome, if_pos (by dsimp only; omega), e2, bsome, e3, bsome]
  cases o with
  | true =>
    obtain ⟨y, p4, q4, e4, hy, hp4⟩ := of_ok h q3 (show 0 ≤ p3 ∧ p3 ≤ 1000000000 by omega) spec_DrawKeysOfMoves.xs (by decide)
    have hy1 : y.size ≤ 1 := by
      unfold spec_DrawKeysOfMoves.xs at hy
      simp only [List.mem_cons, List.not_mem_nil, or_false] at hy
      rcases hy with rfl | rfl <;> exact Nat.le_refl 1
    rw [if_pos rfl, e4, bsome, if_pos (by dsimp only; omega)]
    exact ⟨_, rfl, by rw [ByteArray.size_append]; dsimp only; omega⟩
  | false =>
    rw [if_neg (by simp)]
    exact ⟨_, rfl, by dsimp only; omega⟩
theorem movT_small {s t : ByteArray} : (Pm.movT s t).1.size ≤ 1000 := by
  unfold Pm.movT
  split
  · rename_i hb
    rw [pm_dial, pm_one] at hb
    obtain ⟨hd, ho⟩ := (Bool.and_eq_true _ _).mp hb
    have hL := placesN_range hd
    have hp := plN_range (oneB_iff.1 ho).2
    have hm := moves_length (placesN s) _ hL hp
    have h30 := (dialB_iff.1 hd).1
    have hpl := placesN_length s
    have hw : ∀ (L : List Int) (p : Int), (∀ q ∈ L, 0 ≤ q ∧ q ≤ 11) → (0 ≤ p ∧ p ≤ 11) → walkN L p false ≤ 5 * L.length := by
      intro L
      induction L with
      | nil => intro p _ _; simp [walkN]
      | cons q L ih =>
        intro p h hp
        have hq := h q (by simp)
        have h1 := (distN_range hp hq false).2
        have h2 := ih q (fun x hx => h x (by simp [hx])) hq
        rw [walkN, List.length_cons]
        omega
    have := hw (placesN s) _ hL hp
    rw [pm_places]
    show (strOfNums (Pm.movesN (placesN s) (plN (bt t 0)))).size ≤ 1000
    rw [size_nums]
    omega
  · exact Nat.zero_le _
theorem drawKeys_ok {l : List Int} (h : AllBytes l) : ∃ t tx, Ev (fun k => spec_DrawKeysOfMoves.f k l) (t, tx) ∧ t.size ≤ 40 ∧ tx.size ≤ 1000 := by
  obtain ⟨st, p1, q1, e1, hst, hp1⟩ := key_ok h 0 (p := 0) (by omega)
  have hst1 := hst.1
  obtain ⟨K2, e2⟩ := thOne_ev st
  cases ho : oneB st with
  | false =>
    obtain ⟨tx, e3, htx⟩ := keysRest_ok h st q1 (show 0 ≤ p1 ∧ p1 ≤ 100000 by omega)
    refine ⟨st, tx, ⟨K2, fun k hk => ?_⟩, hst1, by omega⟩
    have e2 := e2 k hk
    dsimp only at e2 ⊢
    unfold spec_DrawKeysOfMoves.f
    rw [e1, bsome, e2, bsome, ho, if_neg (by simp)]
    exact e3
  | true =>
    obtain ⟨o, p2, q2, e3, hp2⟩ := one_ok h q1 (show 0 ≤ p1 ∧ p1 ≤ 1000000000 by omega) 3 (by omega)
    cases o with
    | true =>
      obtain ⟨tx, e4, htx⟩ := keysRest_ok h st q2 (show 0 ≤ p2 ∧ p2 ≤ 100000 by omega)
      refine ⟨st, tx, ⟨K2, fun k hk => ?_⟩, hst1, by omega⟩
      have e2 := e2 k hk
      dsimp only at e2 ⊢
      unfold spec_DrawKeysOfMoves.f
      rw [e1, bsome, e2, bsome, ho, if_pos rfl, e3, bsome, if_pos rfl]
      exact e4
    | false =>
      obtain ⟨m, p3, q3, ⟨K4, e4⟩, hm, hm2, hp3⟩ := sureDialed_ok h q2 (show 0 ≤ p2 ∧ p2 ≤ 1000000 by omega) 6 (by omega)
      obtain ⟨K5, e5⟩ := Pm.movesS_ev m st
      refine ⟨st, (Pm.movT m st).1, ⟨K2 + K4 + K5, fun k hk => ?_⟩, hst1, movT_small⟩
      have e2 := e2 k (by omega)
      have e4 := e4 k (by omega)
      have e5 := e5 k (by omega)
      dsimp only at e2 e4 e5 ⊢
      unfold spec_DrawKeysOfMoves.f
      rw [e1, bsome, e2, bsome, ho, if_pos rfl, e3, bsome, if_neg (by simp), e4, bsome, e5, bsome]
theorem cut_one {s : ByteArray} (h : dialB s = true) {i : Nat} (hi : i < s.size) : oneB (s.extract i (i + 1)) = true ∧ bt (s.extract i (i + 1)) 0 = bt s i := by
  have hb : bytesOf (s.extract i (i + 1)) = [bt s i] := by
    rw [bytes_extract, List.drop_take, drop_bytes s i hi, show i + 1 - i = 1 by omega]
    rfl
  have e : bt (s.extract i (i + 1)) 0 = bt s i := by
    rw [bt_bytes, hb]
    rfl
  refine ⟨oneB_iff.2 ⟨by rw [size_bytes, hb]; rfl, ?_⟩, e⟩
  rw [e]
  exact (dialB_iff.1 h).2 _ (bt_mem s i hi)
theorem lp_ev {s : ByteArray} (h : dialB s = true) (c : Bool) : ∀ (d i : Nat) (a : ByteArray) (sum : Int), i + d = s.size → oneB a = true → (0 ≤ sum ∧ sum ≤ 5 * i) → Ev (fun k => laws_FnThumbsMove.lp k s c d i a sum) (sum + walkN ((placesN s).drop i) (plN (bt a 0)) c)
  | 0, i, a, sum, hi, ha, hsum => by
    rw [List.drop_eq_nil_of_le (by rw [placesN_length]; omega)]
    exact ⟨0, fun k _ => by simp [laws_FnThumbsMove.lp, walkN]⟩
  | d + 1, i, a, sum, hi, ha, hsum => by
    have h30 := (dialB_iff.1 h).1
    have hi2 : i < s.size := by omega
    obtain ⟨o1, o2⟩ := cut_one h hi2
    have hr := distN_range (plN_range (oneB_iff.1 ha).2) (plN_range (oneB_iff.1 o1).2) c
    rw [o2] at hr
    have s1 := oneB_size ha
    have s2 := oneB_size o1
    obtain ⟨K1, e1⟩ := keyDistI_ev a (s.extract i (i + 1)) c (by omega) (by omega)
    rw [ha, o1, if_pos (by rfl), o2] at e1
    obtain ⟨K2, e2⟩ := lp_ev h c d (i + 1) (s.extract i (i + 1)) (sum + distN (plN (bt a 0)) (plN (bt s i)) c) (by omega) o1 (by omega)
    rw [o2] at e2
    refine ⟨K1 + K2, fun k hk => ?_⟩
    have e1 := e1 k (by omega)
    have e2 := e2 k (by omega)
    dsimp only at e1 e2 ⊢
    rw [laws_FnThumbsMove.lp, e1, bsome, if_pos rfl]
    dsimp only
    rw [wr (by omega) (by omega), e2, drop_places s i hi2, walkN, Int.add_assoc]
theorem five_ok (kk st : ByteArray) (c : Bool) (hs : Short kk) : ∃ K, ∀ k, K ≤ k → (oneT kk st c).2 = true → laws_FnThumbsMove.asc kk ∧ kk.size ≤ 1000 ∧ laws_FnThumbsMove.lp k kk c kk.size 0 st 0 = some (oneT kk st c).1 ∧ ∃ bs n, impl_BestStart.f k kk c = some (bs, n, true) ∧ n ≤ (oneT kk st c).1 ∧ bs.size = 1 := by
  unfold oneT
  cases hb : (dialB kk && oneB st) with
  | false => exact ⟨0, fun k _ e => by rw [if_neg (by simp)] at e; cases e⟩
  | true =>
    obtain ⟨hd, ho⟩ := (Bool.and_eq_true _ _).mp hb
    have h30 := (dialB_iff.1 hd).1
    have hp := plN_range (oneB_iff.1 ho).2
    obtain ⟨K1, e1⟩ := lp_ev hd c kk.size 0 st 0 (by omega) ho (by omega)
    obtain ⟨K2, e2⟩ := Pb.bsI_f kk (by omega) c
    obtain ⟨b, n, b1, b2, b3⟩ := best_start hd c hp
    rw [b1] at e2
    refine ⟨K1 + K2, fun k hk _ => ⟨fun i hi => ?_, by omega, ?_, b, n, e2 k (by omega), ?_, b3⟩⟩
    · have := hs.2 (((kk[i]'hi).toNat : Nat) : Int) (by
        unfold bytesOf
        refine List.mem_map.2 ⟨kk[i]'hi, ?_, rfl⟩
        have e : kk[i]'hi = kk.data.toList[i]'(by simpa using hi) := by simp [ByteArray.getElem_eq_getElem_data]
        rw [e]
        exact List.getElem_mem _)
      exact UInt8.lt_iff_toNat_lt.2 (by exact_mod_cast this)
    · have e1 := e1 k (by omega)
      rw [List.drop_zero, Int.zero_add] at e1
      rw [if_pos rfl]
      exact e1
    · rw [if_pos rfl]
      exact b2
theorem seven_ok (s a b : ByteArray) (T : List Int) (c : Bool) (hs : s.size ≤ 40) (ha : a.size ≤ 40) (hb : b.size ≤ 40) : ∃ K, ∀ k, K ≤ k → (planT s a b T c).2 = true → ∃ n, impl_TwoThumbs.f k s a b c = some (n, true) ∧ n ≤ (planT s a b T c).1 := by
  obtain ⟨K, e⟩ := twoI_evT s a b c hs ha hb
  refine ⟨K, fun k hk => ?_⟩
  unfold planT
  split
  · rename_i h
    obtain ⟨h1, h2⟩ := (Bool.and_eq_true _ _).mp h
    obtain ⟨h3, h4⟩ := (Bool.and_eq_true _ _).mp h2
    have h3 := of_decide_eq_true h3
    intro _
    have ht : twoT s a b c = ((startN s a b c).1, true) := by unfold twoT; rw [h1, if_pos rfl]
    rw [ht] at e
    exact ⟨_, e k hk, look_le_plan c _ _ _ _ (by rw [placesN_length]; exact h3) (allB_iff.1 h4)⟩
  · intro x
    cases x
theorem nine_ok (s t : ByteArray) (hs : s.size ≤ 40) (ht : t.size ≤ 40) : ∃ K, ∀ k, K ≤ k → (Pm.movT s t).2 = true → (Pm.movT s t).1.size ≤ 200 → ∃ n, impl_KeysOfMoves.f k t (Pm.movT s t).1 = some (s, true) ∧ impl_OneThumb.f k s t false = some (n, true) ∧ ((Pm.movT s t).1.size : Int) = wrap64 (n + (s.size : Int)) := by
  obtain ⟨K1, e1⟩ := keysI_ev t (Pm.movT s t).1 (by omega)
  obtain ⟨K2, e2⟩ := oneThumbI_ev s t false (by omega) (by omega)
  refine ⟨K1 + K2, fun k hk h2 h200 => ?_⟩
  have e1 := e1 k (by omega)
  have e2 := e2 k (by omega)
  dsimp only at e1 e2
  obtain ⟨m1, m2, m3⟩ := moves_pressed (s := s) (t := t) (mv := (Pm.movT s t).1) (by rw [← h2]) h200
  rw [m1] at e1
  rw [m2] at e2
  exact ⟨_, e1, e2, by rw [wr (by omega) (by omega)]; exact m3⟩
theorem eleven_ok (t tx : ByteArray) (ht : t.size ≤ 40) : ∃ K, ∀ k, K ≤ k → (keysT t tx).2 = true → ∃ r, impl_MovesOf.f k (keysT t tx).1 t = some (r, true) ∧ r.size ≤ tx.size := by
  by_cases h : (keysT t tx).2 = true
  · obtain ⟨r, h1, h2⟩ := pressed_moves (s := t) (t := tx) (pr := (keysT t tx).1) (by rw [← h])
    have hsz : (keysT t tx).1.size ≤ 140737488351232 := by
      by_cases hz : dialB (keysT t tx).1 = true
      · have := (dialB_iff.1 hz).1
        omega
      · exfalso
        unfold Pm.movT at h1
        rw [pm_dial, pm_one] at h1
        rw [show dialB (keysT t tx).1 = false by simpa using hz, if_neg (by simp)] at h1
        cases h1
    obtain ⟨K, e⟩ := Pm.movesI_ev (keysT t tx).1 t hsz (by omega)
    rw [h1] at e
    exact ⟨K, fun k hk _ => ⟨r, e k hk, h2⟩⟩
  · exact ⟨0, fun k _ e => absurd e h⟩
theorem gg_ok {l1 : List Int} (h : AllBytes l1) : ∃ kk st rd1 stp five pl pa pb pt pm md seven ms s2 mv nine t tx pr eleven, ∃ K, ∀ k, K ≤ k → laws_FnThumbsMove.GG k l1 kk st rd1 stp five pl pa pb pt pm md seven ms s2 mv nine t tx pr eleven := by
  obtain ⟨kk, st, rd1, ⟨K1, e1⟩, hkk, hst⟩ := drawOne_ok h
  obtain ⟨pl, pa, pb, pt, pm, ⟨K4, e4⟩, hpl, hpa, hpb, hpt⟩ := drawPlan_ok h
  obtain ⟨ms, s2, ⟨K7, e7⟩, hms, hs2⟩ := drawMoves_ok h
  obtain ⟨t, tx, ⟨K10, e10⟩, ht, htx⟩ := drawKeys_ok h
  have z1 := hkk.1
  have z2 := hst.1
  have z3 := hpl.1
  have z4 := hpa.1
  have z5 := hpb.1
  have z6 := hms.1
  have z7 := hs2.1
  obtain ⟨K2, e2⟩ := oneThumbI_ev kk st rd1 (by omega) (by omega)
  obtain ⟨K3, e3⟩ := oneThumbS_ev kk st rd1
  obtain ⟨K5, e5⟩ := planI_ev pl pa pb pt pm (by omega) (by omega) (by omega)
  obtain ⟨K6, e6⟩ := planS_ev pl pa pb pt pm (by omega)
  obtain ⟨K8, e8⟩ := Pm.movesI_ev ms s2 (by omega) (by omega)
  obtain ⟨K9, e9⟩ := Pm.movesS_ev ms s2
  obtain ⟨K11, e11⟩ := keysI_ev t tx (by omega)
  obtain ⟨K12, e12⟩ := keysS_ev t tx
  obtain ⟨K13, f5⟩ := five_ok kk st rd1 hkk
  obtain ⟨K14, f7⟩ := seven_ok pl pa pb pt pm z3 z4 z5
  obtain ⟨K15, f9⟩ := nine_ok ms s2 z6 z7
  obtain ⟨K16, f11⟩ := eleven_ok t tx ht
  exact ⟨kk, st, rd1, (oneT kk st rd1).1, (oneT kk st rd1).2, pl, pa, pb, pt, pm, (planT pl pa pb pt pm).1, (planT pl pa pb pt pm).2, ms, s2, (Pm.movT ms s2).1, (Pm.movT ms s2).2, t, tx, (keysT t tx).1, (keysT t tx).2,
    K1 + K2 + K3 + K4 + K5 + K6 + K7 + K8 + K9 + K10 + K11 + K12 + K13 + K14 + K15 + K16, fun k hk => ⟨e1 k (by omega), e2 k (by omega), e3 k (by omega), e4 k (by omega), e5 k (by omega), e6 k (by omega), e7 k (by omega), e8 k (by omega), e9 k (by omega), e10 k (by omega), e11 k (by omega), e12 k (by omega), f5 k (by omega), f7 k (by omega), f9 k (by omega), f11 k (by omega)⟩⟩
end Go.Proofs.YtldnddehmpbbpaaGreatDoor.Pu
end

section
namespace Go.Proofs.YtldnddehmpbbpaaGreatDoor.Pure
open Go.RowKit Go.Proofs.YtldnddehmpbbpaaGreatDoor.P Go.Proofs.YtldnddehmpbbpaaGreatDoor.Pu Go.Proofs.YtldnddehmpbbpaaGreatDoorW.PrintWords Go.Proofs.YtldnddehmpbbpaaGreatDoorW.PrintLast
theorem wf_bytes {l : List Int} (h : ∀ x ∈ l, (Lit.int .u8 x).wf = true) : AllBytes l := by
  intro c hc
  have h := h c hc
  simp only [Lit.wf] at h
  rw [Bool.and_eq_true] at h
  have h1 := of_decide_eq_true h.1
  have h2 := of_decide_eq_true h.2
  exact ⟨h1, h2⟩
theorem FnThumbsMove : laws_FnThumbsMove.Pure := by
  intro l0 l1 _ h0 b0 _ h1 b1
  by_cases hb : laws_big.f l0 l1 = some true
  · exact ⟨0, .inl hb⟩
  · have hf : laws_big.f l0 l1 = some false := by
      unfold laws_big.f at hb ⊢
      split at hb
      · exact absurd rfl hb
      · cases hd : decide ((l1.length : Int) > (wrap64 (1048576 - (l0.length : Int)))) with
        | true => rw [hd] at hb; exact absurd rfl hb
        | false => rw [if_neg (by assumption)]
    obtain ⟨s, l, rr, c, p, ok, m, n, okn, di, K1, hA⟩ := ga_ok (wf_bytes b0)
    obtain ⟨kk, st, rd1, stp, five, pl, pa, pb, pt, pm, md, seven, ms, s2, mv, nine, t, tx, pr, eleven, K2, hG⟩ := gg_ok (wf_bytes b1)
    exact ⟨K1 + K2, .inr ⟨hf, ⟨s, l, rr, c, p, ok, m, n, okn, di, hA _ (by omega)⟩, ⟨kk, st, rd1, stp, five, pl, pa, pb, pt, pm, md, seven, ms, s2, mv, nine, t, tx, pr, eleven, hG _ (by omega)⟩⟩⟩
end Go.Proofs.YtldnddehmpbbpaaGreatDoor.Pure
end

