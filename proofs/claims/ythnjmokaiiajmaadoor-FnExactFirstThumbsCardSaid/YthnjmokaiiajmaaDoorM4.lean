/- Parts of the proof (printed walks, lemmas of our own, contracts of the library laid for this program), merged into one text by wip/mclaim.py. Conditions: each theorem's own. -/
import Derived.Test.YthnjmokaiiajmaaDoorM0
import Derived.Test.YthnjmokaiiajmaaDoorM1
import Derived.Test.YthnjmokaiiajmaaDoorM2
import Derived.Test.YthnjmokaiiajmaaDoorM3
namespace Go.Proofs.YthnjmokaiiajmaaDoor.Pu
open Go.RowKit Go.Proofs.YthnjmokaiiajmaaDoor.P Go.Proofs.YthnjmokaiiajmaaDoorW.PrintWords Go.Proofs.YthnjmokaiiajmaaDoorW.PrintLast Go.Proofs.YthnjmokaiiajmaaDoorW.PrintMore

def bothB (s l r : ByteArray) : Bool := dialB s && (oneB l && oneB r)
theorem thBoth_ev (s l r : ByteArray) : Ev (fun k => spec_thBoth.f k s l r) (bothB s l r) := by
  obtain ⟨K1, h1⟩ := thGood_ev s
  obtain ⟨K2, h2⟩ := thOne_ev l
  obtain ⟨K3, h3⟩ := thOne_ev r
  refine ⟨K1 + K2 + K3, fun k hk => ?_⟩
  have e1 := h1 k (by omega)
  have e2 := h2 k (by omega)
  have e3 := h3 k (by omega)
  dsimp only at e1 e2 e3 ⊢
  unfold spec_thBoth.f bothB
  rw [e1, bsome]
  cases dialB s with
  | false => rfl
  | true =>
    rw [if_pos rfl, e2, bsome]
    cases oneB l with
    | false => rfl
    | true => rw [if_pos rfl, e3, bsome]; rfl
theorem thumbsOk_ev (s l r : ByteArray) (hs : s.size ≤ 140737488351232) (hl : l.size ≤ 140737488351232) (hr : r.size ≤ 140737488351232) : Ev (fun k => impl_thumbsOk.f k s l r) (if bothB s l r = true then (plN (bt l 0), plN (bt r 0), true) else (0, 0, false)) := by
  refine ev_from 0 fun k _ => ?_
  unfold impl_thumbsOk.f bothB
  rw [isDialed_is s hs, bsome]
  cases dialB s with
  | false => rfl
  | true =>
    rw [if_pos rfl, isKey_is l hl, bsome]
    cases h1 : oneB l with
    | false => rfl
    | true =>
      rw [if_pos rfl, isKey_is r hr, bsome]
      cases h2 : oneB r with
      | false => rfl
      | true =>
        obtain ⟨l1, pl⟩ := oneB_iff.1 h1
        obtain ⟨r1, pr⟩ := oneB_iff.1 h2
        simp only [impl_thumbsOk.j0]
        rw [show (!true) = false from rfl, if_neg (by simp), if_pos (by omega), place_is _ pl, bsome, if_pos (by omega), place_is _ pr, bsome]
        rfl
def lookN (c : Bool) : List Int → Int → Int → Int × Int
  | [], _, _ => (0, 1)
  | p :: L, l, r =>
    if (lookN c L l p).1 + distN r p c < (lookN c L p r).1 + distN l p c then ((lookN c L l p).1 + distN r p c, (lookN c L l p).2)
    else if (lookN c L l p).1 + distN r p c = (lookN c L p r).1 + distN l p c then ((lookN c L p r).1 + distN l p c, (lookN c L p r).2 + (lookN c L l p).2)
    else ((lookN c L p r).1 + distN l p c, (lookN c L p r).2)
def twoN : Nat → Int
  | 0 => 1
  | n + 1 => 2 * twoN n
theorem twoN_pos : ∀ n, 1 ≤ twoN n
  | 0 => by decide
  | n + 1 => by
    have := twoN_pos n
    rw [twoN]
    omega
theorem twoN_le : ∀ d n, n + d = 30 → twoN n ≤ 1073741824
  | 0, n, h => by
    obtain rfl : n = 30 := by omega
    decide
  | d + 1, n, h => by
    have := twoN_le d (n + 1) (by omega)
    have h0 := twoN_pos n
    rw [twoN] at this
    omega
theorem lookN_range (c : Bool) : ∀ (L : List Int) (l r : Int), (∀ p ∈ L, 0 ≤ p ∧ p ≤ 11) → (0 ≤ l ∧ l ≤ 11) → (0 ≤ r ∧ r ≤ 11) → (0 ≤ (lookN c L l r).1 ∧ (lookN c L l r).1 ≤ 5 * L.length) ∧ 1 ≤ (lookN c L l r).2 ∧ (lookN c L l r).2 ≤ twoN L.length
  | [], l, r, _, _, _ => by simp [lookN, twoN]
  | p :: L, l, r, h, hl, hr => by
    have hp := h p (by simp)
    obtain ⟨⟨a0, a1⟩, a2, a3⟩ := lookN_range c L p r (fun q hq => h q (by simp [hq])) hp hr
    obtain ⟨⟨b0, b1⟩, b2, b3⟩ := lookN_range c L l p (fun q hq => h q (by simp [hq])) hl hp
    have d1 := distN_range hl hp c
    have d2 := distN_range hr hp c
    rw [lookN, List.length_cons, twoN]
    split
    · dsimp only
      omega
    · split
      · dsimp only
        omega
      · dsimp only
        omega
theorem lookN_small (c : Bool) {L : List Int} {l r : Int} (hL : ∀ p ∈ L, 0 ≤ p ∧ p ≤ 11) (hn : L.length ≤ 30) (hl : 0 ≤ l ∧ l ≤ 11) (hr : 0 ≤ r ∧ r ≤ 11) : (0 ≤ (lookN c L l r).1 ∧ (lookN c L l r).1 ≤ 150) ∧ 1 ≤ (lookN c L l r).2 ∧ (lookN c L l r).2 ≤ 1073741824 := by
  obtain ⟨⟨a0, a1⟩, a2, a3⟩ := lookN_range c L l r hL hl hr
  have := twoN_le (30 - L.length) L.length (by omega)
  omega
/-! ### the program's looker -/
theorem moved0_is {l r p : Int} (hl : 0 ≤ l ∧ l ≤ 11) (hp : 0 ≤ p ∧ p ≤ 11) (c : Bool) : impl_thumbs_moved.f l r 0 p c = some (p, r, distN l p c) := by
  unfold impl_thumbs_moved.f
  rw [if_pos rfl, distance_is hl hp, bsome]
theorem moved1_is {l r p : Int} (hr : 0 ≤ r ∧ r ≤ 11) (hp : 0 ≤ p ∧ p ≤ 11) (c : Bool) : impl_thumbs_moved.f l r 1 p c = some (l, p, distN r p c) := by
  unfold impl_thumbs_moved.f
  rw [if_neg (by decide), distance_is hr hp, bsome]
theorem look_is (c : Bool) : ∀ (L : List Int) (l r : Int), (∀ p ∈ L, 0 ≤ p ∧ p ≤ 11) → L.length ≤ 30 → (0 ≤ l ∧ l ≤ 11) → (0 ≤ r ∧ r ≤ 11) → impl_newLooker.look c L l r = some (lookN c L l r)
  | [], l, r, _, _, _, _ => rfl
  | p :: L, l, r, h, hn, hl, hr => by
    have hp := h p (by simp)
    have hL : ∀ q ∈ L, 0 ≤ q ∧ q ≤ 11 := fun q hq => h q (by simp [hq])
    rw [List.length_cons] at hn
    have ha := lookN_small c hL (by omega) hp hr
    have hb := lookN_small c hL (by omega) hl hp
    have d1 := distN_range hl hp c
    have d2 := distN_range hr hp c
    rw [impl_newLooker.look, moved0_is hl hp, bsome]
    dsimp only
    rw [look_is c L p r hL (by omega) hp hr, bsome, moved1_is hr hp, bsome]
    dsimp only
    rw [look_is c L l p hL (by omega) hl hp, bsome, lookN]
    generalize lookN c L p r = A at *
    generalize lookN c L l p = B at *
    unfold impl_newLooker.rnd
    rw [if_pos (show (-1 : Int) < 0 ∨ wrap64 (A.1 + distN l p c) < -1 from Or.inl (by decide))]
    dsimp only
    rw [wr (x := A.1 + distN l p c) (by omega) (by omega), wr (x := B.1 + distN r p c) (by omega) (by omega), wr (x := A.2 + B.2) (by omega) (by omega)]
    by_cases h1 : B.1 + distN r p c < A.1 + distN l p c
    · rw [if_pos (Or.inr h1), if_pos h1]
    · rw [if_neg (by omega), if_neg h1]
theorem from_is (k : Nat) (c : Bool) {L : List Int} {i : Nat} {l r : Int} (hL : ∀ p ∈ L, 0 ≤ p ∧ p ≤ 11) (hn : L.length ≤ 30) (hi : i ≤ L.length) (hl : 0 ≤ l ∧ l ≤ 11) (hr : 0 ≤ r ∧ r ≤ 11) : impl_looker_from.f k (L, c) (i : Int) l r = some (lookN c (L.drop i) l r) := by
  have hall : ((L, c).1.all fun p => decide (0 ≤ p) && decide (p ≤ 11)) = true := by
    rw [List.all_eq_true]
    intro q hq
    simpa using hL q hq
  unfold impl_looker_from.f
  rw [if_pos ⟨by omega, (show (i : Int) ≤ (L.length : Int) by omega), (show L.length ≤ 1000 by omega), hl, hr, hall⟩]
  show impl_newLooker.look c (L.drop (i : Int).toNat) l r = _
  rw [Int.toNat_natCast]
  exact look_is c _ l r (fun p hp => hL p (List.mem_of_mem_drop hp)) (by rw [List.length_drop]; omega) hl hr
theorem newLooker_ev (s : ByteArray) (h : dialB s = true) (c : Bool) : Ev (fun k => impl_newLooker.f k s c) (placesN s, c) := by
  obtain ⟨K, e⟩ := places_ev s h
  have hs := (dialB_iff.1 h).1
  refine ev_from K fun k hk => ?_
  have e := e (k + 1) (by omega)
  dsimp only at e
  unfold impl_newLooker.f
  rw [e, bsome, if_pos ⟨placesN_length s, by omega⟩]
/-! ### the reference's table -/
def rowL (c : Bool) (M : List Int) : List Int := (List.range 144).map fun i => (lookN c M ((i / 12 : Nat) : Int) ((i % 12 : Nat) : Int)).1
def rowW (c : Bool) (M : List Int) : List Int := (List.range 144).map fun i => (lookN c M ((i / 12 : Nat) : Int) ((i % 12 : Nat) : Int)).2
theorem rowL_length (c : Bool) (M : List Int) : (rowL c M).length = 144 := by simp [rowL]
theorem rowW_length (c : Bool) (M : List Int) : (rowW c M).length = 144 := by simp [rowW]
theorem rowL_at (c : Bool) (M : List Int) {i : Nat} (h : i < 144) : (rowL c M).getD i 0 = (lookN c M ((i / 12 : Nat) : Int) ((i % 12 : Nat) : Int)).1 := by
  rw [List.getD_eq_getElem?_getD, List.getElem?_eq_getElem (by rw [rowL_length]; exact h)]
  simp [rowL]
theorem rowW_at (c : Bool) (M : List Int) {i : Nat} (h : i < 144) : (rowW c M).getD i 0 = (lookN c M ((i / 12 : Nat) : Int) ((i % 12 : Nat) : Int)).2 := by
  rw [List.getD_eq_getElem?_getD, List.getElem?_eq_getElem (by rw [rowW_length]; exact h)]
  simp [rowW]
theorem rowL_two (c : Bool) (M : List Int) {a b : Nat} (ha : a < 12) (hb : b < 12) : (rowL c M).getD (12 * a + b) 0 = (lookN c M (a : Int) (b : Int)).1 := by
  rw [rowL_at c M (by omega), show (12 * a + b) / 12 = a by omega, show (12 * a + b) % 12 = b by omega]
theorem rowW_two (c : Bool) (M : List Int) {a b : Nat} (ha : a < 12) (hb : b < 12) : (rowW c M).getD (12 * a + b) 0 = (lookN c M (a : Int) (b : Int)).2 := by
  rw [rowW_at c M (by omega), show (12 * a + b) / 12 = a by omega, show (12 * a + b) % 12 = b by omega]
theorem stp_ev (c : Bool) {M : List Int} {key : Int} (hM : ∀ p ∈ M, 0 ≤ p ∧ p ≤ 11) (hn : M.length ≤ 29) (hk : isPad key = true) {i : Nat} (hi : i < 144) :
    Ev (fun k => spec_thTable.stp k c key (plN key).toNat (rowL c M) (rowW c M) i 0) (lookN c (plN key :: M) ((i / 12 : Nat) : Int) ((i % 12 : Nat) : Int)) := by
  have hp := plN_range hk
  have hl : (0 : Int) ≤ ((i / 12 : Nat) : Int) ∧ ((i / 12 : Nat) : Int) ≤ 11 := by omega
  have hr : (0 : Int) ≤ ((i % 12 : Nat) : Int) ∧ ((i % 12 : Nat) : Int) ≤ 11 := by omega
  obtain ⟨K1, e1⟩ := thFar_ev (padC_pad hl) hk c
  obtain ⟨K2, e2⟩ := thFar_ev (padC_pad hr) hk c
  refine ⟨K1 + K2, fun k hk2 => ?_⟩
  have e1 := e1 k (by omega)
  have e2 := e2 k (by omega)
  rw [plN_padC hl] at e1
  rw [plN_padC hr] at e2
  have a1 : bt spec_thTable.pad ((i / 12 : Nat) : Int) = padC ((i / 12 : Nat) : Int) := pad_bt hl
  have a2 : bt spec_thTable.pad ((i % 12 : Nat) : Int) = padC ((i % 12 : Nat) : Int) := pad_bt hr
  have hpn : (((plN key).toNat : Nat) : Int) = plN key := by omega
  have l1 := rowL_two c M (a := (plN key).toNat) (b := i % 12) (by omega) (by omega)
  have l2 := rowL_two c M (a := i / 12) (b := (plN key).toNat) (by omega) (by omega)
  have w1 := rowW_two c M (a := (plN key).toNat) (b := i % 12) (by omega) (by omega)
  have w2 := rowW_two c M (a := i / 12) (b := (plN key).toNat) (by omega) (by omega)
  rw [hpn] at l1 l2 w1 w2
  have hA := lookN_small c hM (by omega) hp hr
  have hB := lookN_small c hM (by omega) hl hp
  have d1 := distN_range hl hp c
  have d2 := distN_range hr hp c
  dsimp only at e1 e2 ⊢
  unfold spec_thTable.stp
  rw [a1, e1, bsome, a2, e2, bsome, l1, l2, w1, w2, lookN]
  generalize lookN c M (plN key) ((i % 12 : Nat) : Int) = A at *
  generalize lookN c M ((i / 12 : Nat) : Int) (plN key) = B at *
  generalize distN ((i / 12 : Nat) : Int) (plN key) c = da at *
  generalize distN ((i % 12 : Nat) : Int) (plN key) c = db at *
  clear e1 e2 a1 a2 l1 l2 w1 w2
  rw [wr (x := da + A.1) (by omega) (by omega), wr (x := db + B.1) (by omega) (by omega), Int.zero_add, wr (x := A.2) (by omega) (by omega)]
  unfold spec_l1Least.f
  by_cases h1 : B.1 + db < A.1 + da
  · rw [if_neg (show ¬ da + A.1 < db + B.1 by omega), bsome, if_pos h1, if_pos (show db + B.1 ≤ da + A.1 by omega), if_neg (show ¬ da + A.1 ≤ db + B.1 by omega), Int.zero_add, wr (x := B.2) (by omega) (by omega), if_pos (show B.2 < 1000000000000001 by omega), bsome, Int.add_comm db]
  · by_cases h2 : B.1 + db = A.1 + da
    · rw [if_neg (show ¬ da + A.1 < db + B.1 by omega), bsome, if_neg h1, if_pos h2, if_pos (show db + B.1 ≤ da + A.1 by omega), if_pos (show da + A.1 ≤ db + B.1 by omega), wr (x := A.2 + B.2) (by omega) (by omega), if_pos (show A.2 + B.2 < 1000000000000001 by omega), bsome, show db + B.1 = A.1 + da by omega]
    · rw [if_pos (show da + A.1 < db + B.1 by omega), bsome, if_neg h1, if_neg h2, if_neg (show ¬ db + B.1 ≤ da + A.1 by omega), if_pos (show da + A.1 ≤ db + B.1 by omega), if_pos (show A.2 < 1000000000000001 by omega), bsome, Int.add_comm da]
def preN (F : List Int) (i : Nat) : List Int := F.take i ++ List.replicate (144 - i) 0
theorem preN_at {F : List Int} {i : Nat} (hF : F.length = 144) (hi : i < 144) : (preN F i).getD i 0 = 0 := by
  unfold preN
  rw [List.getD_eq_getElem?_getD, List.getElem?_append_right (by rw [List.length_take]; omega), List.length_take, show i - min i F.length = 0 by omega, show 144 - i = (143 - i) + 1 by omega, List.replicate_succ]
  rfl
theorem preN_set {F : List Int} {i : Nat} (hF : F.length = 144) (hi : i < 144) : (preN F i).set i (F.getD i 0) = preN F (i + 1) := by
  unfold preN
  rw [List.set_append_right _ _ (by rw [List.length_take]; omega), List.length_take, show i - min i F.length = 0 by omega, show 144 - i = (144 - (i + 1)) + 1 by omega, List.replicate_succ, List.set_cons_zero, List.take_succ_eq_append_getElem (by omega), List.append_assoc, List.getD_eq_getElem?_getD, List.getElem?_eq_getElem (by omega)]
  rfl
theorem inr_ev (c : Bool) {M : List Int} {key : Int} (hM : ∀ p ∈ M, 0 ≤ p ∧ p ≤ 11) (hn : M.length ≤ 29) (hk : isPad key = true) : ∀ (d i : Nat), i + d = 144 →
    Ev (fun k => spec_thTable.inr k c key (plN key).toNat (rowL c M) (rowW c M) d i (preN (rowL c (plN key :: M)) i) (preN (rowW c (plN key :: M)) i)) (rowL c (plN key :: M), rowW c (plN key :: M))
  | 0, i, h => by
    obtain rfl : i = 144 := by omega
    refine ⟨0, fun k _ => ?_⟩
    show some _ = _
    unfold preN
    rw [List.take_of_length_le (by rw [rowL_length]; omega), List.take_of_length_le (by rw [rowW_length]; omega)]
    simp
  | d + 1, i, h => by
    obtain ⟨K1, e1⟩ := stp_ev c hM hn hk (i := i) (by omega)
    obtain ⟨K2, e2⟩ := inr_ev c hM hn hk d (i + 1) (by omega)
    refine ⟨K1 + K2, fun k hk2 => ?_⟩
    have e1 := e1 k (by omega)
    have e2 := e2 k (by omega)
    dsimp only at e1 e2 ⊢
    rw [spec_thTable.inr, preN_at (rowW_length _ _) (by omega), e1, bsome, ← rowL_at c _ (by omega), ← rowW_at c _ (by omega), preN_set (rowL_length _ _) (by omega), preN_set (rowW_length _ _) (by omega)]
    exact e2
theorem row_ev (c : Bool) {M : List Int} {key : Int} (hM : ∀ p ∈ M, 0 ≤ p ∧ p ≤ 11) (hn : M.length ≤ 29) (hk : isPad key = true) :
    Ev (fun k => spec_thTable.row k c key (rowL c M, rowW c M)) (rowL c (plN key :: M), rowW c (plN key :: M)) := by
  obtain ⟨K1, e1⟩ := thPlace_pad key hk
  obtain ⟨K2, e2⟩ := inr_ev c hM hn hk 144 0 (by omega)
  have hp := plN_range hk
  refine ⟨K1 + K2, fun k hk2 => ?_⟩
  have e1 := e1 k (by omega)
  have e2 := e2 k (by omega)
  dsimp only at e1 e2 ⊢
  unfold spec_thTable.row
  rw [e1, bsome, if_pos hp]
  exact e2
def rowN (s : ByteArray) (c : Bool) (e : Nat) : List Int × List Int := (rowL c ((placesN s).drop (s.size - e)), rowW c ((placesN s).drop (s.size - e)))
theorem go_ev (s : ByteArray) (h : dialB s = true) (c : Bool) : ∀ (d : Nat), d ≤ s.size → Ev (fun k => spec_thTable.go k s c d ((List.range (s.size - d + 1)).map (rowN s c))) ((List.range (s.size + 1)).map (rowN s c))
  | 0, _ => ⟨0, fun k _ => rfl⟩
  | d + 1, hd => by
    have hs := (dialB_iff.1 h).1
    have hq := (dialB_iff.1 h).2 _ (bt_mem s d (by omega))
    have hm : ∀ p ∈ (placesN s).drop (d + 1), 0 ≤ p ∧ p ≤ 11 := fun p hp => placesN_range h p (List.mem_of_mem_drop hp)
    obtain ⟨K1, e1⟩ := row_ev c hm (by rw [List.length_drop, placesN_length]; omega) hq
    obtain ⟨K2, e2⟩ := go_ev s h c d (by omega)
    refine ⟨K1 + K2, fun k hk => ?_⟩
    have e1 := e1 k (by omega)
    have e2 := e2 k (by omega)
    dsimp only at e1 e2 ⊢
    have hlast : ((List.range (s.size - (d + 1) + 1)).map (rowN s c)).getD (((List.range (s.size - (d + 1) + 1)).map (rowN s c)).length - 1) ([], []) = (rowL c ((placesN s).drop (d + 1)), rowW c ((placesN s).drop (d + 1))) := by
      rw [List.length_map, List.length_range, List.getD_eq_getElem?_getD, List.getElem?_map, List.getElem?_range (by omega)]
      show rowN s c (s.size - (d + 1) + 1 - 1) = _
      unfold rowN
      rw [show s.size - (s.size - (d + 1) + 1 - 1) = d + 1 by omega]
    have hnew : (rowL c (plN (bt s (d : Int)) :: (placesN s).drop (d + 1)), rowW c (plN (bt s (d : Int)) :: (placesN s).drop (d + 1))) = rowN s c (s.size - d) := by
      rw [← drop_places s d (by omega)]
      unfold rowN
      rw [show s.size - (s.size - d) = d by omega]
    rw [spec_thTable.go, hlast, e1, bsome, hnew, show s.size - (d + 1) + 1 = s.size - d by omega, ← e2, List.range_succ, List.map_append]
    rfl
def tabL (s : ByteArray) (c : Bool) : List (List Int) := (((List.range (s.size + 1)).map (rowN s c)).map Prod.fst).reverse
def tabW (s : ByteArray) (c : Bool) : List (List Int) := (((List.range (s.size + 1)).map (rowN s c)).map Prod.snd).reverse
theorem thTable_ev (s : ByteArray) (h : dialB s = true) (c : Bool) : Ev (fun k => spec_thTable.f k s c) (tabL s c, tabW s c) := by
  obtain ⟨K, e⟩ := go_ev s h c s.size (Nat.le_refl _)
  have hs := (dialB_iff.1 h).1
  refine ⟨K, fun k hk => ?_⟩
  have e := e k hk
  dsimp only at e ⊢
  have h0 : (List.range (s.size - s.size + 1)).map (rowN s c) = [(List.replicate 144 0, List.replicate 144 1)] := by
    rw [Nat.sub_self, Nat.zero_add, List.range_one, List.map_singleton]
    unfold rowN
    rw [Nat.sub_zero, List.drop_eq_nil_of_le (by rw [placesN_length]; exact Nat.le_refl _)]
    unfold rowL rowW
    simp only [lookN]
    rw [List.map_const', List.map_const', List.length_range]
  rw [h0] at e
  unfold spec_thTable.f spec_thTable.g
  rw [if_pos (by omega), e, bsome]
  rfl
theorem tabL_length (s : ByteArray) (c : Bool) : (tabL s c).length = s.size + 1 := by simp [tabL]
theorem tabW_length (s : ByteArray) (c : Bool) : (tabW s c).length = s.size + 1 := by simp [tabW]
theorem rowN_at (s : ByteArray) (c : Bool) {j : Nat} (hj : j ≤ s.size) : ((List.range (s.size + 1)).map (rowN s c)).getD (s.size - j) ([], []) = (rowL c ((placesN s).drop j), rowW c ((placesN s).drop j)) := by
  rw [List.getD_eq_getElem?_getD, List.getElem?_map, List.getElem?_range (by omega)]
  show rowN s c (s.size - j) = _
  unfold rowN
  rw [show s.size - (s.size - j) = j by omega]
theorem tabL_at (s : ByteArray) (c : Bool) {j : Nat} (hj : j ≤ s.size) : rd_L1 (tabL s c) (j : Int) = rowL c ((placesN s).drop j) := by
  unfold rd_L1 tabL
  rw [Int.toNat_natCast, spec_thTable.rev_at Prod.fst rfl (by rw [List.length_map, List.length_range]) hj, rowN_at s c hj]
theorem tabW_at (s : ByteArray) (c : Bool) {j : Nat} (hj : j ≤ s.size) : rd_L1 (tabW s c) (j : Int) = rowW c ((placesN s).drop j) := by
  unfold rd_L1 tabW
  rw [Int.toNat_natCast, spec_thTable.rev_at Prod.snd rfl (by rw [List.length_map, List.length_range]) hj, rowN_at s c hj]
theorem rdL_two (c : Bool) (M : List Int) {a b : Int} (ha : 0 ≤ a ∧ a ≤ 11) (hb : 0 ≤ b ∧ b ≤ 11) : rd (rowL c M) (12 * a + b) = (lookN c M a b).1 := by
  have := rowL_two c M (a := a.toNat) (b := b.toNat) (by omega) (by omega)
  rw [show ((a.toNat : Nat) : Int) = a by omega, show ((b.toNat : Nat) : Int) = b by omega, show 12 * a.toNat + b.toNat = (12 * a + b).toNat by omega] at this
  exact this
theorem rdW_two (c : Bool) (M : List Int) {a b : Int} (ha : 0 ≤ a ∧ a ≤ 11) (hb : 0 ≤ b ∧ b ≤ 11) : rd (rowW c M) (12 * a + b) = (lookN c M a b).2 := by
  have := rowW_two c M (a := a.toNat) (b := b.toNat) (by omega) (by omega)
  rw [show ((a.toNat : Nat) : Int) = a by omega, show ((b.toNat : Nat) : Int) = b by omega, show 12 * a.toNat + b.toNat = (12 * a + b).toNat by omega] at this
  exact this
theorem thAt_ev (l r : ByteArray) (hl : oneB l = true) (hr : oneB r = true) : Ev (fun k => spec_thAt.f k l r) (12 * plN (bt l 0) + plN (bt r 0)) := by
  obtain ⟨l1, pl⟩ := oneB_iff.1 hl
  obtain ⟨r1, pr⟩ := oneB_iff.1 hr
  obtain ⟨K1, e1⟩ := thPlace_pad _ pl
  obtain ⟨K2, e2⟩ := thPlace_pad _ pr
  have p1 := plN_range pl
  have p2 := plN_range pr
  refine ⟨K1 + K2, fun k hk => ?_⟩
  have e1 := e1 k (by omega)
  have e2 := e2 k (by omega)
  dsimp only at e1 e2 ⊢
  unfold spec_thAt.f
  rw [if_pos (by omega), e1, bsome, if_pos (by omega), e2, bsome, wr (x := 12 * plN (bt l 0)) (by omega) (by omega), wr (by omega) (by omega)]
theorem bothB_iff {s l r : ByteArray} (h : bothB s l r = true) : dialB s = true ∧ oneB l = true ∧ oneB r = true := by
  unfold bothB at h
  rw [Bool.and_eq_true, Bool.and_eq_true] at h
  exact ⟨h.1, h.2.1, h.2.2⟩
/-! ### TwoThumbs and CountThumbs -/
def startN (s l r : ByteArray) (c : Bool) : Int × Int := lookN c (placesN s) (plN (bt l 0)) (plN (bt r 0))
theorem startN_small {s l r : ByteArray} (h : bothB s l r = true) (c : Bool) : (0 ≤ (startN s l r c).1 ∧ (startN s l r c).1 ≤ 150) ∧ 1 ≤ (startN s l r c).2 ∧ (startN s l r c).2 ≤ 1073741824 := by
  obtain ⟨hd, h1, h2⟩ := bothB_iff h
  exact lookN_small c (placesN_range hd) (by rw [placesN_length]; exact (dialB_iff.1 hd).1) (plN_range (oneB_iff.1 h1).2) (plN_range (oneB_iff.1 h2).2)
theorem twoS_ev (s l r : ByteArray) (c : Bool) : Ev (fun k => spec_TwoThumbs.f k s l r c) (if bothB s l r = true then ((startN s l r c).1, true) else (0, false)) := by
  obtain ⟨K1, e1⟩ := thBoth_ev s l r
  cases hb : bothB s l r with
  | false =>
    refine ⟨K1, fun k hk => ?_⟩
    have e1 := e1 k hk
    rw [hb] at e1
    dsimp only at e1 ⊢
    unfold spec_TwoThumbs.f
    rw [e1, bsome]
    rfl
  | true =>
    obtain ⟨hd, h1, h2⟩ := bothB_iff hb
    have p1 := plN_range (oneB_iff.1 h1).2
    have p2 := plN_range (oneB_iff.1 h2).2
    obtain ⟨K2, e2⟩ := thTable_ev s hd c
    obtain ⟨K3, e3⟩ := thAt_ev l r h1 h2
    refine ⟨K1 + K2 + K3, fun k hk => ?_⟩
    have e1 := e1 k (by omega)
    have e2 := e2 k (by omega)
    have e3 := e3 k (by omega)
    rw [hb] at e1
    dsimp only at e1 e2 e3 ⊢
    have ht : rd_L1 (tabL s c) 0 = rowL c (placesN s) := tabL_at s c (Nat.zero_le s.size)
    have hl : ((rd_L1 (tabL s c) 0).length : Int) = 144 := by
      rw [ht, rowL_length]
      rfl
    have hv : rd (rd_L1 (tabL s c) 0) (12 * plN (bt l 0) + plN (bt r 0)) = (startN s l r c).1 := by
      rw [ht, rdL_two c _ p1 p2]
      rfl
    unfold spec_TwoThumbs.f
    rw [e1, bsome, if_pos rfl, e2, bsome]
    dsimp only
    rw [if_pos (by rw [tabL_length]; omega), e3, bsome, if_pos (by omega), if_pos (by omega), hv, if_pos rfl]
theorem twoI_ev (s l r : ByteArray) (c : Bool) (hs : s.size ≤ 140737488351232) (hl : l.size ≤ 140737488351232) (hr : r.size ≤ 140737488351232) : Ev (fun k => impl_TwoThumbs.f k s l r c) (if bothB s l r = true then ((startN s l r c).1, true) else (0, false)) := by
  obtain ⟨K1, e1⟩ := thumbsOk_ev s l r hs hl hr
  cases hb : bothB s l r with
  | false =>
    refine ⟨K1, fun k hk => ?_⟩
    have e1 := e1 k hk
    rw [hb] at e1
    dsimp only at e1 ⊢
    unfold impl_TwoThumbs.f
    rw [e1, bsome]
    rfl
  | true =>
    obtain ⟨hd, h1, h2⟩ := bothB_iff hb
    have p1 := plN_range (oneB_iff.1 h1).2
    have p2 := plN_range (oneB_iff.1 h2).2
    obtain ⟨K2, e2⟩ := newLooker_ev s hd c
    refine ⟨K1 + K2, fun k hk => ?_⟩
    have e1 := e1 k (by omega)
    have e2 := e2 k (by omega)
    rw [hb, if_pos rfl] at e1
    dsimp only at e1 e2 ⊢
    have hf := from_is k c (L := placesN s) (i := 0) (placesN_range hd) (by rw [placesN_length]; exact (dialB_iff.1 hd).1) (Nat.zero_le _) p1 p2
    rw [List.drop_zero] at hf
    unfold impl_TwoThumbs.f
    rw [e1, bsome]
    dsimp only
    rw [if_pos rfl, e2, bsome, show (impl_looker_from.f k (placesN s, c) 0 (plN (bt l 0)) (plN (bt r 0))) = some (startN s l r c) from hf, bsome, if_pos rfl]
theorem countS_ev (s l r : ByteArray) (c : Bool) : Ev (fun k => spec_CountThumbs.f k s l r c) (if bothB s l r = true then ((startN s l r c).2, true) else (0, false)) := by
  obtain ⟨K1, e1⟩ := thBoth_ev s l r
  cases hb : bothB s l r with
  | false =>
    refine ⟨K1, fun k hk => ?_⟩
    have e1 := e1 k hk
    rw [hb] at e1
    dsimp only at e1 ⊢
    unfold spec_CountThumbs.f
    rw [e1, bsome]
    rfl
  | true =>
    obtain ⟨hd, h1, h2⟩ := bothB_iff hb
    have p1 := plN_range (oneB_iff.1 h1).2
    have p2 := plN_range (oneB_iff.1 h2).2
    have hsm := startN_small hb c
    obtain ⟨K2, e2⟩ := thTable_ev s hd c
    obtain ⟨K3, e3⟩ := thAt_ev l r h1 h2
    refine ⟨K1 + K2 + K3, fun k hk => ?_⟩
    have e1 := e1 k (by omega)
    have e2 := e2 k (by omega)
    have e3 := e3 k (by omega)
    rw [hb] at e1
    dsimp only at e1 e2 e3 ⊢
    have ht : rd_L1 (tabW s c) 0 = rowW c (placesN s) := tabW_at s c (Nat.zero_le s.size)
    have hl : ((rd_L1 (tabW s c) 0).length : Int) = 144 := by
      rw [ht, rowW_length]
      rfl
    have hv : rd (rd_L1 (tabW s c) 0) (12 * plN (bt l 0) + plN (bt r 0)) = (startN s l r c).2 := by
      rw [ht, rdW_two c _ p1 p2]
      rfl
    unfold spec_CountThumbs.f
    rw [e1, bsome, if_pos rfl, e2, bsome]
    dsimp only
    rw [if_pos (by rw [tabW_length]; omega), e3, bsome, if_pos (by omega), if_pos (by omega), hv, if_pos (by omega), if_pos rfl]
theorem countI_ev (s l r : ByteArray) (c : Bool) (hs : s.size ≤ 140737488351232) (hl : l.size ≤ 140737488351232) (hr : r.size ≤ 140737488351232) : Ev (fun k => impl_CountThumbs.f k s l r c) (if bothB s l r = true then ((startN s l r c).2, true) else (0, false)) := by
  obtain ⟨K1, e1⟩ := thumbsOk_ev s l r hs hl hr
  cases hb : bothB s l r with
  | false =>
    refine ⟨K1, fun k hk => ?_⟩
    have e1 := e1 k hk
    rw [hb] at e1
    dsimp only at e1 ⊢
    unfold impl_CountThumbs.f
    rw [e1, bsome]
    rfl
  | true =>
    obtain ⟨hd, h1, h2⟩ := bothB_iff hb
    have p1 := plN_range (oneB_iff.1 h1).2
    have p2 := plN_range (oneB_iff.1 h2).2
    have hsm := startN_small hb c
    obtain ⟨K2, e2⟩ := newLooker_ev s hd c
    refine ⟨K1 + K2, fun k hk => ?_⟩
    have e1 := e1 k (by omega)
    have e2 := e2 k (by omega)
    rw [hb, if_pos rfl] at e1
    dsimp only at e1 e2 ⊢
    have hf := from_is k c (L := placesN s) (i := 0) (placesN_range hd) (by rw [placesN_length]; exact (dialB_iff.1 hd).1) (Nat.zero_le _) p1 p2
    rw [List.drop_zero] at hf
    unfold impl_CountThumbs.f
    rw [e1, bsome]
    dsimp only
    rw [if_pos rfl, e2, bsome, show (impl_looker_from.f k (placesN s, c) 0 (plN (bt l 0)) (plN (bt r 0))) = some (startN s l r c) from hf, bsome, if_neg (by omega), if_pos rfl]
end Go.Proofs.YthnjmokaiiajmaaDoor.Pu

namespace Go.Proofs.YthnjmokaiiajmaaDoor.Pu
open Go.RowKit Go.Proofs.YthnjmokaiiajmaaDoor.P Go.Proofs.YthnjmokaiiajmaaDoorW.PrintWords Go.Proofs.YthnjmokaiiajmaaDoorW.PrintLast Go.Proofs.YthnjmokaiiajmaaDoorW.PrintMore

def upN : Int → Nat → List Int
  | _, 0 => []
  | v, n + 1 => v :: upN (v + 1) n
theorem upN_length (v : Int) (n : Nat) : (upN v n).length = n := by
  induction n generalizing v with
  | zero => rfl
  | succ n ih => rw [upN, List.length_cons, ih]
theorem rd_mid (P : List Int) (v : Int) (R : List Int) : rd (P ++ v :: R) (P.length : Int) = v := by
  unfold rd
  rw [Int.toNat_natCast]
  simp
theorem set_mid (P : List Int) (r v : Int) (R : List Int) : (P ++ r :: R).set P.length v = (P ++ [v]) ++ R := by
  simp
theorem mark_l0 : ∀ (d : Nat) (P R : List Int) (v : Int), R.length = d → 0 ≤ v → v + d ≤ 9223372036854775807 → P.length + d < 9223372036854775807 → Ev (fun k => laws_markIntS.l0 k (P ++ R) v (P.length : Int)) (v + d, P ++ upN v d)
  | 0, P, R, v, hd, h0, h1, h2 => by
    obtain rfl := List.eq_nil_of_length_eq_zero hd
    refine ev_from 0 fun k _ => ?_
    simp only [laws_markIntS.l0]
    rw [if_neg (by simp)]
    simp [upN]
  | d + 1, P, R, v, hd, h0, h1, h2 => by
    match R, hd with
    | r :: R, hd =>
      have hd : R.length = d := by simpa using hd
      obtain ⟨K, ih⟩ := mark_l0 d (P ++ [v]) R (v + 1) hd (by omega) (by omega) (by rw [List.length_append, List.length_singleton]; omega)
      refine ev_from K fun k hk => ?_
      have e := ih k hk
      dsimp only at e
      simp only [laws_markIntS.l0]
      rw [if_pos (by simp only [List.length_append, List.length_cons]; omega), if_pos (by omega), Int.toNat_natCast, set_mid, wr (by omega) (by omega), wr (by omega) (by omega)]
      rw [List.length_append, List.length_singleton, show ((P.length + 1 : Nat) : Int) = (P.length : Int) + 1 from rfl] at e
      rw [e, upN]
      simp only [List.append_assoc, List.singleton_append]
      rw [show v + 1 + (d : Int) = v + ((d + 1 : Nat) : Int) by omega]
theorem mark_ev (L : List Int) (hl : L.length ≤ 1000000) : Ev (fun k => laws_markIntS.f k L 1) (1 + L.length, upN 1 L.length) := by
  obtain ⟨K, e⟩ := mark_l0 L.length [] L 1 rfl (by omega) (by omega) (by simp; omega)
  exact ⟨K, fun k hk => by have e := e k hk; dsimp only at e; unfold laws_markIntS.f; simpa using e⟩
theorem held_l0 : ∀ (d : Nat) (P : List Int) (v : Int), 0 ≤ v → v + d ≤ 9223372036854775807 → P.length + d < 9223372036854775807 → Ev (fun k => laws_heldIntS.l0 k (P ++ upN v d) v (P.length : Int)) (v + d)
  | 0, P, v, h0, h1, h2 => by
    refine ev_from 0 fun k _ => ?_
    simp only [laws_heldIntS.l0]
    rw [if_neg (by simp [upN])]
    simp
  | d + 1, P, v, h0, h1, h2 => by
    obtain ⟨K, ih⟩ := held_l0 d (P ++ [v]) (v + 1) (by omega) (by omega) (by rw [List.length_append, List.length_singleton]; omega)
    refine ev_from K fun k hk => ?_
    have e := ih k hk
    dsimp only at e
    rw [List.length_append, List.length_singleton, show ((P.length + 1 : Nat) : Int) = (P.length : Int) + 1 from rfl, List.append_assoc, List.singleton_append] at e
    simp only [laws_heldIntS.l0]
    rw [upN, if_pos (by simp only [List.length_append, List.length_cons]; omega), if_pos (by omega), rd_mid, if_pos rfl, wr (by omega) (by omega), wr (by omega) (by omega), e]
    rw [show v + 1 + (d : Int) = v + ((d + 1 : Nat) : Int) by omega]
theorem held_ev (n : Nat) (hl : n ≤ 1000000) : Ev (fun k => laws_heldIntS.f k (upN 1 n) 1) (1 + n) := by
  obtain ⟨K, e⟩ := held_l0 n [] 1 (by omega) (by omega) (by simp; omega)
  exact ⟨K, fun k hk => by have e := e k hk; dsimp only at e; unfold laws_heldIntS.f; simpa using e⟩
theorem eqInt_l0 : ∀ (d : Nat) (P R Q : List Int), R.length = d → P.length + d < 9223372036854775807 → R = Q → Ev (fun k => laws_eqIntS.l0 k (P ++ R) (P ++ Q) (P.length : Int)) true
  | 0, P, R, Q, hd, h2, hq => by
    obtain rfl := List.eq_nil_of_length_eq_zero hd
    refine ev_from 0 fun k _ => ?_
    simp only [laws_eqIntS.l0]
    rw [if_neg (by simp)]
  | d + 1, P, R, Q, hd, h2, hq => by
    subst hq
    match R, hd with
    | r :: R, hd =>
      have hd : R.length = d := by simpa using hd
      obtain ⟨K, ih⟩ := eqInt_l0 d (P ++ [r]) R R hd (by rw [List.length_append, List.length_singleton]; omega) rfl
      refine ev_from K fun k hk => ?_
      have e := ih k hk
      dsimp only at e
      rw [List.length_append, List.length_singleton, show ((P.length + 1 : Nat) : Int) = (P.length : Int) + 1 from rfl, List.append_assoc, List.singleton_append] at e
      simp only [laws_eqIntS.l0]
      rw [if_pos (by simp only [List.length_append, List.length_cons]; omega), if_pos (by omega), if_pos (by simp only [List.length_append, List.length_cons]; omega), if_pos trivial, wr (by omega) (by omega), e]
theorem eqInt_ev (L : List Int) (hl : L.length ≤ 1000000) : Ev (fun k => laws_eqIntS.f k L L) true := by
  obtain ⟨K, e⟩ := eqInt_l0 L.length [] L L rfl (by simp; omega) rfl
  exact ⟨K, fun k hk => by have e := e k hk; dsimp only at e ⊢; unfold laws_eqIntS.f; rw [if_pos rfl]; simpa using e⟩
end Go.Proofs.YthnjmokaiiajmaaDoor.Pu

namespace Go.Proofs.YthnjmokaiiajmaaDoor.Pu
open Go.RowKit Go.Proofs.YthnjmokaiiajmaaDoor.P Go.Proofs.YthnjmokaiiajmaaDoorW.PrintWords Go.Proofs.YthnjmokaiiajmaaDoorW.PrintLast Go.Proofs.YthnjmokaiiajmaaDoorW.PrintMore

def firstN (c : Bool) : List Int → Int → Int → List Int
  | [], _, _ => []
  | p :: M, l, r => if (lookN c (p :: M) l r).1 < distN l p c + (lookN c M p r).1 then 1 :: firstN c M l p else 0 :: firstN c M p r
theorem firstN_length (c : Bool) : ∀ (L : List Int) (l r : Int), (firstN c L l r).length = L.length
  | [], _, _ => rfl
  | p :: M, l, r => by
    rw [firstN]
    split
    · rw [List.length_cons, List.length_cons, firstN_length c M l p]
    · rw [List.length_cons, List.length_cons, firstN_length c M p r]
theorem lookN_le (c : Bool) (p : Int) (M : List Int) (l r : Int) : (lookN c (p :: M) l r).1 ≤ distN l p c + (lookN c M p r).1 := by
  rw [lookN]
  split
  · dsimp only
    omega
  · split
    · dsimp only
      omega
    · dsimp only
      omega
theorem firstS_l0 (s : ByteArray) (h : dialB s = true) (c : Bool) : ∀ (d i : Nat) (l r : Int) (out : List Int), i + d = s.size → (0 ≤ l ∧ l ≤ 11) → (0 ≤ r ∧ r ≤ 11) → out.length = i →
    Ev (fun k => spec_FirstThumbs.l0 k s c (tabL s c) (12 * l + r) out (i : Int)) (out ++ firstN c ((placesN s).drop i) l r, true)
  | 0, i, l, r, out, hi, hl, hr, ho => by
    obtain rfl : i = s.size := by omega
    rw [List.drop_eq_nil_of_le (by rw [placesN_length]; exact Nat.le_refl _), firstN, List.append_nil]
    refine ev_from 0 fun k _ => ?_
    simp only [spec_FirstThumbs.l0]
    rw [if_neg (by omega)]
  | d + 1, i, l, r, out, hi, hl, hr, ho => by
    have hs := (dialB_iff.1 h).1
    have hq := (dialB_iff.1 h).2 _ (bt_mem s i (by omega))
    have hp := plN_range hq
    have hL : ∀ q ∈ (placesN s).drop (i + 1), 0 ≤ q ∧ q ≤ 11 := fun q hq => placesN_range h q (List.mem_of_mem_drop hq)
    have hlen : ((placesN s).drop (i + 1)).length ≤ 30 := by rw [List.length_drop, placesN_length]; omega
    have s1 := lookN_small c hL hlen hp hr
    have hle := lookN_le c (plN (bt s (i : Int))) ((placesN s).drop (i + 1)) l r
    have hd := distN_range hl hp c
    rw [drop_places s i (by omega), firstN]
    have ti : rd_L1 (tabL s c) (i : Int) = rowL c (plN (bt s (i : Int)) :: (placesN s).drop (i + 1)) := by
      rw [tabL_at s c (by omega), drop_places s i (by omega)]
    have tj : rd_L1 (tabL s c) ((i : Int) + 1) = rowL c ((placesN s).drop (i + 1)) := tabL_at s c (j := i + 1) (by omega)
    have li : ((rd_L1 (tabL s c) (i : Int)).length : Int) = 144 := by rw [ti, rowL_length]; rfl
    have lj : ((rd_L1 (tabL s c) ((i : Int) + 1)).length : Int) = 144 := by rw [tj, rowL_length]; rfl
    have ri := rdL_two c (plN (bt s (i : Int)) :: (placesN s).drop (i + 1)) hl hr
    have rj := rdL_two c ((placesN s).drop (i + 1)) hp hr
    have td : Int.tdiv (12 * l + r) 12 = l := by rw [Int.tdiv_eq_ediv_of_nonneg (by omega)]; omega
    have tm : Int.tmod (12 * l + r) 12 = r := by rw [Int.tmod_eq_emod_of_nonneg (by omega)]; omega
    have tl := tabL_length s c
    obtain ⟨K1, e1⟩ := thPlace_pad _ hq
    obtain ⟨K2, e2⟩ := thFar_ev (padC_pad hl) hq c
    rw [plN_padC hl] at e2
    by_cases hc : (lookN c (plN (bt s (i : Int)) :: (placesN s).drop (i + 1)) l r).1 < distN l (plN (bt s (i : Int))) c + (lookN c ((placesN s).drop (i + 1)) (plN (bt s (i : Int))) r).1
    · obtain ⟨K, ih⟩ := firstS_l0 s h c d (i + 1) l (plN (bt s (i : Int))) (out ++ [1]) (by omega) hl hp (by rw [List.length_append, List.length_singleton, ho])
      rw [if_pos hc]
      refine ev_from (K + K1 + K2) fun k hk => ?_
      have e := ih k (by omega)
      have e1 := e1 k (by omega)
      have e2 := e2 k (by omega)
      rw [show ((i + 1 : Nat) : Int) = (i : Int) + 1 from rfl] at e
      dsimp only at e e1 e2
      simp only [spec_FirstThumbs.l0]
      rw [if_pos (by omega), if_pos (by omega), e1, bsome, td, tm, wr (x := l) (by omega) (by omega), if_pos (by omega), if_pos (by omega), pad_bt hl, e2, bsome, wr (x := (i : Int) + 1) (by omega) (by omega), wr (x := 12 * plN (bt s (i : Int))) (by omega) (by omega), wr (x := 12 * plN (bt s (i : Int)) + r) (by omega) (by omega), wr (x := 12 * l) (by omega) (by omega), wr (x := 12 * l + plN (bt s (i : Int))) (by omega) (by omega)]
      rw [if_pos (by omega), if_pos (by omega), if_pos (by omega), if_pos (by omega), if_pos (by omega), if_pos (by omega), if_pos (by omega), ti, tj, ri, rj, wr (by omega) (by omega), if_neg (by omega), if_pos (by omega), e, List.append_assoc, List.singleton_append]
    · obtain ⟨K, ih⟩ := firstS_l0 s h c d (i + 1) (plN (bt s (i : Int))) r (out ++ [0]) (by omega) hp hr (by rw [List.length_append, List.length_singleton, ho])
      rw [if_neg hc]
      refine ev_from (K + K1 + K2) fun k hk => ?_
      have e := ih k (by omega)
      have e1 := e1 k (by omega)
      have e2 := e2 k (by omega)
      rw [show ((i + 1 : Nat) : Int) = (i : Int) + 1 from rfl] at e
      dsimp only at e e1 e2
      simp only [spec_FirstThumbs.l0]
      rw [if_pos (by omega), if_pos (by omega), e1, bsome, td, tm, wr (x := l) (by omega) (by omega), if_pos (by omega), if_pos (by omega), pad_bt hl, e2, bsome, wr (x := (i : Int) + 1) (by omega) (by omega), wr (x := 12 * plN (bt s (i : Int))) (by omega) (by omega), wr (x := 12 * plN (bt s (i : Int)) + r) (by omega) (by omega), wr (x := 12 * l) (by omega) (by omega), wr (x := 12 * l + plN (bt s (i : Int))) (by omega) (by omega)]
      rw [if_pos (by omega), if_pos (by omega), if_pos (by omega), if_pos (by omega), if_pos (by omega), if_pos (by omega), if_pos (by omega), ti, tj, ri, rj, wr (by omega) (by omega), if_pos (by omega), if_pos (by omega), e, List.append_assoc, List.singleton_append]
def firstT (s l r : ByteArray) (c : Bool) : List Int × Bool := if bothB s l r = true then (firstN c (placesN s) (plN (bt l 0)) (plN (bt r 0)), true) else ([], false)
theorem firstT_small (s l r : ByteArray) (c : Bool) : (firstT s l r c).1.length ≤ 30 := by
  unfold firstT
  split
  · rename_i h
    show (firstN c (placesN s) _ _).length ≤ 30
    rw [firstN_length, placesN_length]
    exact (dialB_iff.1 (bothB_iff h).1).1
  · simp
theorem firstS_ev (s l r : ByteArray) (c : Bool) : Ev (fun k => spec_FirstThumbs.f k s l r c) (firstT s l r c) := by
  obtain ⟨K1, e1⟩ := thBoth_ev s l r
  unfold firstT
  cases hb : bothB s l r with
  | false =>
    refine ⟨K1, fun k hk => ?_⟩
    have e1 := e1 k hk
    rw [hb] at e1
    dsimp only at e1 ⊢
    unfold spec_FirstThumbs.f
    rw [e1, bsome]
    rfl
  | true =>
    obtain ⟨hd, h1, h2⟩ := bothB_iff hb
    have p1 := plN_range (oneB_iff.1 h1).2
    have p2 := plN_range (oneB_iff.1 h2).2
    obtain ⟨K2, e2⟩ := thTable_ev s hd c
    obtain ⟨K3, e3⟩ := thAt_ev l r h1 h2
    obtain ⟨K4, e4⟩ := firstS_l0 s hd c s.size 0 _ _ [] (by omega) p1 p2 rfl
    refine ⟨K1 + K2 + K3 + K4, fun k hk => ?_⟩
    have e1 := e1 k (by omega)
    have e2 := e2 k (by omega)
    have e3 := e3 k (by omega)
    have e4 := e4 k (by omega)
    rw [hb] at e1
    dsimp only at e1 e2 e3 e4 ⊢
    unfold spec_FirstThumbs.f
    rw [e1, bsome, if_pos rfl, e2, bsome, e3, bsome, if_pos rfl]
    exact e4
theorem firstI_go (c : Bool) {L : List Int} (hL : ∀ p ∈ L, 0 ≤ p ∧ p ≤ 11) (hn : L.length ≤ 30) : ∀ (d i : Nat) (l r : Int) (acc : List Int), i + d = L.length → (0 ≤ l ∧ l ≤ 11) → (0 ≤ r ∧ r ≤ 11) →
    impl_FirstThumbs.go c (L, c) d i l r acc = some (acc ++ firstN c (L.drop i) l r)
  | 0, i, l, r, acc, hi, hl, hr => by
    rw [impl_FirstThumbs.go, List.drop_eq_nil_of_le (by omega), firstN, List.append_nil]
  | d + 1, i, l, r, acc, hi, hl, hr => by
    have hp := hL _ (rd_mem L i (by omega))
    have hM : ∀ q ∈ L.drop (i + 1), 0 ≤ q ∧ q ≤ 11 := fun q hq => hL q (List.mem_of_mem_drop hq)
    have hlen : (L.drop (i + 1)).length ≤ 30 := by rw [List.length_drop]; omega
    have s1 := lookN_small c hM hlen hp hr
    have hd := distN_range hl hp c
    have f0 := from_is 0 c (i := i + 1) (l := rd L (i : Int)) (r := r) hL hn (by omega) hp hr
    have f1 := from_is 0 c (i := i) (l := l) (r := r) hL hn (by omega) hl hr
    rw [show ((i + 1 : Nat) : Int) = (i : Int) + 1 from rfl] at f0
    rw [drop_rd L i (by omega)] at f1 ⊢
    have hg : (L, c).1.getD i 0 = rd L (i : Int) := by
      unfold rd
      rw [Int.toNat_natCast]
    rw [impl_FirstThumbs.go, hg, moved0_is hl hp, bsome]
    dsimp only
    rw [f0, bsome, f1, bsome, wr (x := distN l (rd L (i : Int)) c + (lookN c (L.drop (i + 1)) (rd L (i : Int)) r).1) (by omega) (by omega), firstN]
    by_cases hc : (lookN c (rd L (i : Int) :: L.drop (i + 1)) l r).1 < distN l (rd L (i : Int)) c + (lookN c (L.drop (i + 1)) (rd L (i : Int)) r).1
    · rw [if_pos hc, if_pos hc, moved1_is hr hp, bsome]
      dsimp only
      rw [firstI_go c hL hn d (i + 1) l (rd L (i : Int)) (acc ++ [1]) (by omega) hl hp, List.append_assoc, List.singleton_append]
    · rw [if_neg hc, if_neg hc, firstI_go c hL hn d (i + 1) (rd L (i : Int)) r (acc ++ [0]) (by omega) hp hr, List.append_assoc, List.singleton_append]
theorem firstI_ev (s l r : ByteArray) (c : Bool) (hs : s.size ≤ 140737488351232) (hl : l.size ≤ 140737488351232) (hr : r.size ≤ 140737488351232) : Ev (fun k => impl_FirstThumbs.f k s l r c) (firstT s l r c) := by
  obtain ⟨K1, e1⟩ := thumbsOk_ev s l r hs hl hr
  unfold firstT
  cases hb : bothB s l r with
  | false =>
    refine ⟨K1, fun k hk => ?_⟩
    have e1 := e1 k hk
    rw [hb] at e1
    dsimp only at e1 ⊢
    unfold impl_FirstThumbs.f
    rw [e1, bsome]
    rfl
  | true =>
    obtain ⟨hd, h1, h2⟩ := bothB_iff hb
    have p1 := plN_range (oneB_iff.1 h1).2
    have p2 := plN_range (oneB_iff.1 h2).2
    have hz := (dialB_iff.1 hd).1
    have hpl := placesN_length s
    obtain ⟨K2, e2⟩ := newLooker_ev s hd c
    refine ⟨K1 + K2, fun k hk => ?_⟩
    have e1 := e1 k (by omega)
    have e2 := e2 k (by omega)
    rw [hb, if_pos rfl] at e1
    dsimp only at e1 e2 ⊢
    unfold impl_FirstThumbs.f
    rw [e1, bsome]
    dsimp only
    rw [if_pos rfl, e2, bsome]
    dsimp only
    rw [if_pos (by omega), firstI_go c (placesN_range hd) (by omega) (placesN s).length 0 _ _ [] (by omega) p1 p2, bsome, if_pos rfl]
    rfl
end Go.Proofs.YthnjmokaiiajmaaDoor.Pu

namespace Go.Proofs.YthnjmokaiiajmaaDoor.Pure
open Go.RowKit Go.Proofs.YthnjmokaiiajmaaDoor.P Go.Proofs.YthnjmokaiiajmaaDoor.Pu Go.Proofs.YthnjmokaiiajmaaDoorW.PrintWords Go.Proofs.YthnjmokaiiajmaaDoorW.PrintLast

theorem FnExactFirstThumbs : laws_FnExactFirstThumbs.Pure := by
  intro s l r c hs hl hr
  by_cases h1 : (s.size : Int) > 1048576
  · exact ⟨0, by unfold laws_FnExactFirstThumbs.f; rw [if_pos h1]⟩
  by_cases h2 : (l.size : Int) > 1048576
  · exact ⟨0, by unfold laws_FnExactFirstThumbs.f; rw [if_neg h1, if_pos h2]⟩
  by_cases h3 : (r.size : Int) > 1048576
  · exact ⟨0, by unfold laws_FnExactFirstThumbs.f; rw [if_neg h1, if_neg h2, if_pos h3]⟩
  have hsm := firstT_small s l r c
  obtain ⟨K1, e1⟩ := firstS_ev s l r c
  obtain ⟨K2, e2⟩ := firstI_ev s l r c hs hl hr
  obtain ⟨K3, e3⟩ := eqInt_ev (firstT s l r c).1 (by omega)
  obtain ⟨K4, e4⟩ := mark_ev (firstT s l r c).1 (by omega)
  obtain ⟨K5, e5⟩ := held_ev (firstT s l r c).1.length (by omega)
  generalize hK : K1 + K2 + K3 + K4 + K5 = K
  refine ⟨K + 2, ?_⟩
  have a1 := e1 (K + 2) (by omega)
  have a2 := e2 (K + 2) (by omega)
  have a3 := e3 (K + 2) (by omega)
  have b2 := e2 (K + 1) (by omega)
  have b3 := e3 (K + 1) (by omega)
  have b4 := e4 (K + 1) (by omega)
  have b5 := e5 (K + 1) (by omega)
  have c5 := e5 K (by omega)
  dsimp only at a1 a2 a3 b2 b3 b4 b5 c5
  unfold laws_FnExactFirstThumbs.f
  rw [if_neg h1, if_neg h2, if_neg h3, a1, bsome, a2, bsome, a3, bsome, if_pos rfl]
  simp only [laws_FnExactFirstThumbs.j0]
  rw [if_neg (by simp), b4, bsome, b5, bsome, if_neg (by omega), if_pos rfl, b2, bsome, b3, bsome, if_pos rfl]
  simp only [laws_FnExactFirstThumbs.j1]
  rw [if_neg (by simp), c5, bsome, if_neg (by omega), if_pos rfl]
end Go.Proofs.YthnjmokaiiajmaaDoor.Pure

