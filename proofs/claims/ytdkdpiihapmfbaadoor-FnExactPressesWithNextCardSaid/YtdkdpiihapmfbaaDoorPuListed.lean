/-
  Words of a dictionary: whether one is there, and where; after how many keys a word is sure; presses with a next key. Conditions: each lemma's own.
-/
import Derived.Test.YtdkdpiihapmfbaaDoorPx6
import Derived.Test.YtdkdpiihapmfbaaDoorPx13
import Derived.Test.YtdkdpiihapmfbaaDoorPx14
import Derived.Test.YtdkdpiihapmfbaaDoorPuPicks
namespace Go.Proofs.YtdkdpiihapmfbaaDoor.Pu
open Go.RowKit Go.Proofs.YtdkdpiihapmfbaaDoor.P Go.Proofs.YtdkdpiihapmfbaaDoorW.PrintWords Go.Proofs.YtdkdpiihapmfbaaDoorW.PrintLast Go.Proofs.YtdkdpiihapmfbaaDoorW.PrintMore Go.Proofs.YtdkdpiihapmfbaaDoor.Pick

/-- The place of a string in a list, told from one number on; -1 where it is not. -/
def placeS (x : ByteArray) : List ByteArray → Int → Int
  | [], _ => -1
  | y :: L, i => if y.toList = x.toList then i else placeS x L (i + 1)
def hasS (x : ByteArray) (L : List ByteArray) : Bool := L.any fun y => decide (y.toList = x.toList)
theorem placeS_has (x : ByteArray) : ∀ (L : List ByteArray) (i : Int), 0 ≤ i → (decide (placeS x L i ≥ 0)) = hasS x L
  | [], _, _ => rfl
  | y :: L, i, h => by
    unfold hasS
    rw [placeS, List.any_cons]
    by_cases hy : y.toList = x.toList
    · rw [if_pos hy, decide_eq_true hy, decide_eq_true (show i ≥ 0 from h)]; rfl
    · rw [if_neg hy, decide_eq_false hy, Bool.false_or]
      exact placeS_has x L (i + 1) (by omega)
theorem index_l0 (x : ByteArray) (L : List ByteArray) (hl : L.length ≤ 1099511627776) : ∀ (d i : Nat), i + d = L.length → Ev (fun k => slices_Index_string_string.l0 k L x L.length i) (placeS x (L.drop i) i)
  | 0, i, hi => by
    obtain rfl : i = L.length := by omega
    rw [List.drop_length]
    refine ev_from 0 fun k _ => ?_
    simp only [slices_Index_string_string.l0]
    rw [if_neg (by omega)]
    rfl
  | d + 1, i, hi => by
    obtain ⟨K, ih⟩ := index_l0 x L hl d (i + 1) (by omega)
    rw [rds_drop L i (by omega), placeS]
    refine ev_from K fun k hk => ?_
    have e := ih k hk
    rw [show ((i + 1 : Nat) : Int) = (i : Int) + 1 from rfl] at e
    dsimp only at e
    simp only [slices_Index_string_string.l0]
    rw [if_pos (by omega), if_pos (by omega), if_pos (by omega), wr (by omega) (by omega), e]
    by_cases hy : (rdOf ByteArray.empty L i).toList = x.toList
    · rw [if_pos hy, if_pos hy.symm]
    · rw [if_neg hy, if_neg (fun h => hy h.symm)]
theorem index_ev (x : ByteArray) (L : List ByteArray) (hl : L.length ≤ 1099511627776) : Ev (fun k => slices_Index_string_string.f k L x) (placeS x L 0) := by
  obtain ⟨K, e⟩ := index_l0 x L hl L.length 0 (by omega)
  exact ⟨K, fun k hk => by have e := e k hk; dsimp only at e; unfold slices_Index_string_string.f; simpa using e⟩
theorem hasS_l0 (x : ByteArray) (L : List ByteArray) (hl : L.length ≤ 1099511627776) : ∀ (d i : Nat), i + d = L.length → Ev (fun k => spec_l1HasS.l0 k x L L.length i) (hasS x (L.drop i))
  | 0, i, hi => by
    obtain rfl : i = L.length := by omega
    rw [List.drop_length]
    refine ev_from 0 fun k _ => ?_
    simp only [spec_l1HasS.l0]
    rw [if_neg (by omega)]
    rfl
  | d + 1, i, hi => by
    obtain ⟨K, ih⟩ := hasS_l0 x L hl d (i + 1) (by omega)
    rw [rds_drop L i (by omega)]
    refine ev_from K fun k hk => ?_
    have e := ih k hk
    rw [show ((i + 1 : Nat) : Int) = (i : Int) + 1 from rfl] at e
    dsimp only at e
    simp only [spec_l1HasS.l0]
    rw [if_pos (by omega), if_pos (by omega), if_pos (by omega), wr (by omega) (by omega), e]
    unfold hasS
    rw [List.any_cons]
    by_cases hy : (rdOf ByteArray.empty L i).toList = x.toList
    · rw [if_pos hy, decide_eq_true hy]; rfl
    · rw [if_neg hy, decide_eq_false hy]; rfl
def listedB (L : List ByteArray) (x : ByteArray) : Bool := dictB L && hasS x L
theorem listed_ev (L : List ByteArray) (hl : L.length ≤ 1099511627776) (hL : ∀ x ∈ L, x.size ≤ 140737488351232) (x : ByteArray) : Ev (fun k => impl_listed.f k L x) (listedB L x) := by
  obtain ⟨K1, e1⟩ := isDict_ev L hl hL
  obtain ⟨K2, e2⟩ := index_ev x L hl
  refine ⟨K1 + K2, fun k hk => ?_⟩
  have e1 := e1 k (by omega)
  have e2 := e2 k (by omega)
  dsimp only at e1 e2 ⊢
  unfold impl_listed.f slices_Contains_string_string.f listedB
  rw [e1, bsome]
  cases dictB L with
  | false => rfl
  | true => rw [if_pos rfl, e2, bsome, bsome, placeS_has x L 0 (Int.le_refl 0)]; rfl
theorem wdHas_ev (L : List ByteArray) (hl : L.length ≤ 1099511627776) (hL : ∀ x ∈ L, x.size ≤ 140737488351232) (x : ByteArray) : Ev (fun k => spec_wdHas.f k L x) (listedB L x) := by
  obtain ⟨K1, e1⟩ := wdGood_ev L hl hL
  obtain ⟨K2, e2⟩ := hasS_l0 x L hl L.length 0 (by omega)
  refine ⟨K1 + K2, fun k hk => ?_⟩
  have e1 := e1 k (by omega)
  have e2 := e2 k (by omega)
  dsimp only at e1 e2 ⊢
  unfold spec_wdHas.f spec_l1HasS.f listedB
  rw [e1, bsome]
  rw [show ((0 : Nat) : Int) = 0 from rfl, List.drop_zero] at e2
  cases dictB L with
  | false => rfl
  | true => rw [if_pos rfl, e2, bsome]; rfl
theorem listed_short {L : List ByteArray} {x : ByteArray} (h : listedB L x = true) : dictB L = true ∧ shortB x = true := by
  unfold listedB hasS at h
  rw [Bool.and_eq_true, List.any_eq_true] at h
  obtain ⟨hd, y, hy, he⟩ := h
  obtain rfl : y = x := toList_bytes.1 (of_decide_eq_true he)
  exact ⟨hd, dict_short hd y hy⟩

/-! ### sure after so many keys -/
def sureN (L : List ByteArray) (keys : ByteArray) : Nat → Nat → Int × Bool
  | 0, _ => (0, false)
  | d + 1, n => if ((L.filter (headP (keys.extract 0 n))).length : Int) = 1 then ((n : Int), true) else sureN L keys d (n + 1)
theorem sureI_l0 (L : List ByteArray) (hd : dictB L = true) (keys : ByteArray) (hk : keys.size ≤ 1000) : ∀ (d n : Nat), n + d = keys.size + 1 → Ev (fun k => impl_SureAfter.l0 k L keys n) (sureN L keys d n)
  | 0, n, hn => by
    refine ev_from 0 fun k _ => ?_
    simp only [impl_SureAfter.l0]
    rw [if_neg (by omega)]
    rfl
  | d + 1, n, hn => by
    obtain ⟨K0, e0⟩ := beginning_ev L hd (keys.extract 0 n)
    obtain ⟨K, ih⟩ := sureI_l0 L hd keys hk d (n + 1) (by omega)
    refine ev_from (K0 + K) fun k hk => ?_
    have e := ih k (by omega)
    have e0 := e0 k (by omega)
    rw [show ((n + 1 : Nat) : Int) = (n : Int) + 1 from rfl] at e
    dsimp only at e e0
    simp only [impl_SureAfter.l0, sureN]
    rw [if_pos (by omega), if_pos (by omega), Int.toNat_natCast, e0, bsome, wr (by omega) (by omega), e]
    split <;> rfl
theorem sureS_l0 (L : List ByteArray) (hd : dictB L = true) (keys : ByteArray) (hk : keys.size ≤ 1000) : ∀ (d n : Nat), n + d = keys.size + 1 → Ev (fun k => spec_SureAfter.l0 k L keys n) (sureN L keys d n)
  | 0, n, hn => by
    refine ev_from 0 fun k _ => ?_
    simp only [spec_SureAfter.l0]
    rw [if_neg (by omega)]
    rfl
  | d + 1, n, hn => by
    obtain ⟨K0, e0⟩ := wdBegins_ev L hd (keys.extract 0 n) (by rw [ByteArray.size_extract]; omega) false
    obtain ⟨K, ih⟩ := sureS_l0 L hd keys hk d (n + 1) (by omega)
    refine ev_from (K0 + K) fun k hk => ?_
    have e := ih k (by omega)
    have e0 := e0 k (by omega)
    rw [show ((n + 1 : Nat) : Int) = (n : Int) + 1 from rfl] at e
    dsimp only at e e0
    simp only [spec_SureAfter.l0, sureN]
    rw [if_pos (by omega), if_pos (by omega), Int.toNat_natCast, e0, bsome, wr (by omega) (by omega), e]
    rw [show begP false (keys.extract 0 n) = headP (keys.extract 0 n) from rfl]
    split <;> rfl
def sureT (L : List ByteArray) (x : ByteArray) : Int × Bool := if listedB L x = true then sureN L (keysN x) (keysN x).size 1 else (0, false)
theorem sureI_ev (L : List ByteArray) (hl : L.length ≤ 1099511627776) (hL : ∀ x ∈ L, x.size ≤ 140737488351232) (x : ByteArray) : Ev (fun k => impl_SureAfter.f k L x) (sureT L x) := by
  obtain ⟨K1, h1⟩ := listed_ev L hl hL x
  unfold sureT
  cases hb : listedB L x with
  | false =>
    refine ⟨K1, fun k hk => ?_⟩
    have e1 := h1 k (by omega)
    rw [hb] at e1
    dsimp only at e1 ⊢
    unfold impl_SureAfter.f
    rw [e1, bsome]
    rfl
  | true =>
    obtain ⟨hd, hs⟩ := listed_short hb
    have hz := short_size hs
    obtain ⟨K2, h2⟩ := keysOf_ev x (by omega) (short_low hs)
    obtain ⟨K3, h3⟩ := sureI_l0 L hd (keysN x) (by rw [keysN_size]; omega) (keysN x).size 1 (by omega)
    refine ⟨K1 + K2 + K3, fun k hk => ?_⟩
    have e1 := h1 k (by omega)
    have e2 := h2 k (by omega)
    have e3 := h3 k (by omega)
    rw [hb] at e1
    dsimp only at e1 e2 e3 ⊢
    unfold impl_SureAfter.f
    rw [e1, bsome, if_pos rfl, e2, bsome]
    exact e3
theorem sureS_ev (L : List ByteArray) (hl : L.length ≤ 1099511627776) (hL : ∀ x ∈ L, x.size ≤ 140737488351232) (x : ByteArray) : Ev (fun k => spec_SureAfter.f k L x) (sureT L x) := by
  obtain ⟨K1, h1⟩ := wdHas_ev L hl hL x
  unfold sureT
  cases hb : listedB L x with
  | false =>
    refine ⟨K1, fun k hk => ?_⟩
    have e1 := h1 k (by omega)
    rw [hb] at e1
    dsimp only at e1 ⊢
    unfold spec_SureAfter.f
    rw [e1, bsome]
    rfl
  | true =>
    obtain ⟨hd, hs⟩ := listed_short hb
    have hz := short_size hs
    obtain ⟨K2, h2⟩ := prKeys_ev x (by omega) (short_low hs)
    obtain ⟨K3, h3⟩ := sureS_l0 L hd (keysN x) (by rw [keysN_size]; omega) (keysN x).size 1 (by omega)
    refine ⟨K1 + K2 + K3, fun k hk => ?_⟩
    have e1 := h1 k (by omega)
    have e2 := h2 k (by omega)
    have e3 := h3 k (by omega)
    rw [hb] at e1
    dsimp only at e1 e2 e3 ⊢
    unfold spec_SureAfter.f
    rw [e1, bsome, if_pos rfl, e2, bsome]
    exact e3

/-! ### presses with a next key -/
def nextN (L : List ByteArray) (x : ByteArray) : Int := (x.size : Int) + placeS x (L.filter (justP (keysN x))) 0
theorem placeS_mem (x : ByteArray) : ∀ (L : List ByteArray) (i : Int), hasS x L = true → i ≤ placeS x L i ∧ placeS x L i < i + L.length
  | [], _, h => by simp [hasS] at h
  | y :: L, i, h => by
    unfold hasS at h
    rw [List.any_cons, Bool.or_eq_true] at h
    rw [placeS, List.length_cons]
    by_cases hy : y.toList = x.toList
    · rw [if_pos hy]; omega
    · rw [if_neg hy]
      have := placeS_mem x L (i + 1) (by
        rcases h with h | h
        · exact absurd (of_decide_eq_true h) hy
        · exact h)
      omega
theorem just_has {L : List ByteArray} {x : ByteArray} (h : listedB L x = true) : hasS x (L.filter (justP (keysN x))) = true := by
  unfold listedB hasS at h
  rw [Bool.and_eq_true, List.any_eq_true] at h
  obtain ⟨_, y, hy, he⟩ := h
  obtain rfl : y = x := toList_bytes.1 (of_decide_eq_true he)
  unfold hasS
  rw [List.any_eq_true]
  exact ⟨y, List.mem_filter.2 ⟨hy, beq_iff_eq.2 rfl⟩, decide_eq_true rfl⟩
theorem wdPresses_l0 (x : ByteArray) (hx : x.size ≤ 1000) (L : List ByteArray) (hl : L.length ≤ 1000) : ∀ (d i : Nat), i + d = L.length → hasS x (L.drop i) = true → Ev (fun k => spec_wdPresses.l0 k x ((x.size : Int) + i) L L.length i) ((x.size : Int) + placeS x (L.drop i) i)
  | 0, i, hi, hh => by
    obtain rfl : i = L.length := by omega
    rw [List.drop_length] at hh
    simp [hasS] at hh
  | d + 1, i, hi, hh => by
    rw [rds_drop L i (by omega)] at hh ⊢
    rw [placeS]
    by_cases hy : (rdOf ByteArray.empty L i).toList = x.toList
    · refine ev_from 0 fun k _ => ?_
      simp only [spec_wdPresses.l0]
      rw [if_pos (by omega), if_pos (by omega), if_pos (by omega), if_pos hy, if_pos hy]
    · unfold hasS at hh
      rw [List.any_cons, decide_eq_false hy, Bool.false_or] at hh
      obtain ⟨K, ih⟩ := wdPresses_l0 x hx L hl d (i + 1) (by omega) hh
      rw [if_neg hy]
      refine ev_from K fun k hk => ?_
      have e := ih k hk
      rw [show ((i + 1 : Nat) : Int) = (i : Int) + 1 from rfl] at e
      dsimp only at e
      simp only [spec_wdPresses.l0]
      rw [if_pos (by omega), if_pos (by omega), if_pos (by omega), if_neg hy, wr (x := (x.size : Int) + i + 1) (by omega) (by omega), wr (by omega) (by omega), Int.add_assoc, e]
theorem wdPresses_ev (L : List ByteArray) (x : ByteArray) (hb : listedB L x = true) : Ev (fun k => spec_wdPresses.f k L x) (nextN L x) := by
  obtain ⟨hd, hs⟩ := listed_short hb
  have hz := short_size hs
  have hl := dict_length hd
  obtain ⟨K1, h1⟩ := prKeys_ev x (by omega) (short_low hs)
  obtain ⟨K2, h2⟩ := wdBegins_ev L hd (keysN x) (by rw [keysN_size]; omega) true
  rw [show begP true (keysN x) = justP (keysN x) from rfl] at h2
  have hf := List.length_filter_le (justP (keysN x)) L
  obtain ⟨K3, h3⟩ := wdPresses_l0 x (by omega) (L.filter (justP (keysN x))) (by omega) _ 0 (by rw [Nat.zero_add]) (by rw [List.drop_zero]; exact just_has hb)
  refine ⟨K1 + K2 + K3, fun k hk => ?_⟩
  have e1 := h1 k (by omega)
  have e2 := h2 k (by omega)
  have e3 := h3 k (by omega)
  dsimp only at e1 e2 e3 ⊢
  unfold spec_wdPresses.f nextN
  rw [e1, bsome, e2, bsome]
  rw [show ((0 : Nat) : Int) = 0 from rfl, Int.add_zero, List.drop_zero] at e3
  exact e3
theorem withNext_ev (L : List ByteArray) (x : ByteArray) (hb : listedB L x = true) : Ev (fun k => impl_withNext.f k L x) (nextN L x) := by
  obtain ⟨hd, hs⟩ := listed_short hb
  have hz := short_size hs
  have hl := dict_length hd
  obtain ⟨K1, h1⟩ := keysOf_ev x (by omega) (short_low hs)
  obtain ⟨K2, h2⟩ := wordsFor_ev L hd (keysN x)
  have hf := List.length_filter_le (justP (keysN x)) L
  obtain ⟨K3, h3⟩ := index_ev x (L.filter (justP (keysN x))) (by omega)
  have hp := placeS_mem x _ 0 (just_has hb)
  refine ⟨K1 + K2 + K3, fun k hk => ?_⟩
  have e1 := h1 k (by omega)
  have e2 := h2 k (by omega)
  have e3 := h3 k (by omega)
  dsimp only at e1 e2 e3 ⊢
  unfold impl_withNext.f nextN
  rw [e1, bsome, e2, bsome, e3, bsome, wr (by omega) (by omega)]
def nextT (L : List ByteArray) (x : ByteArray) : Int × Bool := if listedB L x = true then (nextN L x, true) else (0, false)
theorem nextI_ev (L : List ByteArray) (hl : L.length ≤ 1099511627776) (hL : ∀ x ∈ L, x.size ≤ 140737488351232) (x : ByteArray) : Ev (fun k => impl_PressesWithNext.f k L x) (nextT L x) := by
  obtain ⟨K1, h1⟩ := listed_ev L hl hL x
  unfold nextT
  cases hb : listedB L x with
  | false =>
    refine ⟨K1, fun k hk => ?_⟩
    have e1 := h1 k (by omega)
    rw [hb] at e1
    dsimp only at e1 ⊢
    unfold impl_PressesWithNext.f
    rw [e1, bsome]
    rfl
  | true =>
    obtain ⟨K2, h2⟩ := withNext_ev L x hb
    refine ⟨K1 + K2, fun k hk => ?_⟩
    have e1 := h1 k (by omega)
    have e2 := h2 k (by omega)
    rw [hb] at e1
    dsimp only at e1 e2 ⊢
    unfold impl_PressesWithNext.f
    rw [e1, bsome, if_pos rfl, e2, bsome]
    rfl
theorem nextS_ev (L : List ByteArray) (hl : L.length ≤ 1099511627776) (hL : ∀ x ∈ L, x.size ≤ 140737488351232) (x : ByteArray) : Ev (fun k => spec_PressesWithNext.f k L x) (nextT L x) := by
  obtain ⟨K1, h1⟩ := wdHas_ev L hl hL x
  unfold nextT
  cases hb : listedB L x with
  | false =>
    refine ⟨K1, fun k hk => ?_⟩
    have e1 := h1 k (by omega)
    rw [hb] at e1
    dsimp only at e1 ⊢
    unfold spec_PressesWithNext.f
    rw [e1, bsome]
    rfl
  | true =>
    obtain ⟨K2, h2⟩ := wdPresses_ev L x hb
    refine ⟨K1 + K2, fun k hk => ?_⟩
    have e1 := h1 k (by omega)
    have e2 := h2 k (by omega)
    rw [hb] at e1
    dsimp only at e1 e2 ⊢
    unfold spec_PressesWithNext.f
    rw [e1, bsome, if_pos rfl, e2, bsome]
    rfl
end Go.Proofs.YtdkdpiihapmfbaaDoor.Pu
