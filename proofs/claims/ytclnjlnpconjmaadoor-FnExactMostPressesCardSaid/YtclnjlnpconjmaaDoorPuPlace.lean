/-
  Places of words in lists; presses with a next key. Conditions: each lemma's own.
-/
import Derived.Test.YtclnjlnpconjmaaDoorPx3
import Derived.Test.YtclnjlnpconjmaaDoorPx4
import Derived.Test.YtclnjlnpconjmaaDoorPuPicks
namespace Go.Proofs.YtclnjlnpconjmaaDoor.Pu
open Go.RowKit Go.Proofs.YtclnjlnpconjmaaDoor.P Go.Proofs.YtclnjlnpconjmaaDoorW.PrintWords Go.Proofs.YtclnjlnpconjmaaDoorW.PrintLast Go.Proofs.YtclnjlnpconjmaaDoorW.PrintMore Go.Proofs.YtclnjlnpconjmaaDoor.Pick

/-- The place of a string in a list, told from one number on; -1 where it is not. -/
def placeS (x : ByteArray) : List ByteArray → Int → Int
  | [], _ => -1
  | y :: L, i => if y.toList = x.toList then i else placeS x L (i + 1)
def hasS (x : ByteArray) (L : List ByteArray) : Bool := L.any fun y => decide (y.toList = x.toList)
theorem index_l0 (x : ByteArray) (L : List ByteArray) (hl : L.length ≤ 1099511627776) : ∀ (d i : Nat), i + d = L.length → Ev (fun k => slices_Index_string_string.l0 k L x L.length i) (placeS x (L.drop i) i)
  | 0, i, hi => by
    obtain rfl : i = L.length := by omega
    rw [List.drop_length]
    refine ev_from 0 fun k _ => ?_
    simp only [slices_Index_string_string.l0]
    rw [if_neg (by omega)]
    rfl
  | d + 1, i, hi => by
    obtain ⟨K, ih⟩ := index_l0 x L hl d (i + 1) (by omega)
    rw [rds_drop L i (by omega), placeS]
    refine ev_from K fun k hk => ?_
    have e := ih k hk
    rw [show ((i + 1 : Nat) : Int) = (i : Int) + 1 from rfl] at e
    dsimp only at e
    simp only [slices_Index_string_string.l0]
    rw [if_pos (by omega), if_pos (by omega), if_pos (by omega), wr (by omega) (by omega), e]
    by_cases hy : (rdOf ByteArray.empty L i).toList = x.toList
    · rw [if_pos hy, if_pos hy.symm]
    · rw [if_neg hy, if_neg (fun h => hy h.symm)]
theorem index_ev (x : ByteArray) (L : List ByteArray) (hl : L.length ≤ 1099511627776) : Ev (fun k => slices_Index_string_string.f k L x) (placeS x L 0) := by
  obtain ⟨K, e⟩ := index_l0 x L hl L.length 0 (by omega)
  exact ⟨K, fun k hk => by have e := e k hk; dsimp only at e; unfold slices_Index_string_string.f; simpa using e⟩
def listedB (L : List ByteArray) (x : ByteArray) : Bool := dictB L && hasS x L
theorem listed_short {L : List ByteArray} {x : ByteArray} (h : listedB L x = true) : dictB L = true ∧ shortB x = true := by
  unfold listedB hasS at h
  rw [Bool.and_eq_true, List.any_eq_true] at h
  obtain ⟨hd, y, hy, he⟩ := h
  obtain rfl : y = x := toList_bytes.1 (of_decide_eq_true he)
  exact ⟨hd, dict_short hd y hy⟩

/-! ### presses with a next key -/
def nextN (L : List ByteArray) (x : ByteArray) : Int := (x.size : Int) + placeS x (L.filter (justP (keysN x))) 0
theorem placeS_mem (x : ByteArray) : ∀ (L : List ByteArray) (i : Int), hasS x L = true → i ≤ placeS x L i ∧ placeS x L i < i + L.length
  | [], _, h => by simp [hasS] at h
  | y :: L, i, h => by
    unfold hasS at h
    rw [List.any_cons, Bool.or_eq_true] at h
    rw [placeS, List.length_cons]
    by_cases hy : y.toList = x.toList
    · rw [if_pos hy]; omega
    · rw [if_neg hy]
      have := placeS_mem x L (i + 1) (by
        rcases h with h | h
        · exact absurd (of_decide_eq_true h) hy
        · exact h)
      omega
theorem just_has {L : List ByteArray} {x : ByteArray} (h : listedB L x = true) : hasS x (L.filter (justP (keysN x))) = true := by
  unfold listedB hasS at h
  rw [Bool.and_eq_true, List.any_eq_true] at h
  obtain ⟨_, y, hy, he⟩ := h
  obtain rfl : y = x := toList_bytes.1 (of_decide_eq_true he)
  unfold hasS
  rw [List.any_eq_true]
  exact ⟨y, List.mem_filter.2 ⟨hy, beq_iff_eq.2 rfl⟩, decide_eq_true rfl⟩
theorem wdPresses_l0 (x : ByteArray) (hx : x.size ≤ 1000) (L : List ByteArray) (hl : L.length ≤ 1000) : ∀ (d i : Nat), i + d = L.length → hasS x (L.drop i) = true → Ev (fun k => spec_wdPresses.l0 k x ((x.size : Int) + i) L L.length i) ((x.size : Int) + placeS x (L.drop i) i)
  | 0, i, hi, hh => by
    obtain rfl : i = L.length := by omega
    rw [List.drop_length] at hh
    simp [hasS] at hh
  | d + 1, i, hi, hh => by
    rw [rds_drop L i (by omega)] at hh ⊢
    rw [placeS]
    by_cases hy : (rdOf ByteArray.empty L i).toList = x.toList
    · refine ev_from 0 fun k _ => ?_
      simp only [spec_wdPresses.l0]
      rw [if_pos (by omega), if_pos (by omega), if_pos (by omega), if_pos hy, if_pos hy]
    · unfold hasS at hh
      rw [List.any_cons, decide_eq_false hy, Bool.false_or] at hh
      obtain ⟨K, ih⟩ := wdPresses_l0 x hx L hl d (i + 1) (by omega) hh
      rw [if_neg hy]
      refine ev_from K fun k hk => ?_
      have e := ih k hk
      rw [show ((i + 1 : Nat) : Int) = (i : Int) + 1 from rfl] at e
      dsimp only at e
      simp only [spec_wdPresses.l0]
      rw [if_pos (by omega), if_pos (by omega), if_pos (by omega), if_neg hy, wr (x := (x.size : Int) + i + 1) (by omega) (by omega), wr (by omega) (by omega), Int.add_assoc, e]
theorem wdPresses_ev (L : List ByteArray) (x : ByteArray) (hb : listedB L x = true) : Ev (fun k => spec_wdPresses.f k L x) (nextN L x) := by
  obtain ⟨hd, hs⟩ := listed_short hb
  have hz := short_size hs
  have hl := dict_length hd
  obtain ⟨K1, h1⟩ := prKeys_ev x (by omega) (short_low hs)
  obtain ⟨K2, h2⟩ := wdBegins_ev L hd (keysN x) (by rw [keysN_size]; omega) true
  rw [show begP true (keysN x) = justP (keysN x) from rfl] at h2
  have hf := List.length_filter_le (justP (keysN x)) L
  obtain ⟨K3, h3⟩ := wdPresses_l0 x (by omega) (L.filter (justP (keysN x))) (by omega) _ 0 (by rw [Nat.zero_add]) (by rw [List.drop_zero]; exact just_has hb)
  refine ⟨K1 + K2 + K3, fun k hk => ?_⟩
  have e1 := h1 k (by omega)
  have e2 := h2 k (by omega)
  have e3 := h3 k (by omega)
  dsimp only at e1 e2 e3 ⊢
  unfold spec_wdPresses.f nextN
  rw [e1, bsome, e2, bsome]
  rw [show ((0 : Nat) : Int) = 0 from rfl, Int.add_zero, List.drop_zero] at e3
  exact e3
theorem withNext_ev (L : List ByteArray) (x : ByteArray) (hb : listedB L x = true) : Ev (fun k => impl_withNext.f k L x) (nextN L x) := by
  obtain ⟨hd, hs⟩ := listed_short hb
  have hz := short_size hs
  have hl := dict_length hd
  obtain ⟨K1, h1⟩ := keysOf_ev x (by omega) (short_low hs)
  obtain ⟨K2, h2⟩ := wordsFor_ev L hd (keysN x)
  have hf := List.length_filter_le (justP (keysN x)) L
  obtain ⟨K3, h3⟩ := index_ev x (L.filter (justP (keysN x))) (by omega)
  have hp := placeS_mem x _ 0 (just_has hb)
  refine ⟨K1 + K2 + K3, fun k hk => ?_⟩
  have e1 := h1 k (by omega)
  have e2 := h2 k (by omega)
  have e3 := h3 k (by omega)
  dsimp only at e1 e2 e3 ⊢
  unfold impl_withNext.f nextN
  rw [e1, bsome, e2, bsome, e3, bsome, wr (by omega) (by omega)]
end Go.Proofs.YtclnjlnpconjmaaDoor.Pu
