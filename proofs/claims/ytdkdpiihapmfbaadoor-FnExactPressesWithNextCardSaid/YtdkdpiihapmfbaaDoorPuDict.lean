/-
  Dictionaries: words of few letters in strict order. Conditions: each lemma's own.
-/
import Derived.Test.YtdkdpiihapmfbaaDoorPx1
import Derived.Test.YtdkdpiihapmfbaaDoorPx2
import Derived.Test.YtdkdpiihapmfbaaDoorPuWord
import Derived.Test.YtdkdpiihapmfbaaDoorPuStrings
namespace Go.Proofs.YtdkdpiihapmfbaaDoor.Pu
open Go.RowKit Go.Proofs.YtdkdpiihapmfbaaDoor.P Go.Proofs.YtdkdpiihapmfbaaDoorW.PrintWords Go.Proofs.YtdkdpiihapmfbaaDoorW.PrintLast Go.Proofs.YtdkdpiihapmfbaaDoorW.PrintMore

def shortB (s : ByteArray) : Bool := wordB s && decide (s.size ≤ 10)
theorem short_is (s : ByteArray) (hs : s.size ≤ 140737488351232) : impl_short.f s = some (shortB s) := by
  unfold impl_short.f shortB
  rw [isWord_is s hs, bsome]
  cases wordB s with
  | false => rfl
  | true => rw [if_pos rfl, Bool.true_and, decide_eq_decide.2 (show (s.size : Int) ≤ 10 ↔ s.size ≤ 10 by omega)]
theorem wdWord_ev (s : ByteArray) (hs : s.size ≤ 140737488351232) : Ev (fun k => spec_wdWord.f k s) (shortB s) := by
  obtain ⟨K, e⟩ := prWord_ev s hs
  refine ⟨K, fun k hk => ?_⟩
  have e := e k hk
  dsimp only at e ⊢
  unfold spec_wdWord.f shortB
  rw [e, bsome]
  cases wordB s with
  | false => rfl
  | true => rw [if_pos rfl, Bool.true_and, decide_eq_decide.2 (show (s.size : Int) ≤ 10 ↔ s.size ≤ 10 by omega)]
def lessB (s t : ByteArray) : Bool := Op.bytesLess s.toList t.toList
/-- Words of few letters, from one place on each behind the one before. -/
def goodN (L : List ByteArray) : Nat → Nat → Bool
  | 0, _ => true
  | d + 1, i => shortB (rdOf ByteArray.empty L i) && ((decide (i = 0) || lessB (rdOf ByteArray.empty L ((i : Int) - 1)) (rdOf ByteArray.empty L i)) && goodN L d (i + 1))
def lenL (L : List ByteArray) : Bool := decide (1 ≤ (L.length : Int)) && decide ((L.length : Int) ≤ 12)
theorem wdGood_l0 (L : List ByteArray) (hl : L.length ≤ 1099511627776) (hL : ∀ x ∈ L, x.size ≤ 140737488351232) : ∀ (d i : Nat), i + d = L.length → Ev (fun k => spec_wdGood.l0 k L L L.length i) (goodN L d i)
  | 0, i, hi => by
    obtain rfl : i = L.length := by omega
    refine ev_from 0 fun k _ => ?_
    simp only [spec_wdGood.l0]
    rw [if_neg (by omega)]
    rfl
  | d + 1, i, hi => by
    obtain ⟨K0, e0⟩ := wdWord_ev _ (hL _ (rds_mem L i (by omega)))
    obtain ⟨K, ih⟩ := wdGood_l0 L hl hL d (i + 1) (by omega)
    refine ev_from (K0 + K) fun k hk => ?_
    have e := ih k (by omega)
    have e0 := e0 k (by omega)
    rw [show ((i + 1 : Nat) : Int) = (i : Int) + 1 from rfl] at e
    dsimp only at e e0
    simp only [spec_wdGood.l0, goodN]
    rw [if_pos (by omega), if_pos (by omega), if_pos (by omega), e0, bsome, wr (x := (i : Int) + 1) (by omega) (by omega), wr (x := (i : Int) - 1) (by omega) (by omega)]
    cases hs : shortB (rdOf ByteArray.empty L i) with
    | false => rw [Bool.false_and]; rfl
    | true =>
      rw [if_pos rfl, Bool.true_and]
      by_cases h0 : i = 0
      · rw [if_neg (by omega), decide_eq_true h0, Bool.true_or, Bool.true_and, e]
      · rw [if_pos (by omega), if_pos (by omega), if_pos (by omega), decide_eq_false h0, Bool.false_or]
        unfold lessB
        cases Op.bytesLess (rdOf ByteArray.empty L ((i : Int) - 1)).toList (rdOf ByteArray.empty L i).toList with
        | false => rfl
        | true => rw [if_pos rfl, Bool.true_and, e]
theorem isDict_l0 (L : List ByteArray) (hl : L.length ≤ 1099511627776) (hL : ∀ x ∈ L, x.size ≤ 140737488351232) : ∀ (d i : Nat), i + d = L.length → Ev (fun k => impl_IsDictionary.l0 k L L L.length i) (goodN L d i && lenL L)
  | 0, i, hi => by
    obtain rfl : i = L.length := by omega
    refine ev_from 0 fun k _ => ?_
    simp only [impl_IsDictionary.l0]
    rw [if_neg (by omega), in_is, bsome]
    rfl
  | d + 1, i, hi => by
    have hs0 := hL _ (rds_mem L i (by omega))
    obtain ⟨K, ih⟩ := isDict_l0 L hl hL d (i + 1) (by omega)
    refine ev_from K fun k hk => ?_
    have e := ih k (by omega)
    rw [show ((i + 1 : Nat) : Int) = (i : Int) + 1 from rfl] at e
    dsimp only at e
    simp only [impl_IsDictionary.l0, goodN]
    rw [if_pos (by omega), if_pos (by omega), if_pos (by omega), short_is _ hs0, bsome, wr (x := (i : Int) + 1) (by omega) (by omega), wr (x := (i : Int) - 1) (by omega) (by omega)]
    cases hs : shortB (rdOf ByteArray.empty L i) with
    | false => rw [Bool.false_and, Bool.false_and]; rfl
    | true =>
      rw [if_pos rfl, Bool.true_and]
      by_cases h0 : i = 0
      · rw [if_neg (by omega), decide_eq_true h0, Bool.true_or, Bool.true_and, e]
      · rw [if_pos (by omega), if_pos (by omega), if_pos (by omega), decide_eq_false h0, Bool.false_or]
        unfold lessB
        cases Op.bytesLess (rdOf ByteArray.empty L ((i : Int) - 1)).toList (rdOf ByteArray.empty L i).toList with
        | false => rfl
        | true => rw [if_pos rfl, Bool.true_and, e]
def dictB (L : List ByteArray) : Bool := lenL L && goodN L L.length 0
theorem wdGood_ev (L : List ByteArray) (hl : L.length ≤ 1099511627776) (hL : ∀ x ∈ L, x.size ≤ 140737488351232) : Ev (fun k => spec_wdGood.f k L) (dictB L) := by
  obtain ⟨K, e⟩ := wdGood_l0 L hl hL L.length 0 (by omega)
  refine ⟨K, fun k hk => ?_⟩
  have e := e k hk
  dsimp only at e ⊢
  unfold spec_wdGood.f dictB
  rw [l1In_is, bsome]
  show (if lenL L = true then _ else _) = _
  cases lenL L with
  | false => rfl
  | true => rw [if_pos rfl, Bool.true_and]; exact e
theorem isDict_ev (L : List ByteArray) (hl : L.length ≤ 1099511627776) (hL : ∀ x ∈ L, x.size ≤ 140737488351232) : Ev (fun k => impl_IsDictionary.f k L) (dictB L) := by
  obtain ⟨K, e⟩ := isDict_l0 L hl hL L.length 0 (by omega)
  refine ⟨K, fun k hk => ?_⟩
  have e := e k hk
  dsimp only at e ⊢
  unfold impl_IsDictionary.f dictB
  rw [Bool.and_comm]
  exact e
end Go.Proofs.YtdkdpiihapmfbaaDoor.Pu
