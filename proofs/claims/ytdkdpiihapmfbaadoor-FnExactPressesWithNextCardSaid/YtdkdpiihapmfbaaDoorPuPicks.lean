/-
  The words of a dictionary that have keys, or begin with them, as the program and the reference pick them. Conditions: each lemma's own.
-/
import Derived.Test.YtdkdpiihapmfbaaDoorPx8
import Derived.Test.YtdkdpiihapmfbaaDoorPx9
import Derived.Test.YtdkdpiihapmfbaaDoorPx10
import Derived.Test.YtdkdpiihapmfbaaDoorPuDict
import Derived.Test.YtdkdpiihapmfbaaDoorPuPad
import Derived.Test.YtdkdpiihapmfbaaDoorPuKeysB
namespace Go.Proofs.YtdkdpiihapmfbaaDoor.Pu
open Go.RowKit Go.Proofs.YtdkdpiihapmfbaaDoor.P Go.Proofs.YtdkdpiihapmfbaaDoorW.PrintWords Go.Proofs.YtdkdpiihapmfbaaDoorW.PrintLast Go.Proofs.YtdkdpiihapmfbaaDoorW.PrintMore Go.Proofs.YtdkdpiihapmfbaaDoor.Pick

theorem goodN_short (L : List ByteArray) : ∀ (d i : Nat), i + d = L.length → goodN L d i = true → ∀ x ∈ L.drop i, shortB x = true
  | 0, i, h, _ => by
    obtain rfl : i = L.length := by omega
    simp
  | d + 1, i, h, hg => by
    rw [goodN, Bool.and_eq_true, Bool.and_eq_true] at hg
    intro x hx
    rw [rds_drop L i (by omega)] at hx
    rcases List.mem_cons.1 hx with rfl | hx
    · exact hg.1
    · exact goodN_short L d (i + 1) (by omega) hg.2.2 x hx
theorem dict_short {L : List ByteArray} (h : dictB L = true) : ∀ x ∈ L, shortB x = true := by
  unfold dictB at h
  rw [Bool.and_eq_true] at h
  have := goodN_short L L.length 0 (by omega) h.2
  rwa [List.drop_zero] at this
theorem dict_length {L : List ByteArray} (h : dictB L = true) : 1 ≤ L.length ∧ L.length ≤ 12 := by
  unfold dictB lenL at h
  simp only [Bool.and_eq_true, decide_eq_true_eq] at h
  omega
theorem short_size {x : ByteArray} (h : shortB x = true) : 1 ≤ x.size ∧ x.size ≤ 10 := by
  unfold shortB at h
  rw [Bool.and_eq_true, decide_eq_true_eq] at h
  exact ⟨(wordB_iff.1 h.1).1.1, h.2⟩
theorem short_low {x : ByteArray} (h : shortB x = true) : ∀ c ∈ bytesOf x, 97 ≤ c ∧ c ≤ 122 := by
  unfold shortB at h
  rw [Bool.and_eq_true] at h
  exact (wordB_iff.1 h.1).2
theorem ev_true {α : Type} {g : Nat → Option α} {r : α} (h : Ev g r) : Ev (fun k => g k) r := h
theorem pickO_ev (q : Nat → ByteArray → Option Bool) (p : ByteArray → Bool) : ∀ (L : List ByteArray), (∀ x ∈ L, Ev (fun k => q k x) (p x)) → Ev (fun k => pickO (q k) L) (L.filter p)
  | [], _ => ⟨0, fun _ _ => rfl⟩
  | x :: L, h => by
    obtain ⟨K1, e1⟩ := h x List.mem_cons_self
    obtain ⟨K2, e2⟩ := pickO_ev q p L (fun y hy => h y (List.mem_cons_of_mem x hy))
    refine ⟨K1 + K2, fun k hk => ?_⟩
    have e1 := e1 k (by omega)
    have e2 := e2 k (by omega)
    dsimp only at e1 e2 ⊢
    rw [pickO, e1, bsome, e2, bsome, List.filter_cons]
def justP (keys x : ByteArray) : Bool := (keysN x).toList == keys.toList
def headP (keys x : ByteArray) : Bool := Lib.hasPrefix (keysN x).data.toList keys.data.toList
theorem wordsFor_ev (L : List ByteArray) (hd : dictB L = true) (keys : ByteArray) : Ev (fun k => impl_wordsFor.f k L keys) (L.filter (justP keys)) := by
  have hl := dict_length hd
  obtain ⟨K, e⟩ := pickO_ev (fun k x => (impl_keysOf.f k x).bind fun y => some (y.toList == keys.toList)) (justP keys) L (fun x hx => by
    have hs := dict_short hd x hx
    obtain ⟨K, e⟩ := keysOf_ev x (by have := short_size hs; omega) (short_low hs)
    refine ⟨K, fun k hk => ?_⟩
    have e := e k hk
    dsimp only at e ⊢
    rw [e, bsome]
    rfl)
  refine ⟨K, fun k hk => ?_⟩
  have e := e k hk
  dsimp only at e ⊢
  unfold impl_wordsFor.f
  rw [if_pos (by omega), if_pos (by omega)]
  exact e
theorem beginning_ev (L : List ByteArray) (hd : dictB L = true) (keys : ByteArray) : Ev (fun k => impl_beginning.f k L keys) (L.filter (headP keys)) := by
  have hl := dict_length hd
  obtain ⟨K, e⟩ := pickO_ev (fun k x => (impl_keysOf.f k x).bind fun y => some (Lib.hasPrefix y.data.toList keys.data.toList)) (headP keys) L (fun x hx => by
    have hs := dict_short hd x hx
    obtain ⟨K, e⟩ := keysOf_ev x (by have := short_size hs; omega) (short_low hs)
    refine ⟨K, fun k hk => ?_⟩
    have e := e k hk
    dsimp only at e ⊢
    rw [e, bsome]
    rfl)
  refine ⟨K, fun k hk => ?_⟩
  have e := e k hk
  dsimp only at e ⊢
  unfold impl_beginning.f
  rw [if_pos (by omega), if_pos (by omega)]
  exact e
theorem isPrefix_take {α : Type} [BEq α] [LawfulBEq α] : ∀ (p l : List α), p.isPrefixOf l = (decide (p.length ≤ l.length) && (l.take p.length == p))
  | [], l => by simp
  | a :: p, [] => by simp
  | a :: p, b :: l => by
    rw [List.isPrefixOf, isPrefix_take p l]
    rw [Bool.eq_iff_iff]
    simp only [Bool.and_eq_true, beq_iff_eq, decide_eq_true_eq, List.length_cons, List.take_succ_cons, List.cons.injEq]
    constructor
    · rintro ⟨rfl, h1, h2⟩; exact ⟨by omega, rfl, h2⟩
    · rintro ⟨h1, rfl, h2⟩; exact ⟨rfl, by omega, h2⟩
theorem size_data (s : ByteArray) : s.data.toList.length = s.size := by rw [Array.length_toList]; rfl
theorem headP_is (keys x : ByteArray) : headP keys x = (justP keys x || (decide ((keysN x).size > keys.size) && (((keysN x).extract 0 keys.size).toList == keys.toList))) := by
  unfold headP justP Lib.hasPrefix
  generalize keysN x = y
  rw [isPrefix_take, size_data, size_data, Lib.toList_data, Lib.toList_data, Lib.toList_data, ByteArray.data_extract, Array.toList_extract, List.extract_eq_take_drop]
  rw [Bool.eq_iff_iff]
  simp only [Bool.and_eq_true, Bool.or_eq_true, beq_iff_eq, decide_eq_true_eq, List.drop_zero, Nat.sub_zero]
  constructor
  · rintro ⟨h1, h2⟩
    by_cases h : y.size = keys.size
    · left
      rw [← h2, ← h, ← size_data, List.take_length]
    · exact Or.inr ⟨by omega, h2⟩
  · rintro (h | ⟨h1, h2⟩)
    · have hs : y.size = keys.size := by rw [← size_data, ← size_data, h]
      exact ⟨by omega, by rw [← hs, ← size_data, List.take_length, h]⟩
    · exact ⟨by omega, h2⟩
def begP (just : Bool) (keys x : ByteArray) : Bool := if just = true then justP keys x else headP keys x
theorem wdBegins_l0 (L : List ByteArray) (hd : dictB L = true) (keys : ByteArray) (hk : keys.size ≤ 140737488351232) (j : Bool) : ∀ (d i : Nat) (A : List ByteArray), i + d = L.length → A.length ≤ i → Ev (fun k => spec_wdBegins.l0 k keys j A L L.length i) (A ++ (L.drop i).filter (begP j keys))
  | 0, i, A, hi, hA => by
    obtain rfl : i = L.length := by omega
    rw [List.drop_length]
    refine ev_from 0 fun k _ => ?_
    simp only [spec_wdBegins.l0]
    rw [if_neg (by omega)]
    simp
  | d + 1, i, A, hi, hA => by
    have hl := dict_length hd
    have hs := dict_short hd _ (rds_mem L i (by omega))
    have hz := short_size hs
    obtain ⟨K0, e0⟩ := prKeys_ev (rdOf ByteArray.empty L i) (by omega) (short_low hs)
    obtain ⟨K1, ih1⟩ := wdBegins_l0 L hd keys hk j d (i + 1) (A ++ [rdOf ByteArray.empty L i]) (by omega) (by rw [List.length_append, List.length_singleton]; omega)
    obtain ⟨K2, ih2⟩ := wdBegins_l0 L hd keys hk j d (i + 1) A (by omega) (by omega)
    have ksz := keysN_size (rdOf ByteArray.empty L i)
    rw [rds_drop L i (by omega), List.filter_cons]
    refine ev_from (K0 + K1 + K2) fun k hk => ?_
    have e1 := ih1 k (by omega)
    have e2 := ih2 k (by omega)
    have e0 := e0 k (by omega)
    rw [show ((i + 1 : Nat) : Int) = (i : Int) + 1 from rfl] at e1 e2
    dsimp only at e0 e1 e2
    simp only [spec_wdBegins.l0]
    rw [if_pos (by omega), if_pos (by omega), if_pos (by omega), e0, bsome, wr (x := (i : Int) + 1) (by omega) (by omega), e1]
    rw [List.append_assoc, List.singleton_append]
    by_cases h1 : (keysN (rdOf ByteArray.empty L i)).toList = keys.toList
    · have hb : begP j keys (rdOf ByteArray.empty L i) = true := by
        unfold begP
        have hj : justP keys (rdOf ByteArray.empty L i) = true := beq_iff_eq.2 h1
        rw [headP_is, hj]
        cases j <;> rfl
      rw [if_pos h1, if_pos (by omega), hb, if_pos rfl]
    · have hj : justP keys (rdOf ByteArray.empty L i) = false := beq_eq_false_iff_ne.2 h1
      rw [if_neg h1]
      cases j with
      | true =>
        rw [if_pos rfl]
        unfold begP at e2 ⊢
        rw [if_pos rfl, hj, if_neg (by simp)]
        exact e2
      | false =>
        rw [if_neg (by simp)]
        have hb0 : begP false keys (rdOf ByteArray.empty L i) = headP keys (rdOf ByteArray.empty L i) := rfl
        rw [hb0, headP_is, hj, Bool.false_or]
        by_cases h2 : (keysN (rdOf ByteArray.empty L i)).size > keys.size
        · rw [if_pos (by omega), if_pos (by omega), if_pos (by omega), decide_eq_true h2, Bool.true_and, Int.toNat_natCast]
          by_cases h3 : ((keysN (rdOf ByteArray.empty L i)).extract 0 keys.size).toList = keys.toList
          · rw [if_pos h3, if_pos (by omega), beq_iff_eq.2 h3, if_pos rfl]
          · rw [if_neg h3, beq_eq_false_iff_ne.2 h3, if_neg (by simp)]
            exact e2
        · rw [if_neg (by omega), decide_eq_false h2, Bool.false_and, if_neg (by simp)]
          exact e2
theorem wdBegins_ev (L : List ByteArray) (hd : dictB L = true) (keys : ByteArray) (hk : keys.size ≤ 140737488351232) (j : Bool) : Ev (fun k => spec_wdBegins.f k L keys j) (L.filter (begP j keys)) := by
  obtain ⟨K, e⟩ := wdBegins_l0 L hd keys hk j L.length 0 [] (by omega) (by simp)
  exact ⟨K, fun k hk => by have e := e k hk; dsimp only at e; unfold spec_wdBegins.f; simpa using e⟩
def askedB (L : List ByteArray) (keys : ByteArray) : Bool := dictB L && (keysB keys && decide (keys.size ≤ 20))
theorem wdAsked_ev (L : List ByteArray) (hl : L.length ≤ 1099511627776) (hL : ∀ x ∈ L, x.size ≤ 140737488351232) (keys : ByteArray) (hk : keys.size ≤ 140737488351232) : Ev (fun k => spec_wdAsked.f k L keys) (askedB L keys) := by
  obtain ⟨K1, e1⟩ := wdGood_ev L hl hL
  obtain ⟨K2, e2⟩ := prGood_ev keys hk
  refine ⟨K1 + K2, fun k hk => ?_⟩
  have e1 := e1 k (by omega)
  have e2 := e2 k (by omega)
  dsimp only at e1 e2 ⊢
  unfold spec_wdAsked.f spec_wdKeys.f askedB
  rw [e1, bsome]
  cases dictB L with
  | false => rfl
  | true =>
    rw [if_pos rfl, e2, bsome]
    cases keysB keys with
    | false => rfl
    | true => rw [if_pos rfl, bsome, Bool.true_and, Bool.true_and, decide_eq_decide.2 (show (keys.size : Int) ≤ 20 ↔ keys.size ≤ 20 by omega)]
theorem splitOk_ev (L : List ByteArray) (hl : L.length ≤ 1099511627776) (hL : ∀ x ∈ L, x.size ≤ 140737488351232) (keys : ByteArray) (hk : keys.size ≤ 140737488351232) : Ev (fun k => impl_splitOk.f k L keys) (askedB L keys) := by
  obtain ⟨K1, e1⟩ := isDict_ev L hl hL
  refine ⟨K1, fun k hk' => ?_⟩
  have e1 := e1 k (by omega)
  dsimp only at e1 ⊢
  unfold impl_splitOk.f askedB
  rw [e1, bsome]
  cases dictB L with
  | false => rfl
  | true =>
    rw [if_pos rfl, isKeys_is keys hk, bsome]
    cases keysB keys with
    | false => rfl
    | true => rw [if_pos rfl, Bool.true_and, Bool.true_and, decide_eq_decide.2 (show (keys.size : Int) ≤ 20 ↔ keys.size ≤ 20 by omega)]
theorem askedB_iff {L : List ByteArray} {keys : ByteArray} (h : askedB L keys = true) : dictB L = true ∧ keys.size ≤ 20 := by
  unfold askedB at h
  rw [Bool.and_eq_true, Bool.and_eq_true, decide_eq_true_eq] at h
  exact ⟨h.1, h.2.2⟩
end Go.Proofs.YtdkdpiihapmfbaaDoor.Pu
