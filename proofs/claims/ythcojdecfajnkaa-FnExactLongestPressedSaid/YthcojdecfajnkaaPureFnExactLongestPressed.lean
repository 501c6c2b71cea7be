/-
  The pure statement of the law FnExactLongestPressed: the program's LongestPressed and the reference's agree on all numbers. No condition.
-/
import Derived.Test.YthcojdecfajnkaaPx1
import Derived.Test.YthcojdecfajnkaaPx2
import Derived.Test.YthcojdecfajnkaaPuIn
import Derived.Test.YthcojdecfajnkaaPuLetter
namespace Go.Proofs.Ythcojdecfajnkaa.Pure
open Go.RowKit Go.Proofs.Ythcojdecfajnkaa.P Go.Proofs.Ythcojdecfajnkaa.Pu Go.Proofs.YthcojdecfajnkaaW.PrintWords Go.Proofs.YthcojdecfajnkaaW.PrintLast

/-- How often the first one of l + 1 letters is pressed, m presses being left. -/
def pickN (m : Int) (l : Nat) : Int := if m ≤ 4 * (l : Int) + 1 then 1 else m - 4 * (l : Int)
/-- The first letter that is pressed so often. -/
def pickL (n : Int) : Int := if n = 1 then 97 else if n = 2 then 98 else if n = 3 then 99 else 115
def longL : Nat → Int → List Int
  | 0, _ => []
  | l + 1, m => pickL (pickN m l) :: longL l (m - pickN m l)
theorem pick_facts (m : Int) (l : Nat) (h0 : (l : Int) + 1 ≤ m) (h1 : m ≤ 4 * ((l : Int) + 1)) :
    97 ≤ pickL (pickN m l) ∧ pickL (pickN m l) ≤ 122 ∧ posN (pickL (pickN m l)) + 1 = pickN m l ∧ 1 ≤ pickN m l ∧ pickN m l ≤ 4 ∧ (l : Int) ≤ m - pickN m l ∧ m - pickN m l ≤ 4 * (l : Int) := by
  obtain ⟨q, hq⟩ : ∃ q, pickN m l = q := ⟨_, rfl⟩
  have hv : q = 1 ∧ m ≤ 4 * (l : Int) + 1 ∨ q = m - 4 * (l : Int) ∧ 4 * (l : Int) + 1 < m := by unfold pickN at hq; omega
  rw [hq]
  rcases (show q = 1 ∨ q = 2 ∨ q = 3 ∨ q = 4 by omega) with h | h | h | h <;> subst h
  · rw [show pickL 1 = 97 from rfl, show posN 97 = 0 from rfl]; omega
  · rw [show pickL 2 = 98 from rfl, show posN 98 = 1 from rfl]; omega
  · rw [show pickL 3 = 99 from rfl, show posN 99 = 2 from rfl]; omega
  · rw [show pickL 4 = 115 from rfl, show posN 115 = 3 from rfl]; omega
theorem pick_first (m : Int) (l : Nat) (_ : (l : Int) + 1 ≤ m) (h1 : m ≤ 4 * ((l : Int) + 1)) (c : Int) (hc : 97 ≤ c) (hlt : c < pickL (pickN m l)) : ¬ (m - (posN c + 1) ≤ 4 * (l : Int)) := by
  obtain ⟨q, hq⟩ : ∃ q, pickN m l = q := ⟨_, rfl⟩
  have hv : q = 1 ∧ m ≤ 4 * (l : Int) + 1 ∨ q = m - 4 * (l : Int) ∧ 4 * (l : Int) + 1 < m := by unfold pickN at hq; omega
  rw [hq] at hlt
  rcases (show q = 1 ∨ q = 2 ∨ q = 3 ∨ q = 4 by omega) with h | h | h | h <;> subst h
  · rw [show pickL 1 = 97 from rfl] at hlt; omega
  · rw [show pickL 2 = 98 from rfl] at hlt; unfold posN; omega
  · rw [show pickL 3 = 99 from rfl] at hlt; unfold posN; omega
  · rw [show pickL 4 = 115 from rfl] at hlt; unfold posN; omega
theorem sLong (l : Nat) (hl : l ≤ 40) : ∀ (m : Int) (A : List Int), (l : Int) ≤ m → m ≤ 4 * (l : Int) → A.length ≤ 40 - l → Ev (fun k => spec_LongestPressed.l0 k m l (strOfNums A)) (strOfNums (A ++ longL l m), true) := by
  induction l with
  | zero =>
    intro m A _ _ _
    refine ev_from 0 fun k _ => ?_
    simp only [spec_LongestPressed.l0]
    rw [if_neg (by omega)]
    simp [longL]
  | succ l ih =>
    intro m A h0 h1 hA
    have f := pick_facts m l (by omega) (by omega)
    have inner : ∀ (d : Nat) (c : Int), 97 ≤ c → c + d = pickL (pickN m l) → Ev (fun k => spec_LongestPressed.l1 k m ((l + 1 : Nat) : Int) (strOfNums A) c) (strOfNums (A ++ longL (l + 1) m), true) := by
      intro d
      induction d with
      | zero =>
        intro c hc hd
        obtain rfl : c = pickL (pickN m l) := by omega
        obtain ⟨K0, hK⟩ := prKey_ev _ ⟨f.1, f.2.1⟩
        obtain ⟨K, hI⟩ := ih (by omega) (m - pickN m l) (A ++ [pickL (pickN m l)]) (by omega) (by omega) (by simp; omega)
        refine ev_from (K0 + K) fun k hk => ?_
        have e0 := hK k (by omega)
        have e := hI k (by omega)
        dsimp only at e0 e
        simp only [spec_LongestPressed.l1]
        rw [if_pos (by omega), e0, bsome]
        dsimp only
        rw [f.2.2.1, wr (x := m - _) (by omega) (by omega), show (((l + 1 : Nat) : Int) - 1) = (l : Int) by omega, wr (x := (l : Int)) (by omega) (by omega), wr (by omega) (by omega), l1In_is, bsome, decide_eq_true (by omega), decide_eq_true (by omega), if_pos (by decide), wr32 (by omega) (by omega), encode_small (by omega) (by omega), if_pos (by rw [size_nums, size_nums]; simp; omega), ← numsApp, e]
        simp [longL]
      | succ d ihd =>
        intro c hc hd
        have hf := pick_first m l (by omega) (by omega) c hc (by omega)
        obtain ⟨K0, hK⟩ := prKey_ev c ⟨hc, by omega⟩
        obtain ⟨K, hI⟩ := ihd (c + 1) (by omega) (by omega)
        have hp := posN_range c ⟨hc, by omega⟩
        refine ev_from (K0 + K) fun k hk => ?_
        have e0 := hK k (by omega)
        have e := hI k (by omega)
        dsimp only at e0 e
        simp only [spec_LongestPressed.l1]
        rw [if_pos (by omega), e0, bsome]
        dsimp only
        rw [wr (x := m - _) (by omega) (by omega), show (((l + 1 : Nat) : Int) - 1) = (l : Int) by omega, wr (x := (l : Int)) (by omega) (by omega), wr (by omega) (by omega), l1In_is, bsome, decide_eq_false (p := m - _ ≤ 4 * (l : Int)) hf, Bool.and_false, if_neg (by simp), show (c + 1) % 256 = c + 1 by omega, e]
    obtain ⟨K, h⟩ := inner (pickL (pickN m l) - 97).toNat 97 (by omega) (by omega)
    refine ev_from K fun k hk => ?_
    have e := h k hk
    dsimp only at e
    simp only [spec_LongestPressed.l0]
    rw [if_pos (by omega), e]
theorem abc_bt (i : Nat) (h : i < 26) : bt (⟨#[97, 98, 99, 100, 101, 102, 103, 104, 105, 106, 107, 108, 109, 110, 111, 112, 113, 114, 115, 116, 117, 118, 119, 120, 121, 122]⟩ : ByteArray) i = 97 + (i : Int) := by
  have key : ∀ n : Fin 26, bt (⟨#[97, 98, 99, 100, 101, 102, 103, 104, 105, 106, 107, 108, 109, 110, 111, 112, 113, 114, 115, 116, 117, 118, 119, 120, 121, 122]⟩ : ByteArray) (n.val : Int) = 97 + (n.val : Int) := by decide +kernel
  exact key ⟨i, h⟩
theorem iLong (l : Nat) (hl : l ≤ 40) : ∀ (m : Int) (A : List Int), (l : Int) ≤ m → m ≤ 4 * (l : Int) → A.length ≤ 40 - l → Ev (fun k => impl_LongestPressed.l0 k m A ((l : Int) - 1)) (strOfNums (A ++ longL l m), true) := by
  induction l with
  | zero =>
    intro m A _ _ _
    refine ev_from 0 fun k _ => ?_
    simp only [impl_LongestPressed.l0]
    rw [if_neg (by omega)]
    simp [longL]
  | succ l ih =>
    intro m A h0 h1 hA
    have f := pick_facts m l (by omega) (by omega)
    have inner : ∀ (d i : Nat), 97 + (i : Int) + d = pickL (pickN m l) → Ev (fun k => impl_LongestPressed.l1 k m A (l : Int) i) (strOfNums (A ++ longL (l + 1) m), true) := by
      intro d
      induction d with
      | zero =>
        intro i hd
        have hi : 97 + (i : Int) = pickL (pickN m l) := by omega
        obtain ⟨K0, hK⟩ := presses_ev (97 + (i : Int)) ⟨by omega, by omega⟩
        obtain ⟨K, hI⟩ := ih (by omega) (m - pickN m l) (A ++ [97 + (i : Int)]) (by omega) (by omega) (by simp; omega)
        refine ev_from (K0 + K) fun k hk => ?_
        have e0 := hK k (by omega)
        have e := hI k (by omega)
        dsimp only at e0 e
        simp only [impl_LongestPressed.l1]
        rw [if_pos (by omega), if_pos (by omega), abc_bt i (by omega), e0, bsome, hi, f.2.2.1, wr (x := m - _) (by omega) (by omega), wr (x := 4 * _) (by omega) (by omega), in_is, bsome, decide_eq_true (by omega), decide_eq_true (by omega), if_pos (by decide), if_pos (by omega), bsome, wr (x := m - _) (by omega) (by omega), wr (x := (l : Int) - 1) (by omega) (by omega), ← hi, e]
        simp [longL, hi]
      | succ d ihd =>
        intro i hd
        have hf := pick_first m l (by omega) (by omega) (97 + (i : Int)) (by omega) (by omega)
        obtain ⟨K0, hK⟩ := presses_ev (97 + (i : Int)) ⟨by omega, by omega⟩
        obtain ⟨K, hI⟩ := ihd (i + 1) (by omega)
        have hp := posN_range (97 + (i : Int)) ⟨by omega, by omega⟩
        refine ev_from (K0 + K) fun k hk => ?_
        have e0 := hK k (by omega)
        have e := hI k (by omega)
        dsimp only at e0 e
        simp only [impl_LongestPressed.l1]
        rw [if_pos (by omega), if_pos (by omega), abc_bt i (by omega), e0, bsome, wr (x := m - _) (by omega) (by omega), wr (x := 4 * _) (by omega) (by omega), in_is, bsome, decide_eq_false (p := m - _ ≤ 4 * (l : Int)) hf, Bool.and_false, if_neg (by simp), wr (by omega) (by omega), show ((i : Int) + 1) = ((i + 1 : Nat) : Int) from rfl, e]
    obtain ⟨K, h⟩ := inner (pickL (pickN m l) - 97).toNat 0 (by omega)
    refine ev_from K fun k hk => ?_
    have e := h k hk
    dsimp only at e
    simp only [impl_LongestPressed.l0]
    rw [if_pos (by omega), show (((l + 1 : Nat) : Int) - 1) = (l : Int) by omega]
    exact e
def longR (m l : Int) : ByteArray × Bool := if (1 ≤ l ∧ l ≤ 40) ∧ l ≤ m ∧ m ≤ 4 * l then (strOfNums (longL l.toNat m), true) else ((⟨#[]⟩ : ByteArray), false)
theorem sLong_ev (m l : Int) : Ev (fun k => spec_LongestPressed.f k m l) (longR m l) := by
  unfold longR
  by_cases hl : 1 ≤ l ∧ l ≤ 40
  · by_cases hm : l ≤ m ∧ m ≤ 4 * l
    · obtain ⟨n, rfl⟩ : ∃ n : Nat, l = (n : Int) := ⟨l.toNat, by omega⟩
      obtain ⟨K, h⟩ := sLong n (by omega) m [] (by omega) (by omega) (by simp)
      rw [if_pos ⟨hl, hm⟩]
      refine ev_from K fun k hk => ?_
      have e := h k hk
      dsimp only at e
      unfold spec_LongestPressed.f
      rw [l1In_is, bsome, decide_eq_true hl.1, decide_eq_true hl.2, if_pos (by decide), wr (by omega) (by omega), l1In_is, bsome, decide_eq_true hm.1, decide_eq_true hm.2]
      simp only [spec_LongestPressed.j0]
      rw [if_neg (by simp), Int.toNat_natCast]
      exact e
    · rw [if_neg (fun h => hm h.2)]
      refine ev_from 0 fun k _ => ?_
      unfold spec_LongestPressed.f
      rw [l1In_is, bsome, decide_eq_true hl.1, decide_eq_true hl.2, if_pos (by decide), wr (by omega) (by omega), l1In_is, bsome]
      simp only [spec_LongestPressed.j0]
      rw [if_pos (by rcases Classical.not_and_iff_not_or_not.1 hm with h | h <;> simp [h])]
  · rw [if_neg (fun h => hl h.1)]
    refine ev_from 0 fun k _ => ?_
    unfold spec_LongestPressed.f
    rw [l1In_is, bsome, if_neg (by simpa using fun h => by omega)]
    simp only [spec_LongestPressed.j0]
    rw [if_pos trivial]
theorem iLong_ev (m l : Int) : Ev (fun k => impl_LongestPressed.f k m l) (longR m l) := by
  unfold longR
  by_cases hl : 1 ≤ l ∧ l ≤ 40
  · by_cases hm : l ≤ m ∧ m ≤ 4 * l
    · obtain ⟨n, rfl⟩ : ∃ n : Nat, l = (n : Int) := ⟨l.toNat, by omega⟩
      obtain ⟨K, h⟩ := iLong n (by omega) m [] (by omega) (by omega) (by simp)
      rw [if_pos ⟨hl, hm⟩]
      refine ev_from K fun k hk => ?_
      have e := h k hk
      dsimp only at e
      unfold impl_LongestPressed.f
      rw [in_is, bsome, decide_eq_true hl.1, decide_eq_true hl.2, if_pos (by decide), wr (by omega) (by omega), in_is, bsome, decide_eq_true hm.1, decide_eq_true hm.2]
      simp only [impl_LongestPressed.j0]
      rw [if_neg (by simp), wr (by omega) (by omega), Int.toNat_natCast]
      exact e
    · rw [if_neg (fun h => hm h.2)]
      refine ev_from 0 fun k _ => ?_
      unfold impl_LongestPressed.f
      rw [in_is, bsome, decide_eq_true hl.1, decide_eq_true hl.2, if_pos (by decide), wr (by omega) (by omega), in_is, bsome]
      simp only [impl_LongestPressed.j0]
      rw [if_pos (by rcases Classical.not_and_iff_not_or_not.1 hm with h | h <;> simp [h])]
  · rw [if_neg (fun h => hl h.1)]
    refine ev_from 0 fun k _ => ?_
    unfold impl_LongestPressed.f
    rw [in_is, bsome, if_neg (by simpa using fun h => by omega)]
    simp only [impl_LongestPressed.j0]
    rw [if_pos trivial]
theorem FnExactLongestPressed : laws_FnExactLongestPressed.Pure := by
  intro m l _ _
  obtain ⟨K, h⟩ := ev_both (iLong_ev m l) (sLong_ev m l)
  obtain ⟨e1, e2⟩ := h K (Nat.le_refl _)
  refine ⟨K, ?_⟩
  unfold laws_FnExactLongestPressed.f
  rw [e1, e2, bsome, bsome]
  simp
end Go.Proofs.Ythcojdecfajnkaa.Pure
