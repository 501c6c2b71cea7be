/-
  Runs of like letters of a text, counted, as the program and the reference do it. Conditions: each lemma's own.
-/
import Derived.Test.YtjnebonphbgkgaaDoorPx9
import Derived.Test.YtjnebonphbgkgaaDoorPx10
import Derived.Test.YtjnebonphbgkgaaDoorPuWord
import Derived.Test.YtjnebonphbgkgaaDoorPuMark
namespace Go.Proofs.YtjnebonphbgkgaaDoor.Pu
open Go.RowKit Go.Proofs.YtjnebonphbgkgaaDoor.P Go.Proofs.YtjnebonphbgkgaaDoorW.PrintWords Go.Proofs.YtjnebonphbgkgaaDoorW.PrintLast Go.Proofs.YtjnebonphbgkgaaDoorW.PrintMore

def textB (s : ByteArray) : Bool := decide (s.size ≤ 20) && (bytesOf s).all isLow
theorem isText_is (s : ByteArray) (hs : s.size ≤ 140737488351232) : impl_isText.f s = some (textB s) := by
  unfold impl_isText.f textB
  by_cases h : s.size ≤ 20
  · rw [if_pos (by omega), low_over s (by omega), bsome, decide_eq_true h]
    rfl
  · rw [if_neg (by omega), decide_eq_false h]
    rfl
theorem bkText_l0 (s : ByteArray) (hs : s.size ≤ 140737488351232) : ∀ (d i : Nat), i + d = s.size → Ev (fun k => spec_bkText.l0 k s i) (((bytesOf s).drop i).all isLow)
  | 0, i, h => by
    obtain rfl : i = s.size := by omega
    rw [drop_end]
    refine ev_from 0 fun k _ => ?_
    simp only [spec_bkText.l0]
    rw [if_neg (by omega)]
    rfl
  | d + 1, i, h => by
    obtain ⟨K, ih⟩ := bkText_l0 s hs d (i + 1) (by omega)
    rw [drop_bytes s i (by omega), List.all_cons]
    refine ev_from K fun k hk => ?_
    have e := ih k hk
    rw [show ((i + 1 : Nat) : Int) = (i : Int) + 1 from rfl] at e
    dsimp only at e
    simp only [spec_bkText.l0]
    rw [if_pos (by omega), if_pos (by omega), wr (by omega) (by omega), e]
    unfold isLow
    by_cases h1 : bt s i < 97
    · rw [if_pos h1, decide_eq_false (by omega)]; rfl
    · rw [if_neg h1, decide_eq_true (show 97 ≤ bt s i by omega)]
      by_cases h2 : bt s i > 122
      · rw [if_pos h2, decide_eq_false (by omega)]; rfl
      · rw [if_neg h2, decide_eq_true (by omega)]; rfl
theorem bkText_ev (s : ByteArray) : Ev (fun k => spec_bkText.f k s) (textB s) := by
  unfold textB
  by_cases h : s.size ≤ 20
  · obtain ⟨K, e⟩ := bkText_l0 s (by omega) s.size 0 (by omega)
    refine ⟨K, fun k hk => ?_⟩
    have e := e k hk
    dsimp only at e ⊢
    unfold spec_bkText.f
    rw [if_neg (by omega), decide_eq_true h, Bool.true_and]
    exact e
  · refine ⟨0, fun k _ => ?_⟩
    dsimp only
    unfold spec_bkText.f
    rw [if_pos (by omega), decide_eq_false h]
    rfl

/-! ### runs -/
def lastUp (A : List Int) : List Int := A.set (A.length - 1) (wrap64 (rd A ((A.length : Int) - 1) + 1))
theorem lastUp_length (A : List Int) : (lastUp A).length = A.length := by unfold lastUp; rw [List.length_set]
theorem lastUp_new (A : List Int) : (A ++ [0]).set A.length (wrap64 (rd (A ++ [0]) (A.length : Int) + 1)) = A ++ [1] := by
  rw [rd_mid A 0 [], set_mid, List.append_nil, wr (by omega) (by omega)]
  rfl
def newRun (s : ByteArray) (i : Nat) : Bool := decide (i = 0) || !decide (bt s ((i : Int) - 1) = bt s i)
def runN (s : ByteArray) : Nat → Nat → List Int → List Int
  | 0, _, A => A
  | d + 1, i, A => runN s d (i + 1) (if newRun s i = true then A ++ [1] else lastUp A)
theorem runS_l0 (s : ByteArray) (hs : s.size ≤ 20) : ∀ (d i : Nat) (A : List Int), i + d = s.size → A.length ≤ i → (0 < i → 0 < A.length) → Ev (fun k => spec_CountRuns.l0 k s A i) (runN s d i A, true)
  | 0, i, A, hi, hA, hB => by
    obtain rfl : i = s.size := by omega
    refine ev_from 0 fun k _ => ?_
    simp only [spec_CountRuns.l0]
    rw [if_neg (by omega)]
    rfl
  | d + 1, i, A, hi, hA, hB => by
    obtain ⟨K, ih⟩ := runS_l0 s hs d (i + 1) (if newRun s i = true then A ++ [1] else lastUp A) (by omega) (by
      cases newRun s i <;> simp [lastUp_length] <;> omega) (by
      intro _
      cases hn : newRun s i with
      | true => simp
      | false =>
        have : i ≠ 0 := fun h => by rw [h] at hn; simp [newRun] at hn
        show 0 < (lastUp A).length
        rw [lastUp_length]
        exact hB (by omega))
    refine ev_from K fun k hk => ?_
    have e := ih k hk
    rw [show ((i + 1 : Nat) : Int) = (i : Int) + 1 from rfl] at e
    dsimp only at e
    simp only [spec_CountRuns.l0, runN]
    rw [if_pos (by omega)]
    have hnew : ∀ y, (some (A ++ [0]) : Option (List Int)).bind (fun y276 => (if 0 ≤ (wrap64 ((y276.length : Int) - 1)) then (if (wrap64 ((y276.length : Int) - 1)) < (y276.length : Int) then (spec_CountRuns.l0 k s (y276.set ((wrap64 ((y276.length : Int) - 1)) : Int).toNat (wrap64 ((rd y276 (wrap64 ((y276.length : Int) - 1))) + 1))) y) else (none)) else (none))) = spec_CountRuns.l0 k s (A ++ [1]) y := by
      intro y
      rw [bsome, List.length_append, List.length_singleton, show wrap64 (((A.length + 1 : Nat) : Int) - 1) = (A.length : Int) by rw [wr (by omega) (by omega)]; omega, if_pos (by omega), if_pos (by omega), Int.toNat_natCast, lastUp_new]
    by_cases h0 : i = 0
    · subst h0
      rw [if_pos (by omega), if_pos (by omega), hnew, wr (by omega) (by omega)]
      rw [show newRun s 0 = true from rfl] at e ⊢
      exact e
    · rw [if_neg (by omega), wr (x := (i : Int) - 1) (by omega) (by omega), if_pos (by omega), if_pos (by omega), if_pos (by omega)]
      by_cases hc : bt s ((i : Int) - 1) = bt s i
      · have hn : newRun s i = false := by unfold newRun; rw [decide_eq_false h0, decide_eq_true hc]; rfl
        have hl := hB (by omega)
        rw [hn] at e ⊢
        rw [if_pos hc, wr (x := (A.length : Int) - 1) (by omega) (by omega), if_pos (by omega), if_pos (by omega), show ((A.length : Int) - 1).toNat = A.length - 1 by omega, wr (x := (i : Int) + 1) (by omega) (by omega)]
        exact e
      · have hn : newRun s i = true := by unfold newRun; rw [decide_eq_false hc]; simp
        rw [hn] at e ⊢
        rw [if_neg hc, if_pos (by omega), hnew, wr (by omega) (by omega)]
        exact e
theorem runI_l0 (s : ByteArray) (hs : s.size ≤ 20) : ∀ (d i : Nat) (A : List Int), i + d = s.size → A.length ≤ i → (0 < i → 0 < A.length) → Ev (fun k => impl_CountRuns.l0 k s A s.size i) (runN s d i A, true)
  | 0, i, A, hi, hA, hB => by
    obtain rfl : i = s.size := by omega
    refine ev_from 0 fun k _ => ?_
    simp only [impl_CountRuns.l0]
    rw [if_neg (by omega)]
    rfl
  | d + 1, i, A, hi, hA, hB => by
    obtain ⟨K, ih⟩ := runI_l0 s hs d (i + 1) (if newRun s i = true then A ++ [1] else lastUp A) (by omega) (by
      cases newRun s i <;> simp [lastUp_length] <;> omega) (by
      intro _
      cases hn : newRun s i with
      | true => simp
      | false =>
        have : i ≠ 0 := fun h => by rw [h] at hn; simp [newRun] at hn
        show 0 < (lastUp A).length
        rw [lastUp_length]
        exact hB (by omega))
    refine ev_from K fun k hk => ?_
    have e := ih k hk
    rw [show ((i + 1 : Nat) : Int) = (i : Int) + 1 from rfl] at e
    dsimp only at e
    simp only [impl_CountRuns.l0, runN]
    rw [if_pos (by omega)]
    by_cases h0 : i = 0
    · subst h0
      rw [if_neg (by omega), if_pos (by omega), wr (by omega) (by omega)]
      rw [show newRun s 0 = true from rfl] at e ⊢
      exact e
    · rw [if_pos (by omega), wr (x := (i : Int) - 1) (by omega) (by omega), if_pos (by omega), if_pos (by omega), if_pos (by omega), if_pos (by omega)]
      by_cases hc : bt s ((i : Int) - 1) = bt s i
      · have hn : newRun s i = false := by unfold newRun; rw [decide_eq_false h0, decide_eq_true hc]; rfl
        have hl := hB (by omega)
        rw [hn] at e ⊢
        rw [if_pos hc, wr (x := (A.length : Int) - 1) (by omega) (by omega), if_pos (by omega), if_pos (by omega), show ((A.length : Int) - 1).toNat = A.length - 1 by omega, wr (x := (i : Int) + 1) (by omega) (by omega)]
        exact e
      · have hn : newRun s i = true := by unfold newRun; rw [decide_eq_false hc]; simp
        rw [hn] at e ⊢
        rw [if_neg hc, if_pos (by omega), wr (by omega) (by omega)]
        exact e
theorem runN_length (s : ByteArray) : ∀ (d i : Nat) (A : List Int), (runN s d i A).length ≤ A.length + d
  | 0, _, A => Nat.le_refl _
  | d + 1, i, A => by
    have h := runN_length s d (i + 1) (if newRun s i = true then A ++ [1] else lastUp A)
    rw [runN]
    have : (if newRun s i = true then A ++ [1] else lastUp A).length ≤ A.length + 1 := by
      cases newRun s i <;> simp [lastUp_length]
    omega
def runsT (s : ByteArray) : List Int × Bool := if textB s = true then (runN s s.size 0 [], true) else ([], false)
theorem runsT_length (s : ByteArray) : (runsT s).1.length ≤ 1000000 := by
  unfold runsT
  cases h : textB s with
  | false => simp
  | true =>
    have := runN_length s s.size 0 []
    unfold textB at h
    rw [Bool.and_eq_true, decide_eq_true_eq] at h
    simp at this ⊢
    omega
theorem runsS_ev (s : ByteArray) : Ev (fun k => spec_CountRuns.f k s) (runsT s) := by
  obtain ⟨K1, h1⟩ := bkText_ev s
  unfold runsT
  cases hs : textB s with
  | false =>
    refine ⟨K1, fun k hk => ?_⟩
    have e1 := h1 k hk
    rw [hs] at e1
    dsimp only at e1 ⊢
    unfold spec_CountRuns.f
    rw [e1, bsome]
    rfl
  | true =>
    have hl : s.size ≤ 20 := by unfold textB at hs; rw [Bool.and_eq_true, decide_eq_true_eq] at hs; exact hs.1
    obtain ⟨K2, e2⟩ := runS_l0 s hl s.size 0 [] (by omega) (by simp) (by simp)
    refine ⟨K1 + K2, fun k hk => ?_⟩
    have e1 := h1 k (by omega)
    have e2 := e2 k (by omega)
    rw [hs] at e1
    dsimp only at e1 e2 ⊢
    unfold spec_CountRuns.f
    rw [e1, bsome, if_pos rfl]
    exact e2
theorem runsI_ev (s : ByteArray) (h1 : s.size ≤ 140737488351232) : Ev (fun k => impl_CountRuns.f k s) (runsT s) := by
  unfold runsT
  cases hs : textB s with
  | false =>
    refine ⟨0, fun k hk => ?_⟩
    dsimp only
    unfold impl_CountRuns.f
    rw [isText_is s h1, bsome, hs]
    rfl
  | true =>
    have hl : s.size ≤ 20 := by unfold textB at hs; rw [Bool.and_eq_true, decide_eq_true_eq] at hs; exact hs.1
    obtain ⟨K2, e2⟩ := runI_l0 s hl s.size 0 [] (by omega) (by simp) (by simp)
    refine ⟨K2, fun k hk => ?_⟩
    have e2 := e2 k (by omega)
    dsimp only at e2 ⊢
    unfold impl_CountRuns.f
    rw [isText_is s h1, bsome, hs, if_pos rfl]
    exact e2
end Go.Proofs.YtjnebonphbgkgaaDoor.Pu
