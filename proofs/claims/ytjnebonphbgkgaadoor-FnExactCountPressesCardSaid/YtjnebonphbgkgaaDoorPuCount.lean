/-
  How often keys are pressed for a word: the program's sum and the reference's. Conditions: a text of letters of bounded size.
-/
import Derived.Test.YtjnebonphbgkgaaDoorPx3
import Derived.Test.YtjnebonphbgkgaaDoorPuPad
namespace Go.Proofs.YtjnebonphbgkgaaDoor.Pu
open Go.RowKit Go.Proofs.YtjnebonphbgkgaaDoor.P Go.Proofs.YtjnebonphbgkgaaDoorW.PrintWords Go.Proofs.YtjnebonphbgkgaaDoorW.PrintLast Go.Proofs.YtjnebonphbgkgaaDoorW.PrintMore

/-- The presses of letters, together. -/
def pressN : List Int → Int
  | [] => 0
  | c :: L => posN c + 1 + pressN L
theorem pressN_range : ∀ (L : List Int), (∀ c ∈ L, 97 ≤ c ∧ c ≤ 122) → (L.length : Int) ≤ pressN L ∧ pressN L ≤ 4 * L.length
  | [], _ => by simp [pressN]
  | c :: L, h => by
    have ih := pressN_range L (fun x hx => h x (List.mem_cons_of_mem _ hx))
    have hc := posN_range c (h c List.mem_cons_self)
    simp only [pressN, List.length_cons]
    omega
theorem countPresses_l0 (s : ByteArray) (hs : s.size ≤ 1000000) (hl : ∀ c ∈ bytesOf s, 97 ≤ c ∧ c ≤ 122) : ∀ (d i : Nat) (a : Int), i + d = s.size → 0 ≤ a → a ≤ 4 * (i : Int) →
    Ev (fun k => impl_CountPresses.l0 k s a s.size i) (a + pressN ((bytesOf s).drop i), true)
  | 0, i, a, h, h0, ha => by
    obtain rfl : i = s.size := by omega
    rw [drop_end]
    refine ev_from 0 fun k _ => ?_
    simp only [impl_CountPresses.l0]
    rw [if_neg (by omega)]
    simp [pressN]
  | d + 1, i, a, h, h0, ha => by
    have hc := posN_range _ (hl _ (bt_mem s i (by omega)))
    obtain ⟨K, ih⟩ := countPresses_l0 s hs hl d (i + 1) (a + (posN (bt s i) + 1)) (by omega) (by omega) (by omega)
    obtain ⟨K', ek⟩ := presses_ev (bt s i) (hl _ (bt_mem s i (by omega)))
    rw [drop_bytes s i (by omega)]
    refine ev_from (K + K') fun k hk => ?_
    have e := ih k (by omega)
    have e' := ek k (by omega)
    rw [show ((i + 1 : Nat) : Int) = (i : Int) + 1 from rfl] at e
    dsimp only at e e'
    simp only [impl_CountPresses.l0]
    rw [if_pos (by omega), if_pos (by omega), if_pos (by omega), e']
    simp only [Option.bind_some]
    rw [wr (by omega) (by omega), wr (by omega) (by omega), e]
    simp only [pressN]
    rw [Int.add_assoc]
theorem countPresses_ev (s : ByteArray) (hs : s.size ≤ 140737488351232) : Ev (fun k => impl_CountPresses.f k s) (if wordB s = true then (pressN (bytesOf s), true) else (0, false)) := by
  by_cases hw : wordB s = true
  · obtain ⟨⟨h1, h2⟩, hl⟩ := wordB_iff.1 hw
    obtain ⟨K, e⟩ := countPresses_l0 s (by omega) hl s.size 0 0 (by omega) (by omega) (by omega)
    refine ⟨K, fun k hk => ?_⟩
    have e := e k hk
    dsimp only at e ⊢
    unfold impl_CountPresses.f
    rw [isWord_is s hs, if_pos hw]
    simp only [Option.bind_some]
    rw [if_pos hw]
    simpa using e
  · refine ⟨0, fun k _ => ?_⟩
    dsimp only
    unfold impl_CountPresses.f
    rw [isWord_is s hs, if_neg hw]
    simp only [Option.bind_some]
    rw [if_neg hw]
theorem prCount_l0 (s : ByteArray) (hs : s.size ≤ 1000000) (hl : ∀ c ∈ bytesOf s, 97 ≤ c ∧ c ≤ 122) : ∀ (d i : Nat) (a : Int), i + d = s.size → 0 ≤ a → a ≤ 4 * (i : Int) →
    Ev (fun k => spec_prCount.l0 k s a i) (a + pressN ((bytesOf s).drop i))
  | 0, i, a, h, h0, ha => by
    obtain rfl : i = s.size := by omega
    rw [drop_end]
    refine ev_from 0 fun k _ => ?_
    simp only [spec_prCount.l0]
    rw [if_neg (by omega)]
    simp [pressN]
  | d + 1, i, a, h, h0, ha => by
    have hc := posN_range _ (hl _ (bt_mem s i (by omega)))
    obtain ⟨K, ih⟩ := prCount_l0 s hs hl d (i + 1) (a + (posN (bt s i) + 1)) (by omega) (by omega) (by omega)
    obtain ⟨K', ek⟩ := prKey_ev (bt s i) (hl _ (bt_mem s i (by omega)))
    rw [drop_bytes s i (by omega)]
    refine ev_from (K + K') fun k hk => ?_
    have e := ih k (by omega)
    have e' := ek k (by omega)
    rw [show ((i + 1 : Nat) : Int) = (i : Int) + 1 from rfl] at e
    dsimp only at e e'
    simp only [spec_prCount.l0]
    rw [if_pos (by omega), if_pos (by omega), e']
    simp only [Option.bind_some]
    rw [wr (by omega) (by omega), wr (by omega) (by omega), e]
    simp only [pressN]
    rw [Int.add_assoc]
theorem prCount_ev (s : ByteArray) (hs : s.size ≤ 1000000) (hl : ∀ c ∈ bytesOf s, 97 ≤ c ∧ c ≤ 122) : Ev (fun k => spec_prCount.f k s) (pressN (bytesOf s)) := by
  obtain ⟨K, e⟩ := prCount_l0 s hs hl s.size 0 0 (by omega) (by omega) (by omega)
  exact ⟨K, fun k hk => by have e := e k hk; dsimp only at e; unfold spec_prCount.f; simpa using e⟩
theorem sCountPresses_ev (s : ByteArray) (hs : s.size ≤ 140737488351232) : Ev (fun k => spec_CountPresses.f k s) (if wordB s = true then (pressN (bytesOf s), true) else (0, false)) := by
  obtain ⟨K0, e0⟩ := prWord_ev s hs
  by_cases hw : wordB s = true
  · obtain ⟨⟨h1, h2⟩, hl⟩ := wordB_iff.1 hw
    obtain ⟨K, e⟩ := prCount_ev s (by omega) hl
    refine ⟨K0 + K, fun k hk => ?_⟩
    have e := e k (by omega)
    have e0 := e0 k (by omega)
    dsimp only at e e0 ⊢
    unfold spec_CountPresses.f
    rw [e0, if_pos hw]
    simp only [Option.bind_some]
    rw [if_pos hw, e]
    rfl
  · refine ⟨K0, fun k hk => ?_⟩
    have e0 := e0 k (by omega)
    dsimp only at e0 ⊢
    unfold spec_CountPresses.f
    rw [e0, if_neg hw]
    simp only [Option.bind_some]
    rw [if_neg hw]

end Go.Proofs.YtjnebonphbgkgaaDoor.Pu
