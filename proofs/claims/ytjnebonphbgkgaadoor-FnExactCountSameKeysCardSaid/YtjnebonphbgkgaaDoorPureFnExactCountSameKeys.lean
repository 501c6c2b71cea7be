/-
  The pure statement of the law FnExactCountSameKeys: the program's CountSameKeys and the reference's agree on every string that can be read. No condition.
-/
import Derived.Test.YtjnebonphbgkgaaDoorPx4
import Derived.Test.YtjnebonphbgkgaaDoorPx5
import Derived.Test.YtjnebonphbgkgaaDoorPuSame
namespace Go.Proofs.YtjnebonphbgkgaaDoor.Pure
open Go.RowKit Go.Proofs.YtjnebonphbgkgaaDoor.P Go.Proofs.YtjnebonphbgkgaaDoor.Pu Go.Proofs.YtjnebonphbgkgaaDoorW.PrintWords Go.Proofs.YtjnebonphbgkgaaDoorW.PrintLast

def countSameR (s : ByteArray) : Int × Bool := if keysB s = true then (if cp (bytesOf s) > 1000000000000000 then (0, false) else (cp (bytesOf s), true)) else (0, false)
theorem iCountSame_ev (s : ByteArray) (hs : s.size ≤ 140737488351232) : Ev (fun k => impl_CountSameKeys.f k s) (countSameR s) := by
  unfold countSameR
  by_cases hk : keysB s = true
  · obtain ⟨⟨_, h2⟩, hl⟩ := keysB_iff.1 hk
    obtain ⟨K, h⟩ := sameFrom_ev s (by omega) hl
    have hb0 := rd_behind (bytesOf s) 0 (by omega)
    rw [List.drop_zero] at hb0
    rw [if_pos hk]
    refine ⟨K, fun k hk' => ?_⟩
    have e := h k hk'
    dsimp only at e ⊢
    unfold impl_CountSameKeys.f
    rw [isKeys_is s hs]
    simp only [bsome]
    rw [if_pos hk, e]
    simp only [bsome]
    rw [if_pos (by rw [behind_length]; omega), show (0 : Int) = ((0 : Nat) : Int) from rfl, hb0]
    by_cases hc : cp (bytesOf s) > 1000000000000000
    · rw [if_pos hc, if_pos hc]
    · rw [if_neg hc, if_neg hc]
  · rw [if_neg hk]
    refine ⟨0, fun k _ => ?_⟩
    dsimp only
    unfold impl_CountSameKeys.f
    rw [isKeys_is s hs]
    simp only [bsome]
    rw [if_neg hk]
theorem sCountSame_ev (s : ByteArray) (hs : s.size ≤ 140737488351232) : Ev (fun k => spec_CountSameKeys.f k s) (countSameR s) := by
  unfold countSameR
  obtain ⟨K0, h0⟩ := prGood_ev s hs
  by_cases hk : keysB s = true
  · obtain ⟨⟨_, h2⟩, hl⟩ := keysB_iff.1 hk
    obtain ⟨K, h⟩ := prSame_ev s (by omega) hl
    rw [if_pos hk]
    refine ⟨K0 + K, fun k hk' => ?_⟩
    have e := h k (by omega)
    have e0 := h0 k (by omega)
    dsimp only at e e0 ⊢
    unfold spec_CountSameKeys.f
    rw [e0]
    simp only [bsome]
    rw [if_pos hk, e]
    simp only [bsome]
    by_cases hc : cp (bytesOf s) > 1000000000000000
    · rw [if_pos hc, if_pos hc]
    · rw [if_neg hc, if_neg hc]
  · rw [if_neg hk]
    refine ⟨K0, fun k hk' => ?_⟩
    have e0 := h0 k (by omega)
    dsimp only at e0 ⊢
    unfold spec_CountSameKeys.f
    rw [e0]
    simp only [bsome]
    rw [if_neg hk]
theorem FnExactCountSameKeys : laws_FnExactCountSameKeys.Pure := by
  intro s hs
  obtain ⟨K, h⟩ := ev_both (iCountSame_ev s hs) (sCountSame_ev s hs)
  obtain ⟨e1, e2⟩ := h K (Nat.le_refl _)
  refine ⟨K, ?_⟩
  unfold laws_FnExactCountSameKeys.f
  rw [e1, e2]
  simp
end Go.Proofs.YtjnebonphbgkgaaDoor.Pure
