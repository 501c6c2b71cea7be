/-
  The pure statement of the law FnExactPressesFor: the program's PressesFor and the reference's agree on every string that can be read. No condition.
-/
import Derived.Test.YtjnebonphbgkgaaDoorPx2
import Derived.Test.YtjnebonphbgkgaaDoorPx3
import Derived.Test.YtjnebonphbgkgaaDoorPuCount
namespace Go.Proofs.YtjnebonphbgkgaaDoor.Pure
open Go.RowKit Go.Proofs.YtjnebonphbgkgaaDoor.P Go.Proofs.YtjnebonphbgkgaaDoor.Pu Go.Proofs.YtjnebonphbgkgaaDoorW.PrintWords Go.Proofs.YtjnebonphbgkgaaDoorW.PrintLast

theorem one_byte (s : ByteArray) (h : s.size = 1) : bytesOf s = [bt s 0] := by
  have := drop_bytes s 0 (by omega)
  simp only [List.drop_zero] at this
  rw [this, show (0 : Nat) + 1 = s.size by omega, drop_end]
  rfl
theorem FnExactPressesFor : laws_FnExactPressesFor.Pure := by
  intro s hs
  obtain ⟨K, h⟩ := ev_both (countPresses_ev s hs) (prWord_ev s hs)
  by_cases h1 : s.size = 1
  · by_cases hw : wordB s = true
    · have hl := (wordB_iff.1 hw).2
      obtain ⟨K', h'⟩ := prKey_ev (bt s 0) (hl _ (bt_mem s 0 (by omega)))
      obtain ⟨e1, e2⟩ := h (K + K') (by omega)
      have e3 := h' (K + K') (by omega)
      dsimp only at e3
      refine ⟨K + K', ?_⟩
      unfold laws_FnExactPressesFor.f spec_PressesFor.f impl_PressesFor.f
      have hi : (s.size : Int) = 1 := by omega
      rw [e1, e2, if_neg (by omega), if_pos hw]
      simp only [Option.bind_some]
      rw [if_pos hw, if_pos hi, if_pos (by omega), if_pos hi, e3]
      simp only [Option.bind_some]
      rw [one_byte s h1]
      simp [pressN]
    · obtain ⟨e1, e2⟩ := h K (by omega)
      refine ⟨K, ?_⟩
      unfold laws_FnExactPressesFor.f spec_PressesFor.f impl_PressesFor.f
      have hi : (s.size : Int) = 1 := by omega
      rw [e1, e2, if_neg (by omega), if_neg hw]
      simp only [Option.bind_some]
      rw [if_neg hw, if_pos hi]
      simp
  · obtain ⟨e1, e2⟩ := h K (by omega)
    refine ⟨K, ?_⟩
    unfold laws_FnExactPressesFor.f spec_PressesFor.f impl_PressesFor.f
    have hi : ¬ (s.size : Int) = 1 := by omega
    rw [e2]
    simp only [Option.bind_some]
    rw [if_neg hi, if_neg hi]
    by_cases hw : wordB s = true
    · rw [if_pos hw]; simp
    · rw [if_neg hw]; simp
end Go.Proofs.YtjnebonphbgkgaaDoor.Pure
