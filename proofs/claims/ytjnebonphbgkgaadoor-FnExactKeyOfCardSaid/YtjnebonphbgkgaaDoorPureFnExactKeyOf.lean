/-
  The pure statement of the law FnExactKeyOf: the program's KeyOf and the reference's agree on every string that can be read. No condition.
-/
import Derived.Test.YtjnebonphbgkgaaDoorPx2
import Derived.Test.YtjnebonphbgkgaaDoorPuPad
namespace Go.Proofs.YtjnebonphbgkgaaDoor.Pure
open Go.RowKit Go.Proofs.YtjnebonphbgkgaaDoor.P Go.Proofs.YtjnebonphbgkgaaDoor.Pu Go.Proofs.YtjnebonphbgkgaaDoorW.PrintWords Go.Proofs.YtjnebonphbgkgaaDoorW.PrintLast

theorem one_byteK (s : ByteArray) (h : s.size = 1) : bytesOf s = [bt s 0] := by
  have := drop_bytes s 0 (by omega)
  simp only [List.drop_zero] at this
  rw [this, show (0 : Nat) + 1 = s.size by omega, drop_end]
  rfl
theorem FnExactKeyOf : laws_FnExactKeyOf.Pure := by
  intro s hs
  obtain ⟨K, h⟩ := prWord_ev s hs
  by_cases hw : wordB s = true
  · have hl := (wordB_iff.1 hw).2
    by_cases h1 : s.size = 1
    · obtain ⟨K', h'⟩ := ev_both (prKey_ev (bt s 0) (hl _ (bt_mem s 0 (by omega)))) (keysOf_ev s (by omega) hl)
      have e1 := h (K + K') (by omega)
      obtain ⟨e2, e3⟩ := h' (K + K') (by omega)
      dsimp only at e1
      have hk := keyN_range (bt s 0)
      refine ⟨K + K', ?_⟩
      unfold laws_FnExactKeyOf.f spec_KeyOf.f impl_KeyOf.f
      have hi : (s.size : Int) = 1 := by omega
      rw [if_neg (by omega), e1, isWord_is s hs]
      simp only [Option.bind_some]
      rw [if_pos hw, if_pos hi, if_pos (by omega), e2, if_pos hw, if_pos hi, e3]
      simp only [Option.bind_some]
      rw [wr32 (by omega) (by omega), encode_small (by omega) (by omega), if_pos (by rw [keysN, one_byteK s h1]; rfl)]
      simp
    · have e1 := h K (by omega)
      dsimp only at e1
      refine ⟨K, ?_⟩
      unfold laws_FnExactKeyOf.f spec_KeyOf.f impl_KeyOf.f
      have hi : ¬ (s.size : Int) = 1 := by omega
      rw [e1, isWord_is s hs]
      simp only [Option.bind_some]
      rw [if_pos hw, if_neg hi, if_pos hw, if_neg hi]
      simp
  · have e1 := h K (by omega)
    dsimp only at e1
    refine ⟨K, ?_⟩
    unfold laws_FnExactKeyOf.f spec_KeyOf.f impl_KeyOf.f
    rw [e1, isWord_is s hs]
    simp only [Option.bind_some]
    rw [if_neg hw, if_neg hw]
    simp
end Go.Proofs.YtjnebonphbgkgaaDoor.Pure
