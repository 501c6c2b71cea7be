/-
  The pure statement of the law FnExactIsWord: the program's IsWord and the reference's agree on every string that can be read. No condition.
-/
import Derived.Test.YtjnebonphbgkgaaDoorPx1
import Derived.Test.YtjnebonphbgkgaaDoorPuWord
namespace Go.Proofs.YtjnebonphbgkgaaDoor.Pure
open Go.RowKit Go.Proofs.YtjnebonphbgkgaaDoor.P Go.Proofs.YtjnebonphbgkgaaDoor.Pu Go.Proofs.YtjnebonphbgkgaaDoorW.PrintWords Go.Proofs.YtjnebonphbgkgaaDoorW.PrintLast

theorem FnExactIsWord : laws_FnExactIsWord.Pure := by
  intro s hs
  obtain ⟨K, h⟩ := prWord_ev s hs
  refine ⟨K, ?_⟩
  unfold laws_FnExactIsWord.f spec_IsWord.f
  by_cases hb : (s.size : Int) > 1048576
  · rw [if_pos hb]
  · have e := h K (Nat.le_refl _)
    dsimp only at e
    rw [if_neg hb, e, isWord_is s hs]
    simp
end Go.Proofs.YtjnebonphbgkgaaDoor.Pure
