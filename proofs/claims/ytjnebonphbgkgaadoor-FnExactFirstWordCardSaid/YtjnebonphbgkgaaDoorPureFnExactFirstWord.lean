/-
  The pure statement of the law FnExactFirstWord: the program's FirstWord and the reference's agree on every string that can be read. No condition.
-/
import Derived.Test.YtjnebonphbgkgaaDoorPx6
import Derived.Test.YtjnebonphbgkgaaDoorPuFirst
namespace Go.Proofs.YtjnebonphbgkgaaDoor.Pure
open Go.RowKit Go.Proofs.YtjnebonphbgkgaaDoor.P Go.Proofs.YtjnebonphbgkgaaDoor.Pu Go.Proofs.YtjnebonphbgkgaaDoorW.PrintWords Go.Proofs.YtjnebonphbgkgaaDoorW.PrintLast

theorem FnExactFirstWord : laws_FnExactFirstWord.Pure := by
  intro s hs
  obtain ⟨K, h⟩ := ev_both (iFirstWord_ev s hs) (sFirstWord_ev s hs)
  obtain ⟨e1, e2⟩ := h K (Nat.le_refl _)
  refine ⟨K, ?_⟩
  unfold laws_FnExactFirstWord.f
  rw [e1, e2]
  simp
end Go.Proofs.YtjnebonphbgkgaaDoor.Pure
