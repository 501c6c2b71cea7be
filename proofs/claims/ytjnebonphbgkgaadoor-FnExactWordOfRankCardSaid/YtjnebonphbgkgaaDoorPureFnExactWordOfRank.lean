/-
  The pure statement of the law FnExactWordOfRank: the program's WordOfRank and the reference's agree on every string and number that can be read. No condition.
-/
import Derived.Test.YtjnebonphbgkgaaDoorPx7
import Derived.Test.YtjnebonphbgkgaaDoorPuRank
namespace Go.Proofs.YtjnebonphbgkgaaDoor.Pure
open Go.RowKit Go.Proofs.YtjnebonphbgkgaaDoor.P Go.Proofs.YtjnebonphbgkgaaDoor.Pu Go.Proofs.YtjnebonphbgkgaaDoorW.PrintWords Go.Proofs.YtjnebonphbgkgaaDoorW.PrintLast

theorem FnExactWordOfRank : laws_FnExactWordOfRank.Pure := by
  intro s r hs _
  obtain ⟨K, h⟩ := ev_both (iWordOfRank_ev s r hs) (sWordOfRank_ev s r hs)
  obtain ⟨e1, e2⟩ := h K (Nat.le_refl _)
  refine ⟨K, ?_⟩
  unfold laws_FnExactWordOfRank.f
  rw [e1, e2]
  simp
end Go.Proofs.YtjnebonphbgkgaaDoor.Pure
