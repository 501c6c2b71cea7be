/-
  The pure statement of the law FnExactCountPresses: the program's CountPresses and the reference's agree on every string that can be read. No condition.
-/
import Derived.Test.YtjnebonphbgkgaaDoorPx3
import Derived.Test.YtjnebonphbgkgaaDoorPuCount
namespace Go.Proofs.YtjnebonphbgkgaaDoor.Pure
open Go.RowKit Go.Proofs.YtjnebonphbgkgaaDoor.P Go.Proofs.YtjnebonphbgkgaaDoor.Pu Go.Proofs.YtjnebonphbgkgaaDoorW.PrintWords Go.Proofs.YtjnebonphbgkgaaDoorW.PrintLast

theorem FnExactCountPresses : laws_FnExactCountPresses.Pure := by
  intro s hs
  obtain ⟨K, h⟩ := ev_both (countPresses_ev s hs) (sCountPresses_ev s hs)
  obtain ⟨e1, e2⟩ := h K (Nat.le_refl _)
  refine ⟨K, ?_⟩
  unfold laws_FnExactCountPresses.f
  rw [e1, e2]
  simp
end Go.Proofs.YtjnebonphbgkgaaDoor.Pure
