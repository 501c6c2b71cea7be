/-
  The pure statement of the law FnExactKeysOf: the program's KeysOf and the reference's agree on every string that can be read. No condition.
-/
import Derived.Test.YtjnebonphbgkgaaDoorPx4
import Derived.Test.YtjnebonphbgkgaaDoorPuKeysOf
namespace Go.Proofs.YtjnebonphbgkgaaDoor.Pure
open Go.RowKit Go.Proofs.YtjnebonphbgkgaaDoor.P Go.Proofs.YtjnebonphbgkgaaDoor.Pu Go.Proofs.YtjnebonphbgkgaaDoorW.PrintWords Go.Proofs.YtjnebonphbgkgaaDoorW.PrintLast

theorem FnExactKeysOf : laws_FnExactKeysOf.Pure := by
  intro s hs
  obtain ⟨K, h⟩ := ev_both (iKeysOf_ev s hs) (sKeysOf_ev s hs)
  obtain ⟨e1, e2⟩ := h K (Nat.le_refl _)
  refine ⟨K, ?_⟩
  unfold laws_FnExactKeysOf.f
  rw [e1, e2]
  simp
end Go.Proofs.YtjnebonphbgkgaaDoor.Pure
