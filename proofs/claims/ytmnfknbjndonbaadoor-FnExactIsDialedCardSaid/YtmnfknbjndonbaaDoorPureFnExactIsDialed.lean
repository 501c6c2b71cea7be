/-
  The pure statement of the law FnExactIsDialed: the program's IsDialed and the reference's agree on every string that can be read. No condition.
-/
import Derived.Test.YtmnfknbjndonbaaDoorPx1
import Derived.Test.YtmnfknbjndonbaaDoorPuThumb
namespace Go.Proofs.YtmnfknbjndonbaaDoor.Pure
open Go.RowKit Go.Proofs.YtmnfknbjndonbaaDoor.P Go.Proofs.YtmnfknbjndonbaaDoor.Pu Go.Proofs.YtmnfknbjndonbaaDoorW.PrintWords Go.Proofs.YtmnfknbjndonbaaDoorW.PrintLast

theorem FnExactIsDialed : laws_FnExactIsDialed.Pure := by
  intro s hs
  obtain ⟨K, h⟩ := thGood_ev s
  refine ⟨K, ?_⟩
  have e := h K (Nat.le_refl _)
  dsimp only at e
  unfold laws_FnExactIsDialed.f spec_IsDialed.f
  rw [e, isDialed_is s hs]
  simp
end Go.Proofs.YtmnfknbjndonbaaDoor.Pure
