/-
  The pure statement of the law FnExactFarthestNext: the program's FarthestNext and the reference's agree on every string that can be read. No condition.
-/
import Derived.Test.YtmnfknbjndonbaaDoorPx5
import Derived.Test.YtmnfknbjndonbaaDoorPuWalk
namespace Go.Proofs.YtmnfknbjndonbaaDoor.Pure
open Go.RowKit Go.Proofs.YtmnfknbjndonbaaDoor.P Go.Proofs.YtmnfknbjndonbaaDoor.Pu Go.Proofs.YtmnfknbjndonbaaDoorW.PrintWords Go.Proofs.YtmnfknbjndonbaaDoorW.PrintLast

theorem FnExactFarthestNext : laws_FnExactFarthestNext.Pure := by
  intro s c hs
  obtain ⟨K, h⟩ := ev_both (farS_ev s c) (farI_ev s hs c)
  obtain ⟨e1, e2⟩ := h K (Nat.le_refl _)
  refine ⟨K, ?_⟩
  unfold laws_FnExactFarthestNext.f
  rw [e1, e2]
  simp
end Go.Proofs.YtmnfknbjndonbaaDoor.Pure
