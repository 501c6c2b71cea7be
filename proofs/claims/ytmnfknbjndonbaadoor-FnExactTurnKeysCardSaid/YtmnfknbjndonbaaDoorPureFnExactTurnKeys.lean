/-
  The pure statement of the law FnExactTurnKeys: the program's TurnKeys and the reference's agree on every string that can be read. No condition.
-/
import Derived.Test.YtmnfknbjndonbaaDoorPx3
import Derived.Test.YtmnfknbjndonbaaDoorPx4
import Derived.Test.YtmnfknbjndonbaaDoorPuWalk
namespace Go.Proofs.YtmnfknbjndonbaaDoor.Pure
open Go.RowKit Go.Proofs.YtmnfknbjndonbaaDoor.P Go.Proofs.YtmnfknbjndonbaaDoor.Pu Go.Proofs.YtmnfknbjndonbaaDoorW.PrintWords Go.Proofs.YtmnfknbjndonbaaDoorW.PrintLast

theorem FnExactTurnKeys : laws_FnExactTurnKeys.Pure := by
  intro s hs
  obtain ⟨K, h⟩ := ev_both (overS_ev s true) (turnI_ev s hs)
  obtain ⟨e1, e2⟩ := h K (Nat.le_refl _)
  refine ⟨K, ?_⟩
  unfold laws_FnExactTurnKeys.f spec_TurnKeys.f
  rw [e1, e2]
  simp
end Go.Proofs.YtmnfknbjndonbaaDoor.Pure
