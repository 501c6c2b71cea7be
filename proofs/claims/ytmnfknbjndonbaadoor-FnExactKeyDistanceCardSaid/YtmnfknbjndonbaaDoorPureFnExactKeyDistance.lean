/-
  The pure statement of the law FnExactKeyDistance: the program's KeyDistance and the reference's agree on every string that can be read. No condition.
-/
import Derived.Test.YtmnfknbjndonbaaDoorPx2
import Derived.Test.YtmnfknbjndonbaaDoorPuWalk
namespace Go.Proofs.YtmnfknbjndonbaaDoor.Pure
open Go.RowKit Go.Proofs.YtmnfknbjndonbaaDoor.P Go.Proofs.YtmnfknbjndonbaaDoor.Pu Go.Proofs.YtmnfknbjndonbaaDoorW.PrintWords Go.Proofs.YtmnfknbjndonbaaDoorW.PrintLast

theorem FnExactKeyDistance : laws_FnExactKeyDistance.Pure := by
  intro s t c hs ht
  obtain ⟨K, h⟩ := ev_both (keyDistS_ev s t c) (keyDistI_ev s t c hs ht)
  obtain ⟨e1, e2⟩ := h K (Nat.le_refl _)
  refine ⟨K, ?_⟩
  unfold laws_FnExactKeyDistance.f
  rw [e1, e2]
  simp
end Go.Proofs.YtmnfknbjndonbaaDoor.Pure
