/-
  The pure statement of the law FnExactKeysOfMoves: the program's KeysOfMoves and the reference's agree on every pair of strings that can be read. No condition.
-/
import Derived.Test.YtmnfknbjndonbaaDoorPx10
import Derived.Test.YtmnfknbjndonbaaDoorPuMoves
namespace Go.Proofs.YtmnfknbjndonbaaDoor.Pure
open Go.RowKit Go.Proofs.YtmnfknbjndonbaaDoor.P Go.Proofs.YtmnfknbjndonbaaDoor.Pu Go.Proofs.YtmnfknbjndonbaaDoorW.PrintWords Go.Proofs.YtmnfknbjndonbaaDoorW.PrintLast

theorem FnExactKeysOfMoves : laws_FnExactKeysOfMoves.Pure := by
  intro s t hs _
  obtain ⟨K, h⟩ := ev_both (keysS_ev s t) (keysI_ev s t hs)
  obtain ⟨e1, e2⟩ := h K (Nat.le_refl _)
  refine ⟨K, ?_⟩
  unfold laws_FnExactKeysOfMoves.f
  rw [e1, e2]
  simp
end Go.Proofs.YtmnfknbjndonbaaDoor.Pure
