/-
  The pure statement of the law FnExactOneThumb: the program's OneThumb and the reference's agree on every string that can be read. No condition.
-/
import Derived.Test.YtmnfknbjndonbaaDoorPx7
import Derived.Test.YtmnfknbjndonbaaDoorPuWalk
namespace Go.Proofs.YtmnfknbjndonbaaDoor.Pure
open Go.RowKit Go.Proofs.YtmnfknbjndonbaaDoor.P Go.Proofs.YtmnfknbjndonbaaDoor.Pu Go.Proofs.YtmnfknbjndonbaaDoorW.PrintWords Go.Proofs.YtmnfknbjndonbaaDoorW.PrintLast

theorem FnExactOneThumb : laws_FnExactOneThumb.Pure := by
  intro s t c hs ht
  obtain ⟨K, h⟩ := ev_both (oneThumbS_ev s t c) (oneThumbI_ev s t c hs ht)
  obtain ⟨e1, e2⟩ := h K (Nat.le_refl _)
  refine ⟨K, ?_⟩
  unfold laws_FnExactOneThumb.f
  rw [e1, e2]
  simp
end Go.Proofs.YtmnfknbjndonbaaDoor.Pure
