/-
  The pure statement of the law FnExactThumbPlan: the program's ThumbPlan and the reference's agree on all arguments that can be read. No condition.
-/
import Derived.Test.YtmnfknbjndonbaaDoorPx24
import Derived.Test.YtmnfknbjndonbaaDoorPuPlan
namespace Go.Proofs.YtmnfknbjndonbaaDoor.Pure
open Go.RowKit Go.Proofs.YtmnfknbjndonbaaDoor.P Go.Proofs.YtmnfknbjndonbaaDoor.Pu Go.Proofs.YtmnfknbjndonbaaDoorW.PrintWords Go.Proofs.YtmnfknbjndonbaaDoorW.PrintLast

theorem FnExactThumbPlan : laws_FnExactThumbPlan.Pure := by
  intro s l r T c hs hl hr _ hT _
  by_cases h1 : (s.size : Int) > 1048576
  · exact ⟨0, by unfold laws_FnExactThumbPlan.f; rw [if_pos h1]⟩
  by_cases h2 : (l.size : Int) > 1048576
  · exact ⟨0, by unfold laws_FnExactThumbPlan.f; rw [if_neg h1, if_pos h2]⟩
  by_cases h3 : (r.size : Int) > 1048576
  · exact ⟨0, by unfold laws_FnExactThumbPlan.f; rw [if_neg h1, if_neg h2, if_pos h3]⟩
  by_cases h4 : (T.length : Int) > 1048576
  · exact ⟨0, by unfold laws_FnExactThumbPlan.f; rw [if_neg h1, if_neg h2, if_neg h3, if_pos h4]⟩
  obtain ⟨K1, e1⟩ := toI_ev T (by omega)
  obtain ⟨K2, e2⟩ := ev_both (planS_ev s l r T c (by omega)) (planI_ev s l r T c hs hl hr)
  obtain ⟨K3, e3⟩ := eqInt_ev T (by omega)
  refine ⟨K1 + K2 + K3 + 1, ?_⟩
  have f1 := e1 (K1 + K2 + K3 + 1) (by omega)
  have f1' := e1 (K1 + K2 + K3) (by omega)
  obtain ⟨f2, f3⟩ := e2 (K1 + K2 + K3 + 1) (by omega)
  have f4 := e3 (K1 + K2 + K3) (by omega)
  dsimp only at f1 f1' f4
  unfold laws_FnExactThumbPlan.f
  rw [if_neg h1, if_neg h2, if_neg h3, if_neg h4, f1, bsome, f2, bsome, bsome, f3, bsome, if_pos rfl]
  simp only [laws_FnExactThumbPlan.j0]
  rw [if_neg (by simp), f1', bsome, f4, bsome, if_pos rfl]
end Go.Proofs.YtmnfknbjndonbaaDoor.Pure
