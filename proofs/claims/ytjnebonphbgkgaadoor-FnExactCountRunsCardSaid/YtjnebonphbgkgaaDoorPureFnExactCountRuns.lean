/-
  The pure statement of the law FnExactCountRuns: the program's CountRuns and the reference's agree on every string that can be read. No condition.
-/
import Derived.Test.YtjnebonphbgkgaaDoorPx11
import Derived.Test.YtjnebonphbgkgaaDoorPuRuns
namespace Go.Proofs.YtjnebonphbgkgaaDoor.Pure
open Go.RowKit Go.Proofs.YtjnebonphbgkgaaDoor.P Go.Proofs.YtjnebonphbgkgaaDoor.Pu Go.Proofs.YtjnebonphbgkgaaDoorW.PrintWords Go.Proofs.YtjnebonphbgkgaaDoorW.PrintLast

theorem FnExactCountRuns : laws_FnExactCountRuns.Pure := by
  intro s hs
  have hl := runsT_length s
  obtain ⟨K1, h1⟩ := ev_both (runsS_ev s) (runsI_ev s hs)
  obtain ⟨K2, h2⟩ := eqInt_ev (runsT s).1 hl
  obtain ⟨K3, h3⟩ := mark_ev (runsT s).1 hl
  obtain ⟨K4, h4⟩ := held_ev (runsT s).1.length hl
  refine ⟨K1 + K2 + K3 + K4 + 2, ?_⟩
  obtain ⟨e1, e2⟩ := h1 (K1 + K2 + K3 + K4 + 2) (by omega)
  have e2' := (h1 (K1 + K2 + K3 + K4 + 1) (by omega)).2
  have e3 := h2 (K1 + K2 + K3 + K4 + 2) (by omega)
  have e3' := h2 (K1 + K2 + K3 + K4 + 1) (by omega)
  have e4 := h3 (K1 + K2 + K3 + K4 + 1) (by omega)
  have e5 := h4 (K1 + K2 + K3 + K4 + 1) (by omega)
  have e6 := h4 (K1 + K2 + K3 + K4) (by omega)
  dsimp only at e3 e3' e4 e5 e6
  unfold laws_FnExactCountRuns.f
  by_cases hz : (s.size : Int) > 1048576
  · rw [if_pos hz]
  · rw [if_neg hz, e1, bsome, e2, bsome, e3, bsome, if_pos rfl]
    simp only [laws_FnExactCountRuns.j0]
    rw [if_neg (by simp), e4, bsome, e5, bsome, if_neg (by omega), if_pos rfl, e2', bsome, e3', bsome, if_pos rfl]
    simp only [laws_FnExactCountRuns.j1]
    rw [if_neg (by simp), e6, bsome, if_neg (by omega), if_pos rfl]
end Go.Proofs.YtjnebonphbgkgaaDoor.Pure
