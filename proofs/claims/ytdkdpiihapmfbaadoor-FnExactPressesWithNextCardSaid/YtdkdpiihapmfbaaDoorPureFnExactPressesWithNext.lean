/-
  The pure statement of the law FnExactPressesWithNext: the program's PressesWithNext and the reference's agree on all arguments that can be read. No condition.
-/
import Derived.Test.YtdkdpiihapmfbaaDoorPx14
import Derived.Test.YtdkdpiihapmfbaaDoorPuListed
namespace Go.Proofs.YtdkdpiihapmfbaaDoor.Pure
open Go.RowKit Go.Proofs.YtdkdpiihapmfbaaDoor.P Go.Proofs.YtdkdpiihapmfbaaDoor.Pu Go.Proofs.YtdkdpiihapmfbaaDoorW.PrintWords Go.Proofs.YtdkdpiihapmfbaaDoorW.PrintLast

theorem FnExactPressesWithNext : laws_FnExactPressesWithNext.Pure := by
  intro L x _ hl hL _
  by_cases hz : (x.size : Int) > 1048576
  · exact ⟨0, by unfold laws_FnExactPressesWithNext.f; rw [if_pos hz]⟩
  obtain ⟨r, ⟨K1, h1⟩, hr⟩ := szS_ev L (by omega) hL
  rcases hr with hr | ⟨hn, hx⟩
  · refine ⟨K1, ?_⟩
    have e1 := h1 K1 (Nat.le_refl _)
    dsimp only at e1
    unfold laws_FnExactPressesWithNext.f
    rw [if_neg hz, e1, bsome, if_pos hr]
  · have hx' : ∀ x ∈ L, x.size ≤ 140737488351232 := fun x h => by have := hx x h; omega
    obtain ⟨K2, h2⟩ := toS_ev L hn
    obtain ⟨K3, h3⟩ := nextS_ev L (by omega) hx' x
    obtain ⟨K4, h4⟩ := nextI_ev L (by omega) hx' x
    obtain ⟨K5, h5⟩ := eqS_ev L (by omega)
    generalize hK : K1 + K2 + K3 + K4 + K5 = K
    refine ⟨K + 1, ?_⟩
    have a1 := h1 (K + 1) (by omega)
    have a2 := h2 (K + 1) (by omega)
    have b2 := h2 K (by omega)
    have a3 := h3 (K + 1) (by omega)
    have a4 := h4 (K + 1) (by omega)
    have b5 := h5 K (by omega)
    dsimp only at a1 a2 b2 a3 a4 b5
    unfold laws_FnExactPressesWithNext.f
    rw [if_neg hz, a1, bsome]
    by_cases h0 : r < 0
    · rw [if_pos h0]
    · rw [if_neg h0, a2, bsome, a3, bsome, bsome, a4, bsome, if_pos rfl]
      simp only [laws_FnExactPressesWithNext.j0]
      rw [if_neg (by simp), b2, bsome, b5, bsome, if_pos rfl]
end Go.Proofs.YtdkdpiihapmfbaaDoor.Pure
