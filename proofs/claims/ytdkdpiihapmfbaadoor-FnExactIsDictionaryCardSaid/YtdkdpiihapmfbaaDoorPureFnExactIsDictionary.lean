/-
  The pure statement of the law FnExactIsDictionary: the program's IsDictionary and the reference's agree on every list of strings that can be read. No condition.
-/
import Derived.Test.YtdkdpiihapmfbaaDoorPx1
import Derived.Test.YtdkdpiihapmfbaaDoorPx3
import Derived.Test.YtdkdpiihapmfbaaDoorPuDict
namespace Go.Proofs.YtdkdpiihapmfbaaDoor.Pure
open Go.RowKit Go.Proofs.YtdkdpiihapmfbaaDoor.P Go.Proofs.YtdkdpiihapmfbaaDoor.Pu Go.Proofs.YtdkdpiihapmfbaaDoorW.PrintWords Go.Proofs.YtdkdpiihapmfbaaDoorW.PrintLast

theorem FnExactIsDictionary : laws_FnExactIsDictionary.Pure := by
  intro L _ hl hL
  obtain ⟨r, ⟨K1, h1⟩, hr⟩ := szS_ev L (by omega) hL
  rcases hr with hr | ⟨hn, hx⟩
  · refine ⟨K1, ?_⟩
    have e1 := h1 K1 (Nat.le_refl _)
    dsimp only at e1
    unfold laws_FnExactIsDictionary.f
    rw [e1, bsome, if_pos hr]
  · have hx' : ∀ x ∈ L, x.size ≤ 140737488351232 := fun x h => by have := hx x h; omega
    obtain ⟨K2, h2⟩ := toS_ev L hn
    obtain ⟨K3, h3⟩ := wdGood_ev L (by omega) hx'
    obtain ⟨K4, h4⟩ := isDict_ev L (by omega) hx'
    obtain ⟨K5, h5⟩ := eqS_ev L (by omega)
    refine ⟨K1 + K2 + K3 + K4 + K5, ?_⟩
    have e1 := h1 (K1 + K2 + K3 + K4 + K5) (by omega)
    have e2 := h2 (K1 + K2 + K3 + K4 + K5) (by omega)
    have e3 := h3 (K1 + K2 + K3 + K4 + K5) (by omega)
    have e4 := h4 (K1 + K2 + K3 + K4 + K5) (by omega)
    have e5 := h5 (K1 + K2 + K3 + K4 + K5) (by omega)
    dsimp only at e1 e2 e3 e4 e5
    unfold laws_FnExactIsDictionary.f spec_IsDictionary.f
    rw [e1, bsome]
    by_cases h0 : r < 0
    · rw [if_pos h0]
    · rw [if_neg h0, e2, bsome, e3, bsome, bsome, bsome, e4, bsome, if_neg (by simp), bsome, e5, bsome, if_pos rfl]
end Go.Proofs.YtdkdpiihapmfbaaDoor.Pure
