/-
  The pure statement of the law FnExactWordsFor: the program's WordsFor and the reference's agree on all arguments that can be read. No condition.
-/
import Derived.Test.YtdkdpiihapmfbaaDoorPx10
import Derived.Test.YtdkdpiihapmfbaaDoorPx11
import Derived.Test.YtdkdpiihapmfbaaDoorPuPicks
import Derived.Test.YtdkdpiihapmfbaaDoorPuMarkS
namespace Go.Proofs.YtdkdpiihapmfbaaDoor.Pure
open Go.RowKit Go.Proofs.YtdkdpiihapmfbaaDoor.P Go.Proofs.YtdkdpiihapmfbaaDoor.Pu Go.Proofs.YtdkdpiihapmfbaaDoorW.PrintWords Go.Proofs.YtdkdpiihapmfbaaDoorW.PrintLast

def toldWordsFor (L : List ByteArray) (keys : ByteArray) : List ByteArray × Bool := if askedB L keys = true then (L.filter (justP keys), true) else ([], false)
theorem sWordsFor_ev (L : List ByteArray) (hl : L.length ≤ 1048576) (hL : ∀ x ∈ L, x.size ≤ 140737488351232) (keys : ByteArray) (hk : keys.size ≤ 140737488351232) : Ev (fun k => spec_WordsFor.f k L keys) (toldWordsFor L keys) := by
  obtain ⟨K1, h1⟩ := wdAsked_ev L (by omega) hL keys hk
  unfold toldWordsFor
  cases ha : askedB L keys with
  | false =>
    refine ⟨K1, fun k hk => ?_⟩
    have e1 := h1 k hk
    rw [ha] at e1
    dsimp only at e1 ⊢
    unfold spec_WordsFor.f
    rw [e1, bsome]
    rfl
  | true =>
    obtain ⟨K2, h2⟩ := wdBegins_ev L (askedB_iff ha).1 keys hk true
    refine ⟨K1 + K2, fun k hk => ?_⟩
    have e1 := h1 k (by omega)
    have e2 := h2 k (by omega)
    rw [ha] at e1
    dsimp only at e1 e2 ⊢
    unfold spec_WordsFor.f
    rw [e1, bsome, if_pos rfl, e2, bsome]
    rfl
theorem iWordsFor_ev (L : List ByteArray) (hl : L.length ≤ 1048576) (hL : ∀ x ∈ L, x.size ≤ 140737488351232) (keys : ByteArray) (hk : keys.size ≤ 140737488351232) : Ev (fun k => impl_WordsFor.f k L keys) (toldWordsFor L keys) := by
  obtain ⟨K1, h1⟩ := splitOk_ev L (by omega) hL keys hk
  unfold toldWordsFor
  cases ha : askedB L keys with
  | false =>
    refine ⟨K1, fun k hk => ?_⟩
    have e1 := h1 k hk
    rw [ha] at e1
    dsimp only at e1 ⊢
    unfold impl_WordsFor.f
    rw [e1, bsome]
    rfl
  | true =>
    obtain ⟨K2, h2⟩ := wordsFor_ev L (askedB_iff ha).1 keys
    refine ⟨K1 + K2, fun k hk => ?_⟩
    have e1 := h1 k (by omega)
    have e2 := h2 k (by omega)
    rw [ha] at e1
    dsimp only at e1 e2 ⊢
    unfold impl_WordsFor.f
    rw [e1, bsome, if_pos rfl, e2, bsome]
    rfl
theorem toldWordsFor_length (L : List ByteArray) (hl : L.length ≤ 1048576) (keys : ByteArray) : (toldWordsFor L keys).1.length ≤ 1048576 := by
  unfold toldWordsFor
  split
  · exact Nat.le_trans (List.length_filter_le _ _) hl
  · simp
theorem FnExactWordsFor : laws_FnExactWordsFor.Pure := by
  intro L keys _ hl hL hk
  by_cases hz : (keys.size : Int) > 1048576
  · exact ⟨0, by unfold laws_FnExactWordsFor.f; rw [if_pos hz]⟩
  obtain ⟨r, ⟨K1, h1⟩, hr⟩ := szS_ev L (by omega) hL
  rcases hr with hr | ⟨hn, hx⟩
  · refine ⟨K1, ?_⟩
    have e1 := h1 K1 (Nat.le_refl _)
    dsimp only at e1
    unfold laws_FnExactWordsFor.f
    rw [if_neg hz, e1, bsome, if_pos hr]
  · have hx' : ∀ x ∈ L, x.size ≤ 140737488351232 := fun x h => by have := hx x h; omega
    have ht := toldWordsFor_length L hn keys
    obtain ⟨K2, h2⟩ := toS_ev L hn
    obtain ⟨K3, h3⟩ := sWordsFor_ev L hn hx' keys hk
    obtain ⟨K4, h4⟩ := iWordsFor_ev L hn hx' keys hk
    obtain ⟨K5, h5⟩ := eqS_ev L (by omega)
    obtain ⟨K6, h6⟩ := eqS_ev (toldWordsFor L keys).1 (by omega)
    obtain ⟨K7, h7⟩ := markS_ev L (by omega)
    obtain ⟨K8, h8⟩ := markS_ev (toldWordsFor L keys).1 (by omega)
    obtain ⟨K9, h9⟩ := heldS_ev (toldWordsFor L keys).1.length (by omega)
    generalize hK : K1 + K2 + K3 + K4 + K5 + K6 + K7 + K8 + K9 = K
    refine ⟨K + 3, ?_⟩
    have a1 := h1 (K + 3) (by omega)
    have a2 := h2 (K + 3) (by omega)
    have b2 := h2 (K + 2) (by omega)
    have c2 := h2 (K + 1) (by omega)
    have a3 := h3 (K + 3) (by omega)
    have a4 := h4 (K + 3) (by omega)
    have c4 := h4 (K + 1) (by omega)
    have b5 := h5 (K + 2) (by omega)
    have a6 := h6 (K + 3) (by omega)
    have b6 := h6 (K + 2) (by omega)
    have c6 := h6 (K + 1) (by omega)
    have b7 := h7 (K + 2) (by omega)
    have c8 := h8 (K + 1) (by omega)
    have c9 := h9 (K + 1) (by omega)
    have d9 := h9 K (by omega)
    dsimp only at a1 a2 b2 c2 a3 a4 c4 b5 a6 b6 c6 b7 c8 c9 d9
    unfold laws_FnExactWordsFor.f
    rw [if_neg hz, a1, bsome]
    by_cases h0 : r < 0
    · rw [if_pos h0]
    · rw [if_neg h0, a2, bsome, a3, bsome, bsome, a4, bsome, a6, bsome, if_pos rfl]
      simp only [laws_FnExactWordsFor.j0]
      rw [if_neg (by simp), b2, bsome, b5, bsome, if_pos rfl, b7, bsome, if_neg (by omega), b6, bsome, if_pos rfl]
      simp only [laws_FnExactWordsFor.j1]
      rw [if_neg (by simp), c8, bsome, c9, bsome, if_neg (by omega), if_pos rfl, c2, bsome, c4, bsome, c6, bsome, if_pos rfl]
      simp only [laws_FnExactWordsFor.j2]
      rw [if_neg (by simp), d9, bsome, if_neg (by omega), if_pos rfl]
end Go.Proofs.YtdkdpiihapmfbaaDoor.Pure
