/-
  The pure statement of the law FnExactSameKeys: the program's SameKeys and the reference's agree on all strings that can be read. No condition.
-/
import Derived.Test.YtjnebonphbgkgaaDoorPx8
import Derived.Test.YtjnebonphbgkgaaDoorPuPad
namespace Go.Proofs.YtjnebonphbgkgaaDoor.Pure
open Go.RowKit Go.Proofs.YtjnebonphbgkgaaDoor.P Go.Proofs.YtjnebonphbgkgaaDoor.Pu Go.Proofs.YtjnebonphbgkgaaDoorW.PrintWords Go.Proofs.YtjnebonphbgkgaaDoorW.PrintLast

def sameKeysR (s t : ByteArray) : Bool × Bool := if wordB s = true ∧ wordB t = true then (((keysN s).toList == (keysN t).toList), true) else (false, false)
theorem iSameKeys_ev (s t : ByteArray) (hs : s.size ≤ 140737488351232) (ht : t.size ≤ 140737488351232) : Ev (fun k => impl_SameKeys.f k s t) (sameKeysR s t) := by
  by_cases hw : wordB s = true
  · by_cases hv : wordB t = true
    · obtain ⟨⟨_, h2⟩, hl⟩ := wordB_iff.1 hw
      obtain ⟨⟨_, h2'⟩, hl'⟩ := wordB_iff.1 hv
      obtain ⟨K, h⟩ := ev_both (keysOf_ev s (by omega) hl) (keysOf_ev t (by omega) hl')
      refine ev_from K fun k hk => ?_
      obtain ⟨e, e'⟩ := h k hk
      unfold impl_SameKeys.f sameKeysR
      rw [isWord_is s hs, isWord_is t ht]
      simp only [Option.bind_some]
      rw [if_pos hw, if_pos ⟨hw, hv⟩]
      simp only [impl_SameKeys.j0]
      rw [hv, if_neg (by simp), e, e']
      rfl
    · refine ev_from 0 fun k hk => ?_
      unfold impl_SameKeys.f sameKeysR
      rw [isWord_is s hs, isWord_is t ht]
      simp only [Option.bind_some]
      rw [if_pos hw, if_neg (fun h => hv h.2)]
      simp only [impl_SameKeys.j0]
      rw [if_pos (by simp [hv])]
  · refine ev_from 0 fun k hk => ?_
    unfold impl_SameKeys.f sameKeysR
    rw [isWord_is s hs]
    simp only [Option.bind_some]
    rw [if_neg hw, if_neg (fun h => hw h.1)]
    simp only [impl_SameKeys.j0]
    rw [if_pos trivial]
theorem sSameKeys_ev (s t : ByteArray) (hs : s.size ≤ 140737488351232) (ht : t.size ≤ 140737488351232) : Ev (fun k => spec_SameKeys.f k s t) (sameKeysR s t) := by
  obtain ⟨K0, h0⟩ := ev_both (prWord_ev s hs) (prWord_ev t ht)
  by_cases hw : wordB s = true
  · by_cases hv : wordB t = true
    · obtain ⟨⟨_, h2⟩, hl⟩ := wordB_iff.1 hw
      obtain ⟨⟨_, h2'⟩, hl'⟩ := wordB_iff.1 hv
      obtain ⟨K, h⟩ := ev_both (prKeys_ev s (by omega) hl) (prKeys_ev t (by omega) hl')
      refine ev_from (K0 + K) fun k hk => ?_
      obtain ⟨e, e'⟩ := h k (by omega)
      obtain ⟨d, d'⟩ := h0 (k + 1) (by omega)
      unfold spec_SameKeys.f sameKeysR
      rw [d, d']
      simp only [Option.bind_some]
      rw [if_pos hw, if_pos ⟨hw, hv⟩]
      simp only [spec_SameKeys.j0]
      rw [hv, if_neg (by simp), e, e']
      rfl
    · refine ev_from K0 fun k hk => ?_
      obtain ⟨d, d'⟩ := h0 (k + 1) (by omega)
      unfold spec_SameKeys.f sameKeysR
      rw [d, d']
      simp only [Option.bind_some]
      rw [if_pos hw, if_neg (fun h => hv h.2)]
      simp only [spec_SameKeys.j0]
      rw [if_pos (by simp [hv])]
  · refine ev_from K0 fun k hk => ?_
    obtain ⟨d, d'⟩ := h0 (k + 1) (by omega)
    unfold spec_SameKeys.f sameKeysR
    rw [d]
    simp only [Option.bind_some]
    rw [if_neg hw, if_neg (fun h => hw h.1)]
    simp only [spec_SameKeys.j0]
    rw [if_pos trivial]
theorem FnExactSameKeys : laws_FnExactSameKeys.Pure := by
  intro s t hs ht
  obtain ⟨K, h⟩ := ev_both (iSameKeys_ev s t hs ht) (sSameKeys_ev s t hs ht)
  obtain ⟨e1, e2⟩ := h K (Nat.le_refl _)
  refine ⟨K, ?_⟩
  unfold laws_FnExactSameKeys.f
  rw [e1, e2]
  simp
end Go.Proofs.YtjnebonphbgkgaaDoor.Pure
