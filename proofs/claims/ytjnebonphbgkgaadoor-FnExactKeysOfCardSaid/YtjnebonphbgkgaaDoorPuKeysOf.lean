/-
  KeysOf, of the program and of the reference. Condition: a string that can be read.
-/
import Derived.Test.YtjnebonphbgkgaaDoorPx3
import Derived.Test.YtjnebonphbgkgaaDoorPx4
import Derived.Test.YtjnebonphbgkgaaDoorPuPad
namespace Go.Proofs.YtjnebonphbgkgaaDoor.Pu
open Go.RowKit Go.Proofs.YtjnebonphbgkgaaDoor.P Go.Proofs.YtjnebonphbgkgaaDoorW.PrintWords Go.Proofs.YtjnebonphbgkgaaDoorW.PrintLast

theorem iKeysOf_ev (s : ByteArray) (hs : s.size ≤ 140737488351232) : Ev (fun k => impl_KeysOf.f k s) (if wordB s = true then (keysN s, true) else ((⟨#[]⟩ : ByteArray), false)) := by
  by_cases hw : wordB s = true
  · obtain ⟨⟨_, h2⟩, hl⟩ := wordB_iff.1 hw
    obtain ⟨K, e⟩ := keysOf_ev s (by omega) hl
    refine ⟨K, fun k hk => ?_⟩
    have e := e k hk
    dsimp only at e ⊢
    unfold impl_KeysOf.f
    rw [isWord_is s hs]
    simp only [Option.bind_some]
    rw [if_pos hw, if_pos hw, e]
    rfl
  · refine ⟨0, fun k hk => ?_⟩
    dsimp only
    unfold impl_KeysOf.f
    rw [isWord_is s hs]
    simp only [Option.bind_some]
    rw [if_neg hw, if_neg hw]
theorem sKeysOf_ev (s : ByteArray) (hs : s.size ≤ 140737488351232) : Ev (fun k => spec_KeysOf.f k s) (if wordB s = true then (keysN s, true) else ((⟨#[]⟩ : ByteArray), false)) := by
  obtain ⟨K0, e0⟩ := prWord_ev s hs
  by_cases hw : wordB s = true
  · obtain ⟨⟨_, h2⟩, hl⟩ := wordB_iff.1 hw
    obtain ⟨K, e⟩ := prKeys_ev s (by omega) hl
    refine ⟨K0 + K, fun k hk => ?_⟩
    have e := e k (by omega)
    have e0 := e0 k (by omega)
    dsimp only at e e0 ⊢
    unfold spec_KeysOf.f
    rw [e0]
    simp only [Option.bind_some]
    rw [if_pos hw, if_pos hw, e]
    rfl
  · refine ⟨K0, fun k hk => ?_⟩
    have e0 := e0 k (by omega)
    dsimp only at e0 ⊢
    unfold spec_KeysOf.f
    rw [e0]
    simp only [Option.bind_some]
    rw [if_neg hw, if_neg hw]
end Go.Proofs.YtjnebonphbgkgaaDoor.Pu
