/-
  The pad: keys and presses of letters, keys of words, as the program's and the reference's functions tell them. Conditions: each lemma's own (a letter; a text of letters).
-/
import Derived.Test.YtdkdpiihapmfbaaDoorPx7
import Derived.Test.YtdkdpiihapmfbaaDoorPx8
import Derived.Test.YtdkdpiihapmfbaaDoorPuWord
import Derived.Test.YtdkdpiihapmfbaaDoorPuLetter
namespace Go.Proofs.YtdkdpiihapmfbaaDoor.Pu
open Go.RowKit Go.Proofs.YtdkdpiihapmfbaaDoor.P Go.Proofs.YtdkdpiihapmfbaaDoorW.PrintWords Go.Proofs.YtdkdpiihapmfbaaDoorW.PrintLast Go.Proofs.YtdkdpiihapmfbaaDoorW.PrintMore

theorem keyOf_ev (c : Int) (h : 97 ≤ c ∧ c ≤ 122) : Ev (fun k => impl_keyOf.f k c) (keyN c) := by
  obtain ⟨K, e⟩ := onPad_ev c h
  have hp := keyN_range c
  refine ⟨K, fun k hk => ?_⟩
  have e := e k hk
  dsimp only at e
  dsimp only
  unfold impl_keyOf.f
  rw [e]
  simp only [bsome, Option.some.injEq]
  omega

/-! ### keys of a text of letters -/
def keysN (s : ByteArray) : ByteArray := strOfNums ((bytesOf s).map keyN)
theorem keysN_bytes (s : ByteArray) : bytesOf (keysN s) = (bytesOf s).map keyN := by
  refine bytes_nums fun c hc => ?_
  obtain ⟨b, _, rfl⟩ := List.mem_map.1 hc
  have := keyN_range b
  omega
theorem keysN_size (s : ByteArray) : (keysN s).size = s.size := by rw [keysN, size_nums, List.length_map, bytesOf_length]
theorem keysOf_l0 (s : ByteArray) (hs : s.size ≤ 1000000) (hl : ∀ c ∈ bytesOf s, 97 ≤ c ∧ c ≤ 122) : ∀ (d i : Nat) (A : List Int), i + d = s.size → A.length ≤ i →
    Ev (fun k => impl_keysOf.l0 k s A s.size i) (strOfNums (A ++ ((bytesOf s).drop i).map keyN))
  | 0, i, A, h, hA => by
    obtain rfl : i = s.size := by omega
    rw [drop_end]
    refine ev_from 0 fun k _ => ?_
    simp only [impl_keysOf.l0]
    rw [if_neg (by omega)]
    simp
  | d + 1, i, A, h, hA => by
    obtain ⟨K, ih⟩ := keysOf_l0 s hs hl d (i + 1) (A ++ [keyN (bt s i)]) (by omega) (by simp; omega)
    obtain ⟨K', ek⟩ := keyOf_ev (bt s i) (hl _ (bt_mem s i (by omega)))
    rw [drop_bytes s i (by omega)]
    refine ev_from (K + K') fun k hk => ?_
    have e := ih k (by omega)
    have e' := ek k (by omega)
    rw [show ((i + 1 : Nat) : Int) = (i : Int) + 1 from rfl] at e
    dsimp only at e e'
    simp only [impl_keysOf.l0]
    rw [if_pos (by omega), if_pos (by omega), if_pos (by omega), e']
    simp only [bsome]
    rw [if_pos (by omega), wr (by omega) (by omega), e]
    simp
theorem keysOf_ev (s : ByteArray) (hs : s.size ≤ 1000000) (hl : ∀ c ∈ bytesOf s, 97 ≤ c ∧ c ≤ 122) : Ev (fun k => impl_keysOf.f k s) (keysN s) := by
  obtain ⟨K, e⟩ := keysOf_l0 s hs hl s.size 0 [] (by omega) (by simp)
  exact ⟨K, fun k hk => by have e := e k hk; dsimp only at e; unfold impl_keysOf.f; simpa [keysN] using e⟩

theorem prKeys_l0 (s : ByteArray) (hs : s.size ≤ 1000000) (hl : ∀ c ∈ bytesOf s, 97 ≤ c ∧ c ≤ 122) : ∀ (d i : Nat) (A : List Int), i + d = s.size → A.length ≤ i →
    Ev (fun k => spec_prKeys.l0 k s (strOfNums A) i) (strOfNums (A ++ ((bytesOf s).drop i).map keyN))
  | 0, i, A, h, hA => by
    obtain rfl : i = s.size := by omega
    rw [drop_end]
    refine ev_from 0 fun k _ => ?_
    simp only [spec_prKeys.l0]
    rw [if_neg (by omega)]
    simp
  | d + 1, i, A, h, hA => by
    obtain ⟨K, ih⟩ := prKeys_l0 s hs hl d (i + 1) (A ++ [keyN (bt s i)]) (by omega) (by simp; omega)
    obtain ⟨K', ek⟩ := prKey_ev (bt s i) (hl _ (bt_mem s i (by omega)))
    have hk := keyN_range (bt s i)
    rw [drop_bytes s i (by omega)]
    refine ev_from (K + K') fun k hk' => ?_
    have e := ih k (by omega)
    have e' := ek k (by omega)
    rw [show ((i + 1 : Nat) : Int) = (i : Int) + 1 from rfl] at e
    dsimp only at e e'
    simp only [spec_prKeys.l0]
    rw [if_pos (by omega), if_pos (by omega), e']
    simp only [bsome]
    rw [wr32 (by omega) (by omega), encode_small (by omega) (by omega), if_pos (by rw [size_nums, size_nums]; simp; omega), wr (by omega) (by omega), ← numsApp, e]
    simp
theorem prKeys_ev (s : ByteArray) (hs : s.size ≤ 1000000) (hl : ∀ c ∈ bytesOf s, 97 ≤ c ∧ c ≤ 122) : Ev (fun k => spec_prKeys.f k s) (keysN s) := by
  obtain ⟨K, e⟩ := prKeys_l0 s hs hl s.size 0 [] (by omega) (by simp)
  exact ⟨K, fun k hk => by have e := e k hk; dsimp only at e; unfold spec_prKeys.f; rw [show strOfNums [] = (⟨#[]⟩ : ByteArray) from rfl] at e; simpa [keysN] using e⟩

end Go.Proofs.YtdkdpiihapmfbaaDoor.Pu
