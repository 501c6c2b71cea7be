/-
  FirstWord, of the program and of the reference. Condition: a string that can be read.
-/
import Derived.Test.YtjnebonphbgkgaaDoorPx5
import Derived.Test.YtjnebonphbgkgaaDoorPx6
import Derived.Test.YtjnebonphbgkgaaDoorPuRank
namespace Go.Proofs.YtjnebonphbgkgaaDoor.Pu
open Go.RowKit Go.Proofs.YtjnebonphbgkgaaDoor.P Go.Proofs.YtjnebonphbgkgaaDoorW.PrintWords Go.Proofs.YtjnebonphbgkgaaDoorW.PrintLast

theorem wordR_zero : ∀ L : List Int, wordR L 0 = L.map firstL
  | [] => rfl
  | c :: L => by simp only [wordR, Int.zero_ediv, Int.zero_emod, Int.add_zero, List.map_cons, wordR_zero L]
def firstWordR (s : ByteArray) : ByteArray × Bool := if keysB s = true then (strOfNums ((bytesOf s).map firstL), true) else ((⟨#[]⟩ : ByteArray), false)
theorem iFirstWord_ev (s : ByteArray) (hs : s.size ≤ 140737488351232) : Ev (fun k => impl_FirstWord.f k s) (firstWordR s) := by
  obtain ⟨K, h⟩ := iWordOfRank_ev s 0 hs
  refine ⟨K, fun k hk => ?_⟩
  have e := h k hk
  dsimp only at e ⊢
  unfold impl_FirstWord.f firstWordR
  rw [e]
  have hp := cp_range (bytesOf s)
  by_cases hk : keysB s = true
  · rw [if_pos ⟨hk, by omega, by omega, by omega⟩, if_pos hk, wordR_zero]
    rfl
  · rw [if_neg (fun h => hk h.1), if_neg hk]
    rfl
theorem sFirstWord_l0 (s : ByteArray) (hs : s.size ≤ 1000000) (hl : ∀ c ∈ bytesOf s, 50 ≤ c ∧ c ≤ 57) : ∀ (d i : Nat) (A : List Int), i + d = s.size → A.length ≤ i →
    Ev (fun k => spec_FirstWord.l0 k s (strOfNums A) i) (strOfNums (A ++ ((bytesOf s).drop i).map firstL), true)
  | 0, i, A, h, hA => by
    obtain rfl : i = s.size := by omega
    rw [drop_end]
    refine ev_from 0 fun k _ => ?_
    simp only [spec_FirstWord.l0]
    rw [if_neg (by omega)]
    simp
  | d + 1, i, A, h, hA => by
    have hb := hl _ (bt_mem s i (by omega))
    have hw := wid_or (bt s i)
    obtain ⟨K, ih⟩ := sFirstWord_l0 s hs hl d (i + 1) (A ++ [firstL (bt s i)]) (by omega) (by simp; omega)
    have hc := grp_cut (bt s i) hb 0 (by omega)
    rw [Int.ofNat_zero, Int.add_zero] at hc
    rw [drop_bytes s i (by omega)]
    refine ev_from K fun k hk => ?_
    have e := ih k hk
    dsimp only at e
    simp only [spec_FirstWord.l0]
    rw [if_pos (by omega), if_pos (by omega), letters_is _ hb]
    simp only [bsome]
    rw [if_pos (by omega), if_pos (by rw [grpN_size]; omega), show (grpN (bt s i)).extract 0 1 = strOfNums [firstL (bt s i)] from hc, if_pos (by rw [size_nums, size_nums]; simp; omega), wr (by omega) (by omega), ← nums_append, show ((i : Int) + 1) = ((i + 1 : Nat) : Int) from rfl, e]
    simp
theorem sFirstWord_ev (s : ByteArray) (hs : s.size ≤ 140737488351232) : Ev (fun k => spec_FirstWord.f k s) (firstWordR s) := by
  obtain ⟨K0, h0⟩ := prGood_ev s hs
  unfold firstWordR
  by_cases hk : keysB s = true
  · obtain ⟨⟨_, h2⟩, hl⟩ := keysB_iff.1 hk
    obtain ⟨K, h⟩ := sFirstWord_l0 s (by omega) hl s.size 0 [] (by omega) (by simp)
    rw [if_pos hk]
    refine ⟨K0 + K, fun k hk' => ?_⟩
    have e := h k (by omega)
    have e0 := h0 k (by omega)
    dsimp only at e e0 ⊢
    rw [show strOfNums [] = (⟨#[]⟩ : ByteArray) from rfl] at e
    unfold spec_FirstWord.f
    rw [e0]
    simp only [bsome]
    rw [if_pos hk]
    simpa using e
  · rw [if_neg hk]
    refine ⟨K0, fun k hk' => ?_⟩
    have e0 := h0 k (by omega)
    dsimp only at e0 ⊢
    unfold spec_FirstWord.f
    rw [e0]
    simp only [bsome]
    rw [if_neg hk]
end Go.Proofs.YtjnebonphbgkgaaDoor.Pu
