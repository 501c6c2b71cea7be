/-
  The pure statement of the law FnExactRankOfWord: the program's RankOfWord and the reference's agree on every string that can be read. No condition.
-/
import Derived.Test.YtjnebonphbgkgaaDoorPx7
import Derived.Test.YtjnebonphbgkgaaDoorPx8
import Derived.Test.YtjnebonphbgkgaaDoorPuSame
namespace Go.Proofs.YtjnebonphbgkgaaDoor.Pure
open Go.RowKit Go.Proofs.YtjnebonphbgkgaaDoor.P Go.Proofs.YtjnebonphbgkgaaDoor.Pu Go.Proofs.YtjnebonphbgkgaaDoorW.PrintWords Go.Proofs.YtjnebonphbgkgaaDoorW.PrintLast Go.Proofs.YtjnebonphbgkgaaDoorW.PrintMore

/-- A word's rank among all with its keys. -/
def rk : List Int → Int
  | [] => 0
  | c :: L => posN c * pr (L.map keyN) + rk L
theorem mul_small {p a : Int} (hp : 0 ≤ p ∧ p ≤ 3) : p * a = 0 ∧ p = 0 ∨ p * a = a ∧ p = 1 ∨ p * a = 2 * a ∧ p = 2 ∨ p * a = 3 * a ∧ p = 3 := by
  rcases (show p = 0 ∨ p = 1 ∨ p = 2 ∨ p = 3 by omega) with h | h | h | h <;> subst h <;> omega
theorem step_facts {p c r : Int} (hp : 0 ≤ p ∧ p ≤ 3) (hc : c = min r 1000000000000001) (hr : 1 ≤ r) :
    (min (p * c) 1000000000000001 ≤ 1000000000000000 → min (p * c) 1000000000000001 = p * r) ∧ 0 ≤ min (p * c) 1000000000000001 ∧ min (p * c) 1000000000000001 ≤ 1000000000000001 ∧ min (p * c) 1000000000000001 ≤ p * r := by
  rcases (show p = 0 ∨ p = 1 ∨ p = 2 ∨ p = 3 by omega) with h | h | h | h <;> subst h <;> omega
def resR (x : Int) : Int × Bool := if x > 1000000000000000 then (0, false) else (x, true)
theorem resR_big {x : Int} (h : 1000000000000000 < x) : resR x = (0, false) := if_pos h
theorem resR_ok {x : Int} (h : x ≤ 1000000000000000) : resR x = (x, true) := if_neg (by omega)
theorem rk_nonneg : ∀ L : List Int, (∀ c ∈ L, 97 ≤ c ∧ c ≤ 122) → 0 ≤ rk L
  | [], _ => by simp [rk]
  | c :: L, h => by
    have ih := rk_nonneg L (fun x hx => h x (List.mem_cons_of_mem _ hx))
    have hp := pr_pos (L.map keyN)
    have hc := mul_small (a := pr (L.map keyN)) (posN_range c (h c List.mem_cons_self))
    simp only [rk]
    omega
def rankR (s : ByteArray) : Int × Bool := if wordB s = true then resR (rk (bytesOf s)) else (0, false)
theorem posN_wid (c : Int) (h : 97 ≤ c ∧ c ≤ 122) : posN c < wid (keyN c) := by
  unfold posN wid keyN
  omega
theorem sRank_l0 (s : ByteArray) (hs : s.size ≤ 1000000) (hl : ∀ c ∈ bytesOf s, 97 ≤ c ∧ c ≤ 122) : ∀ (d i : Nat) (a : Int), i + d = s.size → 0 ≤ a →
    Ev (fun k => spec_RankOfWord.l0 k s (min a 1000000000000001) i) (resR (a * pr (((bytesOf s).drop i).map keyN) + rk ((bytesOf s).drop i)))
  | 0, i, a, h, h0 => by
    obtain rfl : i = s.size := by omega
    rw [drop_end]
    simp only [List.map_nil, pr, rk, Int.mul_one, Int.add_zero]
    refine ev_from 0 fun k _ => ?_
    simp only [spec_RankOfWord.l0]
    rw [if_neg (by omega)]
    by_cases hc : a > 1000000000000000
    · rw [resR_big hc, if_pos (by omega)]
    · rw [resR_ok (by omega), if_neg (by omega), show min a 1000000000000001 = a by omega]
  | d + 1, i, a, h, h0 => by
    have hb := hl _ (bt_mem s i (by omega))
    have hk := keyN_range (bt s i)
    have hp := posN_range _ hb
    have hw := wid_or (keyN (bt s i))
    have h1 : 0 ≤ a * wid (keyN (bt s i)) := by rcases hw with h | h <;> rw [h] <;> omega
    have h2 : min (min a 1000000000000001 * wid (keyN (bt s i)) + (posN (bt s i) + 1) - 1) 1000000000000001 = min (a * wid (keyN (bt s i)) + posN (bt s i)) 1000000000000001 := by rcases hw with h | h <;> rw [h] <;> omega
    have h3 : 0 ≤ min a 1000000000000001 * wid (keyN (bt s i)) ∧ min a 1000000000000001 * wid (keyN (bt s i)) ≤ 4000000000000004 := by rcases hw with h | h <;> rw [h] <;> omega
    obtain ⟨K0, hK⟩ := prKey_ev (bt s i) hb
    obtain ⟨K, ih⟩ := sRank_l0 s hs hl d (i + 1) (a * wid (keyN (bt s i)) + posN (bt s i)) (by omega) (by omega)
    have hid : (a * wid (keyN (bt s i)) + posN (bt s i)) * pr (((bytesOf s).drop (i + 1)).map keyN) + rk ((bytesOf s).drop (i + 1)) = a * pr (((bytesOf s).drop i).map keyN) + rk ((bytesOf s).drop i) := by
      rw [drop_bytes s i (by omega)]
      simp only [List.map_cons, pr, rk]
      rw [Int.add_mul, Int.mul_assoc, Int.add_assoc]
    rw [hid] at ih
    refine ev_from (K0 + K) fun k hk' => ?_
    have e := ih k (by omega)
    have e0 := hK k (by omega)
    dsimp only at e e0
    simp only [spec_RankOfWord.l0]
    rw [if_pos (by omega), if_pos (by omega), e0]
    simp only [bsome]
    rw [letters_is _ hk]
    simp only [bsome]
    rw [grpN_size, wr (x := _ * wid _) (by omega) (by omega), wr (x := _ * wid _ + _) (by omega) (by omega), wr (x := _ * wid _ + _ - 1) (by omega) (by omega), least_is, h2]
    simp only [bsome]
    rw [wr (by omega) (by omega), show ((i : Int) + 1) = ((i + 1 : Nat) : Int) from rfl, e]
theorem sRank_ev (s : ByteArray) (hs : s.size ≤ 140737488351232) : Ev (fun k => spec_RankOfWord.f k s) (rankR s) := by
  obtain ⟨K0, h0⟩ := prWord_ev s hs
  unfold rankR
  by_cases hw : wordB s = true
  · obtain ⟨⟨_, h2⟩, hl⟩ := wordB_iff.1 hw
    obtain ⟨K, h⟩ := sRank_l0 s (by omega) hl s.size 0 0 (by omega) (by omega)
    rw [Int.zero_mul, Int.zero_add, List.drop_zero] at h
    rw [if_pos hw]
    refine ⟨K0 + K, fun k hk' => ?_⟩
    have e := h k (by omega)
    have e0 := h0 k (by omega)
    dsimp only at e e0 ⊢
    rw [show min (0 : Int) 1000000000000001 = 0 by omega] at e
    unfold spec_RankOfWord.f
    rw [e0]
    simp only [bsome]
    rw [if_pos hw]
    exact e
  · rw [if_neg hw]
    refine ⟨K0, fun k hk' => ?_⟩
    have e0 := h0 k (by omega)
    dsimp only at e0 ⊢
    unfold spec_RankOfWord.f
    rw [e0]
    simp only [bsome]
    rw [if_neg hw]
theorem iRank_l0 (s : ByteArray) (hs : s.size ≤ 1000000) (hl : ∀ c ∈ bytesOf s, 97 ≤ c ∧ c ≤ 122) : ∀ (d i : Nat) (a : Int), i + d = s.size → 0 ≤ a → a ≤ 1000000000000000 →
    Ev (fun k => impl_RankOfWord.l0 k s (behind ((bytesOf s).map keyN)) a s.size i) (resR (a + rk ((bytesOf s).drop i)))
  | 0, i, a, h, h0, h1 => by
    obtain rfl : i = s.size := by omega
    rw [drop_end]
    simp only [rk, Int.add_zero]
    refine ev_from 0 fun k _ => ?_
    simp only [impl_RankOfWord.l0]
    rw [if_neg (by omega), resR_ok h1]
  | d + 1, i, a, h, h0, h1 => by
    have hb := hl _ (bt_mem s i (by omega))
    have hp := posN_range _ hb
    have hlen : ((bytesOf s).map keyN).length = s.size := by rw [List.length_map, bytesOf_length]
    have hr := rd_behind ((bytesOf s).map keyN) (i + 1) (by omega)
    have hcp := cp_range (((bytesOf s).map keyN).drop (i + 1))
    have hcr := cp_pr (((bytesOf s).map keyN).drop (i + 1))
    rw [show ((bytesOf s).map keyN).drop (i + 1) = ((bytesOf s).drop (i + 1)).map keyN from List.map_drop.symm] at hr hcp hcr
    have hpp := pr_pos (((bytesOf s).drop (i + 1)).map keyN)
    obtain ⟨f1, f2, f3, f4⟩ := step_facts hp hcr hpp
    have hrest := rk_nonneg ((bytesOf s).drop (i + 1)) (fun x hx => hl x (List.mem_of_mem_drop hx))
    obtain ⟨K0, hK⟩ := onPad_ev (bt s i) hb
    rw [drop_bytes s i (by omega)]
    simp only [rk]
    by_cases hc : a + min (posN (bt s i) * cp (((bytesOf s).drop (i + 1)).map keyN)) 1000000000000001 > 1000000000000000
    · refine ev_from K0 fun k hk => ?_
      have e0 := hK k hk
      dsimp only at e0
      simp only [impl_RankOfWord.l0]
      rw [if_pos (by omega), if_pos (by omega), if_pos (by omega), e0, bsome]
      dsimp only
      rw [wr (x := (i : Int) + 1) (by omega) (by omega), if_pos (by omega), if_pos (by rw [behind_length]; omega), show ((i : Int) + 1) = ((i + 1 : Nat) : Int) from rfl, hr, times_is' _ _ (by omega) (by omega)]
      simp only [bsome]
      rw [wr (x := a + _) (by omega) (by omega), if_pos hc, resR_big (by omega)]
    · have ht : min (posN (bt s i) * cp (((bytesOf s).drop (i + 1)).map keyN)) 1000000000000001 = posN (bt s i) * pr (((bytesOf s).drop (i + 1)).map keyN) := f1 (by omega)
      obtain ⟨K, ih⟩ := iRank_l0 s hs hl d (i + 1) (a + posN (bt s i) * pr (((bytesOf s).drop (i + 1)).map keyN)) (by omega) (by omega) (by omega)
      rw [Int.add_assoc] at ih
      refine ev_from (K0 + K) fun k hk => ?_
      have e0 := hK k (by omega)
      have e := ih k (by omega)
      dsimp only at e0 e
      simp only [impl_RankOfWord.l0]
      rw [if_pos (by omega), if_pos (by omega), if_pos (by omega), e0, bsome]
      dsimp only
      rw [wr (x := (i : Int) + 1) (by omega) (by omega), if_pos (by omega), if_pos (by rw [behind_length]; omega), show ((i : Int) + 1) = ((i + 1 : Nat) : Int) from rfl, hr, times_is' _ _ (by omega) (by omega)]
      simp only [bsome]
      rw [wr (x := a + _) (by omega) (by omega), if_neg hc, ht, e]
theorem iRank_ev (s : ByteArray) (hs : s.size ≤ 140737488351232) : Ev (fun k => impl_RankOfWord.f k s) (rankR s) := by
  unfold rankR
  by_cases hw : wordB s = true
  · obtain ⟨⟨_, h2⟩, hl⟩ := wordB_iff.1 hw
    obtain ⟨K0, h0⟩ := keysOf_ev s (by omega) hl
    obtain ⟨K1, h1⟩ := sameFrom_ev (keysN s) (by rw [keysN_size]; omega) (by
      rw [keysN_bytes]
      intro c hc
      obtain ⟨b, _, rfl⟩ := List.mem_map.1 hc
      exact keyN_range b)
    rw [keysN_bytes] at h1
    obtain ⟨K, h⟩ := iRank_l0 s (by omega) hl s.size 0 0 (by omega) (by omega) (by omega)
    rw [Int.zero_add, List.drop_zero] at h
    rw [if_pos hw]
    refine ⟨K0 + K1 + K, fun k hk' => ?_⟩
    have e := h k (by omega)
    have e0 := h0 k (by omega)
    have e1 := h1 k (by omega)
    dsimp only at e e0 e1 ⊢
    unfold impl_RankOfWord.f
    rw [isWord_is s hs]
    simp only [bsome]
    rw [if_pos hw, e0]
    simp only [bsome]
    rw [e1]
    exact e
  · rw [if_neg hw]
    refine ⟨0, fun k hk' => ?_⟩
    dsimp only
    unfold impl_RankOfWord.f
    rw [isWord_is s hs]
    simp only [bsome]
    rw [if_neg hw]
theorem FnExactRankOfWord : laws_FnExactRankOfWord.Pure := by
  intro s hs
  obtain ⟨K, h⟩ := ev_both (iRank_ev s hs) (sRank_ev s hs)
  obtain ⟨e1, e2⟩ := h K (Nat.le_refl _)
  refine ⟨K, ?_⟩
  unfold laws_FnExactRankOfWord.f
  rw [e1, e2]
  simp
end Go.Proofs.YtjnebonphbgkgaaDoor.Pure
