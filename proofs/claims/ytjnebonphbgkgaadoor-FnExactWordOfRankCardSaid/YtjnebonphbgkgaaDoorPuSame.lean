/-
  How many words have keys, as far as they are not too many; words by rank; ranks of words: plain functions, and what the program's and the reference's functions come to. Conditions: each lemma's own (keys; letters; sizes).
-/
import Derived.Test.YtjnebonphbgkgaaDoorPx1
import Derived.Test.YtjnebonphbgkgaaDoorPx4
import Derived.Test.YtjnebonphbgkgaaDoorPx5
import Derived.Test.YtjnebonphbgkgaaDoorPuPad
namespace Go.Proofs.YtjnebonphbgkgaaDoor.Pu
open Go.RowKit Go.Proofs.YtjnebonphbgkgaaDoor.P Go.Proofs.YtjnebonphbgkgaaDoorW.PrintWords Go.Proofs.YtjnebonphbgkgaaDoorW.PrintLast Go.Proofs.YtjnebonphbgkgaaDoorW.PrintMore

/-- How many letters a key has. -/
def wid (c : Int) : Int := if c = 55 ∨ c = 57 then 4 else 3
/-- A key's first letter. -/
def firstL (c : Int) : Int := if c ≤ 55 then 97 + 3 * (c - 50) else if c = 56 then 116 else 119
theorem wid_or (c : Int) : wid c = 3 ∨ wid c = 4 := by unfold wid; split <;> simp
theorem firstL_range (c : Int) (h : 50 ≤ c ∧ c ≤ 57) : 97 ≤ firstL c ∧ firstL c + wid c ≤ 123 := by unfold firstL wid; omega
def grpN (c : Int) : ByteArray := strOfNums ((List.range (wid c).toNat).map fun (j : Nat) => firstL c + (j : Int))
theorem grpN_size (c : Int) : ((grpN c).size : Int) = wid c := by
  rw [grpN, size_nums, List.length_map, List.length_range]
  rcases wid_or c with h | h <;> rw [h] <;> rfl
theorem bt_nums (L : List Int) (hL : ∀ c ∈ L, 0 ≤ c ∧ c ≤ 255) (i : Int) : bt (strOfNums L) i = L.getD i.toNat 0 := by rw [bt_bytes, bytes_nums hL]
theorem grpN_bytes (c : Int) (h : 50 ≤ c ∧ c ≤ 57) : bytesOf (grpN c) = (List.range (wid c).toNat).map fun (j : Nat) => firstL c + (j : Int) := by
  refine bytes_nums fun x hx => ?_
  obtain ⟨j, hj, rfl⟩ := List.mem_map.1 hx
  have := List.mem_range.1 hj
  have := firstL_range c h
  omega
theorem grpN_bt (c : Int) (h : 50 ≤ c ∧ c ≤ 57) (j : Int) (h0 : 0 ≤ j) (h1 : j < wid c) : bt (grpN c) j = firstL c + j := by
  rw [bt_bytes, grpN_bytes c h, List.getD_eq_getElem?_getD, List.getElem?_map, List.getElem?_range (by omega)]
  simp
  omega
theorem group_is (c : Int) (h : 50 ≤ c ∧ c ≤ 57) : impl_group.f c = some (grpN c) := by
  have key : ∀ n : Fin 8, (impl_group.f (50 + (n.val : Int))).map (fun s => s.data.toList) = some (grpN (50 + (n.val : Int))).data.toList := by decide +kernel
  have e := key ⟨(c - 50).toNat, by omega⟩
  rw [show (50 : Int) + (((c - 50).toNat : Nat) : Int) = c by omega] at e
  obtain ⟨s, h1, h2⟩ := Option.map_eq_some_iff.1 e
  rw [h1]
  exact congrArg some (bytes_ext (by unfold bytesOf; rw [h2]))
theorem letters_is (c : Int) (h : 50 ≤ c ∧ c ≤ 57) : spec_prLetters.f c = some (grpN c) := by
  have key : ∀ n : Fin 8, (spec_prLetters.f (50 + (n.val : Int))).map (fun s => s.data.toList) = some (grpN (50 + (n.val : Int))).data.toList := by decide +kernel
  have e := key ⟨(c - 50).toNat, by omega⟩
  rw [show (50 : Int) + (((c - 50).toNat : Nat) : Int) = c by omega] at e
  obtain ⟨s, h1, h2⟩ := Option.map_eq_some_iff.1 e
  rw [h1]
  exact congrArg some (bytes_ext (by unfold bytesOf; rw [h2]))

/-! ### keys -/
theorem isKeys_is (s : ByteArray) (hs : s.size ≤ 140737488351232) : impl_isKeys.f s = some (keysB s) := by
  unfold impl_isKeys.f keysB
  rw [in_is, show (1 : Int) = ((1 : Nat) : Int) from rfl, show (40 : Int) = ((40 : Nat) : Int) from rfl, lenB_int, over_is s _ (by omega) (by decide) (by decide) isDig dig_contains]
  simp only [bsome]
  cases lenB s 1 40 <;> simp
theorem prGood_l0 (s : ByteArray) (hs : s.size ≤ 140737488351232) : ∀ (d i : Nat), i + d = s.size → Ev (fun k => spec_prGood.l0 k s i) (((bytesOf s).drop i).all isDig)
  | 0, i, h => by
    obtain rfl : i = s.size := by omega
    rw [drop_end]
    refine ev_from 0 fun k _ => ?_
    simp only [spec_prGood.l0]
    rw [if_neg (by omega)]
    rfl
  | d + 1, i, h => by
    obtain ⟨K, ih⟩ := prGood_l0 s hs d (i + 1) (by omega)
    rw [drop_bytes s i (by omega), List.all_cons]
    refine ev_from K fun k hk => ?_
    have e := ih k hk
    rw [show ((i + 1 : Nat) : Int) = (i : Int) + 1 from rfl] at e
    dsimp only at e
    simp only [spec_prGood.l0]
    rw [if_pos (by omega), if_pos (by omega), wr (by omega) (by omega), e]
    unfold isDig
    by_cases h1 : bt s i < 50
    · rw [if_pos h1, decide_eq_false (by omega)]; rfl
    · rw [if_neg h1, decide_eq_true (show 50 ≤ bt s i by omega)]
      by_cases h2 : bt s i > 57
      · rw [if_pos h2, decide_eq_false (by omega)]; rfl
      · rw [if_neg h2, decide_eq_true (by omega)]; rfl
theorem prGood_ev (s : ByteArray) (hs : s.size ≤ 140737488351232) : Ev (fun k => spec_prGood.f k s) (keysB s) := by
  obtain ⟨K, h⟩ := prGood_l0 s hs s.size 0 (by omega)
  refine ⟨K, fun k hk => ?_⟩
  have e := h k hk
  unfold spec_prGood.f keysB
  rw [l1In_is, show (1 : Int) = ((1 : Nat) : Int) from rfl, show (40 : Int) = ((40 : Nat) : Int) from rfl, lenB_int]
  simp only [bsome]
  cases lenB s 1 40
  · rfl
  · rw [if_pos rfl]; exact e

/-! ### how many words -/
/-- As far as they are not more than MaxSame: else one more. -/
def cp : List Int → Int
  | [] => 1
  | c :: L => min (wid c * cp L) 1000000000000001
def pr : List Int → Int
  | [] => 1
  | c :: L => wid c * pr L
theorem cp_range : ∀ L : List Int, 1 ≤ cp L ∧ cp L ≤ 1000000000000001
  | [] => by simp [cp]
  | c :: L => by
    have ih := cp_range L
    simp only [cp]
    rcases wid_or c with h | h <;> rw [h] <;> omega
theorem pr_pos : ∀ L : List Int, 1 ≤ pr L
  | [] => by simp [pr]
  | c :: L => by
    have ih := pr_pos L
    simp only [pr]
    rcases wid_or c with h | h <;> rw [h] <;> omega
theorem cp_pr : ∀ L : List Int, cp L = min (pr L) 1000000000000001
  | [] => by simp only [cp, pr]; omega
  | c :: L => by
    have ih := cp_pr L
    have := pr_pos L
    simp only [cp, pr]
    rw [ih]
    rcases wid_or c with h | h <;> rw [h] <;> omega

theorem least_is (a b : Int) : spec_l1Least.f a b = some (min a b) := by
  unfold spec_l1Least.f
  by_cases h : a < b
  · rw [if_pos h, show min a b = a by omega]
  · rw [if_neg h, show min a b = b by omega]
theorem prSame_l0 (s : ByteArray) (hs : s.size ≤ 140737488351232) (hl : ∀ c ∈ bytesOf s, 50 ≤ c ∧ c ≤ 57) : ∀ (d i : Nat) (a : Int), i + d = s.size → 1 ≤ a →
    Ev (fun k => spec_prSame.l0 k s (min a 1000000000000001) i) (min (a * pr ((bytesOf s).drop i)) 1000000000000001)
  | 0, i, a, h, h0 => by
    obtain rfl : i = s.size := by omega
    rw [drop_end]
    refine ev_from 0 fun k _ => ?_
    simp only [spec_prSame.l0]
    rw [if_neg (by omega)]
    simp [pr]
  | d + 1, i, a, h, h0 => by
    have hb := hl _ (bt_mem s i (by omega))
    have hw := wid_or (bt s i)
    have h1 : 1 ≤ a * wid (bt s i) := by rcases hw with h | h <;> rw [h] <;> omega
    have h2 : min (min a 1000000000000001 * wid (bt s i)) 1000000000000001 = min (a * wid (bt s i)) 1000000000000001 := by rcases hw with h | h <;> rw [h] <;> omega
    have h3 : -9223372036854775808 ≤ min a 1000000000000001 * wid (bt s i) ∧ min a 1000000000000001 * wid (bt s i) ≤ 9223372036854775807 := by rcases hw with h | h <;> rw [h] <;> omega
    obtain ⟨K, ih⟩ := prSame_l0 s hs hl d (i + 1) (a * wid (bt s i)) (by omega) h1
    rw [drop_bytes s i (by omega)]
    refine ev_from K fun k hk => ?_
    have e := ih k hk
    rw [show ((i + 1 : Nat) : Int) = (i : Int) + 1 from rfl] at e
    dsimp only at e
    simp only [spec_prSame.l0]
    rw [if_pos (by omega), if_pos (by omega), letters_is _ hb]
    simp only [bsome]
    rw [grpN_size, wr h3.1 h3.2, least_is, h2]
    simp only [bsome]
    rw [wr (by omega) (by omega), e]
    simp only [pr]
    rw [Int.mul_assoc]
theorem prSame_ev (s : ByteArray) (hs : s.size ≤ 140737488351232) (hl : ∀ c ∈ bytesOf s, 50 ≤ c ∧ c ≤ 57) : Ev (fun k => spec_prSame.f k s) (cp (bytesOf s)) := by
  obtain ⟨K, e⟩ := prSame_l0 s hs hl s.size 0 1 (by omega) (by omega)
  refine ⟨K, fun k hk => ?_⟩
  have e := e k hk
  dsimp only at e ⊢
  unfold spec_prSame.f
  rw [show min (1 : Int) 1000000000000001 = 1 by omega, Int.one_mul, List.drop_zero] at e
  rw [cp_pr]
  exact e

theorem times_is (a b : Int) (ha : 0 ≤ a ∧ a ≤ 1000000000000001) (hb : 0 ≤ b ∧ b ≤ 4) : impl_times.f a b = some (min (a * b) 1000000000000001) := by
  have hab : -9223372036854775808 ≤ a * b ∧ a * b ≤ 9223372036854775807 := by
    rcases (show b = 0 ∨ b = 1 ∨ b = 2 ∨ b = 3 ∨ b = 4 by omega) with h | h | h | h | h <;> rw [h] <;> omega
  have hm : mn (wrap64 (a * b)) 1000000000000001 = min (a * b) 1000000000000001 := by
    rw [wr hab.1 hab.2]
    unfold mn
    omega
  unfold impl_times.f
  by_cases h0 : a > 0
  · rw [if_pos h0, if_neg (by omega)]
    have hd : Int.tdiv (1000000000000000 : Int) a = 1000000000000000 / a := by rw [Int.tdiv_eq_ediv_of_nonneg (by omega)]
    have hq0 : 0 ≤ (1000000000000000 : Int) / a := Int.ediv_nonneg (by omega) (by omega)
    have hq1 : (1000000000000000 : Int) / a ≤ 1000000000000000 := Int.ediv_le_self _ (by omega)
    rw [hd, wr (by omega) (by omega)]
    by_cases h1 : b > 1000000000000000 / a
    · rw [if_pos h1]
      have h2 : 1000000000000000 < b * a := (Int.ediv_lt_iff_lt_mul h0).1 h1
      rw [Int.mul_comm b a] at h2
      rw [show min (a * b) 1000000000000001 = 1000000000000001 by omega]
    · rw [if_neg h1, hm]
  · rw [if_neg h0, hm]
/-- times, the other way round: a small number first. -/
theorem times_is' (a b : Int) (ha : 0 ≤ a ∧ a ≤ 4) (hb : 0 ≤ b ∧ b ≤ 1000000000000001) : impl_times.f a b = some (min (a * b) 1000000000000001) := by
  have hab : -9223372036854775808 ≤ a * b ∧ a * b ≤ 9223372036854775807 := by
    rcases (show a = 0 ∨ a = 1 ∨ a = 2 ∨ a = 3 ∨ a = 4 by omega) with h | h | h | h | h <;> rw [h] <;> omega
  have hm : mn (wrap64 (a * b)) 1000000000000001 = min (a * b) 1000000000000001 := by
    rw [wr hab.1 hab.2]
    unfold mn
    omega
  unfold impl_times.f
  by_cases h0 : a > 0
  · rw [if_pos h0, if_neg (by omega)]
    have hd : Int.tdiv (1000000000000000 : Int) a = 1000000000000000 / a := by rw [Int.tdiv_eq_ediv_of_nonneg (by omega)]
    have hq0 : 0 ≤ (1000000000000000 : Int) / a := Int.ediv_nonneg (by omega) (by omega)
    have hq1 : (1000000000000000 : Int) / a ≤ 1000000000000000 := Int.ediv_le_self _ (by omega)
    rw [hd, wr (by omega) (by omega)]
    by_cases h1 : b > 1000000000000000 / a
    · rw [if_pos h1]
      have h2 : 1000000000000000 < b * a := (Int.ediv_lt_iff_lt_mul h0).1 h1
      rw [Int.mul_comm b a] at h2
      rw [show min (a * b) 1000000000000001 = 1000000000000001 by omega]
    · rw [if_neg h1, hm]
  · rw [if_neg h0, hm]

/-- The row of counts from each place on. -/
def behind (L : List Int) : List Int := (List.range (L.length + 1)).map fun i => cp (L.drop i)
theorem behind_length (L : List Int) : (behind L).length = L.length + 1 := by simp [behind]
theorem rd_behind (L : List Int) (i : Nat) (h : i ≤ L.length) : rd (behind L) i = cp (L.drop i) := by
  unfold rd behind
  rw [Int.toNat_natCast, List.getD_eq_getElem?_getD, List.getElem?_map, List.getElem?_range (by omega)]
  rfl
theorem sameFrom_l0 (s : ByteArray) (hs : s.size ≤ 140737488351232) (hl : ∀ c ∈ bytesOf s, 50 ≤ c ∧ c ≤ 57) : ∀ (i : Nat) (A : List Int), i ≤ s.size → A.length = s.size + 1 → (∀ j : Nat, i ≤ j → j ≤ s.size → A[j]? = some (cp ((bytesOf s).drop j))) →
    Ev (fun k => impl_sameFrom.l0 k s A ((i : Int) - 1)) (behind (bytesOf s))
  | 0, A, h, hA, hj => by
    refine ev_from 0 fun k _ => ?_
    simp only [impl_sameFrom.l0]
    rw [if_neg (by omega)]
    congr 1
    refine List.ext_getElem? fun j => ?_
    by_cases hjl : j ≤ s.size
    · rw [hj j (by omega) hjl, behind, List.getElem?_map, List.getElem?_range (by rw [bytesOf_length]; omega)]
      rfl
    · rw [List.getElem?_eq_none (by omega), List.getElem?_eq_none (by rw [behind_length, bytesOf_length]; omega)]
  | i + 1, A, h, hA, hj => by
    have hb := hl _ (bt_mem s i (by omega))
    have hw := wid_or (bt s i)
    have hcp := cp_range ((bytesOf s).drop (i + 1))
    have hr : rd A ((i + 1 : Nat) : Int) = cp ((bytesOf s).drop (i + 1)) := by
      unfold rd
      rw [Int.toNat_natCast, List.getD_eq_getElem?_getD, hj (i + 1) (by omega) (by omega)]
      rfl
    have hv : min (cp ((bytesOf s).drop (i + 1)) * wid (bt s i)) 1000000000000001 = cp ((bytesOf s).drop i) := by
      rw [drop_bytes s i (by omega)]
      simp only [cp]
      rw [Int.mul_comm]
    obtain ⟨K, ih⟩ := sameFrom_l0 s hs hl i (A.set i (cp ((bytesOf s).drop i))) (by omega) (by simpa using hA) (fun j h1 h2 => by
      by_cases e : j = i
      · subst e
        rw [List.getElem?_set_self (by omega)]
      · rw [List.getElem?_set_ne (fun h => e h.symm)]
        exact hj j (by omega) h2)
    refine ev_from K fun k hk => ?_
    have e := ih k hk
    dsimp only at e
    simp only [impl_sameFrom.l0]
    rw [show (((i + 1 : Nat) : Int) - 1) = (i : Int) by omega, if_pos (by omega), wr (x := (i : Int) + 1) (by omega) (by omega), if_pos (by omega), if_pos (by omega), if_pos (by omega), if_pos (by omega), group_is _ hb]
    simp only [bsome]
    rw [show ((i : Int) + 1) = ((i + 1 : Nat) : Int) from rfl, hr, grpN_size, times_is _ _ ⟨by omega, by omega⟩ ⟨by rcases hw with h | h <;> rw [h] <;> omega, by rcases hw with h | h <;> rw [h] <;> omega⟩]
    simp only [bsome]
    rw [if_pos (by omega), wr (by omega) (by omega), hv, Int.toNat_natCast]
    exact e
theorem sameFrom_ev (s : ByteArray) (hs : s.size ≤ 1000000) (hl : ∀ c ∈ bytesOf s, 50 ≤ c ∧ c ≤ 57) : Ev (fun k => impl_sameFrom.f k s) (behind (bytesOf s)) := by
  obtain ⟨K, e⟩ := sameFrom_l0 s (by omega) hl s.size ((List.replicate (s.size + 1) 0).set s.size 1) (by omega) (by simp) (fun j h1 h2 => by
    obtain rfl : j = s.size := by omega
    rw [List.getElem?_set_self (by simp), drop_end]
    rfl)
  refine ⟨K, fun k hk => ?_⟩
  have e := e k hk
  dsimp only at e ⊢
  unfold impl_sameFrom.f
  rw [wr (x := (s.size : Int) + 1) (by omega) (by omega), if_pos (by omega), show ((s.size : Int) + 1).toNat = s.size + 1 by omega, if_pos (by omega)]
  simp only [bsome]
  rw [if_pos (by omega), if_pos (by simp; omega), Int.toNat_natCast, wr (by omega) (by omega)]
  exact e

end Go.Proofs.YtjnebonphbgkgaaDoor.Pu
