/-
  Steps of two thumbs after a plan, as the program and the reference tell them. Conditions: each lemma's own.
-/
import Derived.Test.YtmnfknbjndonbaaDoorPx20
import Derived.Test.YtmnfknbjndonbaaDoorPx21
import Derived.Test.YtmnfknbjndonbaaDoorPx22
import Derived.Test.YtmnfknbjndonbaaDoorPx23
import Derived.Test.YtmnfknbjndonbaaDoorPuIn
import Derived.Test.YtmnfknbjndonbaaDoorPuToInt
namespace Go.Proofs.YtmnfknbjndonbaaDoor.Pu
open Go.RowKit Go.Proofs.YtmnfknbjndonbaaDoor.P Go.Proofs.YtmnfknbjndonbaaDoorW.PrintWords Go.Proofs.YtmnfknbjndonbaaDoorW.PrintLast Go.Proofs.YtmnfknbjndonbaaDoorW.PrintMore

def planN (c : Bool) : List Int → List Int → Int → Int → Int
  | t :: T, q :: L, a, b => if t = 0 then distN a q c + planN c T L q b else distN b q c + planN c T L a q
  | _, _, _, _ => 0
def allB (L : List Int) : Bool := L.all fun x => decide (0 ≤ x) && decide (x ≤ 1)
theorem allB_iff {L : List Int} : allB L = true ↔ ∀ x ∈ L, 0 ≤ x ∧ x ≤ 1 := by unfold allB; simp [List.all_eq_true]
theorem l1All_l0 (L : List Int) (hl : L.length ≤ 1099511627776) : ∀ (d i : Nat), i + d = L.length → Ev (fun k => spec_l1All.l0 k 0 1 L L.length i) (allB (L.drop i))
  | 0, i, h => by
    obtain rfl : i = L.length := by omega
    rw [List.drop_length]
    refine ev_from 0 fun k _ => ?_
    simp only [spec_l1All.l0]
    rw [if_neg (by omega)]
    rfl
  | d + 1, i, h => by
    obtain ⟨K, ih⟩ := l1All_l0 L hl d (i + 1) (by omega)
    rw [drop_rd L i (by omega)]
    refine ev_from K fun k hk => ?_
    have e := ih k hk
    rw [show ((i + 1 : Nat) : Int) = (i : Int) + 1 from rfl] at e
    dsimp only at e
    simp only [spec_l1All.l0]
    unfold allB at e ⊢
    rw [if_pos (by omega), if_pos (by omega), if_pos (by omega), l1In_is, bsome, wr (by omega) (by omega), e, List.all_cons]
    cases (decide (0 ≤ rd L i) && decide (rd L i ≤ 1)) with
    | false => rfl
    | true => rw [if_pos rfl, Bool.true_and]
theorem l1All_ev (L : List Int) (hl : L.length ≤ 1099511627776) : Ev (fun k => spec_l1All.f k L 0 1) (allB L) := by
  obtain ⟨K, e⟩ := l1All_l0 L hl L.length 0 (by omega)
  exact ⟨K, fun k hk => by have e := e k hk; dsimp only at e; unfold spec_l1All.f; simpa using e⟩
theorem contains_is (L : List Int) : slices_ContainsFunc_int_int_at_ThumbPlan_1.f L = some (!allB L) := by
  unfold slices_ContainsFunc_int_int_at_ThumbPlan_1.f allB
  rw [List.not_all_eq_any_not]
def bothB (s l r : ByteArray) : Bool := dialB s && (oneB l && oneB r)
theorem thBoth_ev (s l r : ByteArray) : Ev (fun k => spec_thBoth.f k s l r) (bothB s l r) := by
  obtain ⟨K1, h1⟩ := thGood_ev s
  obtain ⟨K2, h2⟩ := thOne_ev l
  obtain ⟨K3, h3⟩ := thOne_ev r
  refine ⟨K1 + K2 + K3, fun k hk => ?_⟩
  have e1 := h1 k (by omega)
  have e2 := h2 k (by omega)
  have e3 := h3 k (by omega)
  dsimp only at e1 e2 e3 ⊢
  unfold spec_thBoth.f bothB
  rw [e1, bsome]
  cases dialB s with
  | false => rfl
  | true =>
    rw [if_pos rfl, e2, bsome]
    cases oneB l with
    | false => rfl
    | true => rw [if_pos rfl, e3, bsome]; rfl
theorem thumbsOk_ev (s l r : ByteArray) (hs : s.size ≤ 140737488351232) (hl : l.size ≤ 140737488351232) (hr : r.size ≤ 140737488351232) : Ev (fun k => impl_thumbsOk.f k s l r) (if bothB s l r = true then (plN (bt l 0), plN (bt r 0), true) else (0, 0, false)) := by
  refine ev_from 0 fun k _ => ?_
  unfold impl_thumbsOk.f bothB
  rw [isDialed_is s hs, bsome]
  cases dialB s with
  | false => rfl
  | true =>
    rw [if_pos rfl, isKey_is l hl, bsome]
    cases h1 : oneB l with
    | false => rfl
    | true =>
      rw [if_pos rfl, isKey_is r hr, bsome]
      cases h2 : oneB r with
      | false => rfl
      | true =>
        obtain ⟨l1, pl⟩ := oneB_iff.1 h1
        obtain ⟨r1, pr⟩ := oneB_iff.1 h2
        simp only [impl_thumbsOk.j0]
        rw [show (!true) = false from rfl, if_neg (by simp), if_pos (by omega), place_is _ pl, bsome, if_pos (by omega), place_is _ pr, bsome]
        rfl
theorem planS_l0 (s : ByteArray) (h : dialB s = true) (T : List Int) (hT : ∀ x ∈ T, 0 ≤ x ∧ x ≤ 1) (hl : T.length = s.size) (c : Bool) : ∀ (d i : Nat) (a b n : Int), i + d = s.size → isPad a = true → isPad b = true → 0 ≤ n → n ≤ 5 * i → Ev (fun k => spec_ThumbPlan.l0 k s c [a, b] n T T.length i) (n + planN c (T.drop i) ((placesN s).drop i) (plN a) (plN b), true)
  | 0, i, a, b, n, hi, ha, hb, h0, h1 => by
    obtain rfl : i = T.length := by omega
    rw [List.drop_length]
    refine ev_from 0 fun k _ => ?_
    simp only [spec_ThumbPlan.l0]
    rw [if_neg (by omega)]
    simp [planN]
  | d + 1, i, a, b, n, hi, ha, hb, h0, h1 => by
    have hs := (dialB_iff.1 h).1
    have hq := (dialB_iff.1 h).2 _ (bt_mem s i (by omega))
    have ht := hT _ (rd_mem T i (by omega))
    rw [drop_rd T i (by omega), drop_places s i (by omega), planN]
    by_cases h2 : rd T i = 0
    · have hd := distN_range (plN_range ha) (plN_range hq) c
      obtain ⟨K0, e0⟩ := thFar_ev ha hq c
      obtain ⟨K, ih⟩ := planS_l0 s h T hT hl c d (i + 1) (bt s i) b (n + distN (plN a) (plN (bt s i)) c) (by omega) hq hb (by omega) (by omega)
      rw [if_pos h2]
      refine ev_from (K0 + K) fun k hk => ?_
      have e := ih k (by omega)
      have e0 := e0 k (by omega)
      rw [show ((i + 1 : Nat) : Int) = (i : Int) + 1 from rfl] at e
      dsimp only at e e0
      simp only [spec_ThumbPlan.l0]
      rw [h2, if_pos (by omega), if_pos (by omega), if_pos (by omega), if_pos (by omega), if_pos (by simp), if_pos (by omega), show rd [a, b] 0 = a from rfl, e0, bsome, wr (x := (i : Int) + 1) (by omega) (by omega), wr (by omega) (by omega), show [a, b].set (0 : Int).toNat (bt s i) = [bt s i, b] from rfl, e, Int.add_assoc]
    · have h3 : rd T i = 1 := by omega
      have hd := distN_range (plN_range hb) (plN_range hq) c
      obtain ⟨K0, e0⟩ := thFar_ev hb hq c
      obtain ⟨K, ih⟩ := planS_l0 s h T hT hl c d (i + 1) a (bt s i) (n + distN (plN b) (plN (bt s i)) c) (by omega) ha hq (by omega) (by omega)
      rw [if_neg h2]
      refine ev_from (K0 + K) fun k hk => ?_
      have e := ih k (by omega)
      have e0 := e0 k (by omega)
      rw [show ((i + 1 : Nat) : Int) = (i : Int) + 1 from rfl] at e
      dsimp only at e e0
      simp only [spec_ThumbPlan.l0]
      rw [h3, if_pos (by omega), if_pos (by omega), if_pos (by omega), if_pos (by omega), if_pos (by simp), if_pos (by omega), show rd [a, b] 1 = b from rfl, e0, bsome, wr (x := (i : Int) + 1) (by omega) (by omega), wr (by omega) (by omega), show [a, b].set (1 : Int).toNat (bt s i) = [a, bt s i] from rfl, e, Int.add_assoc]
theorem planI_l0 (L : List Int) (hn : L.length ≤ 1000) (hL : ∀ p ∈ L, 0 ≤ p ∧ p ≤ 11) (T : List Int) (hT : ∀ x ∈ T, 0 ≤ x ∧ x ≤ 1) (hl : T.length = L.length) (c : Bool) : ∀ (d i : Nat) (a b n : Int), i + d = L.length → (0 ≤ a ∧ a ≤ 11) → (0 ≤ b ∧ b ≤ 11) → 0 ≤ n → n ≤ 5 * i → Ev (fun k => impl_ThumbPlan.l0 k T c n L L.length i a b) (n + planN c (T.drop i) (L.drop i) a b, true)
  | 0, i, a, b, n, hi, ha, hb, h0, h1 => by
    obtain rfl : i = L.length := by omega
    rw [List.drop_length]
    refine ev_from 0 fun k _ => ?_
    simp only [impl_ThumbPlan.l0]
    rw [if_neg (by omega)]
    rw [← hl, List.drop_length]
    simp [planN]
  | d + 1, i, a, b, n, hi, ha, hb, h0, h1 => by
    have hq := hL _ (rd_mem L i (by omega))
    have ht := hT _ (rd_mem T i (by omega))
    rw [drop_rd T i (by omega), drop_rd L i (by omega), planN]
    by_cases h2 : rd T i = 0
    · have hd := distN_range ha hq c
      obtain ⟨K, ih⟩ := planI_l0 L hn hL T hT hl c d (i + 1) (rd L i) b (n + distN a (rd L i) c) (by omega) hq hb (by omega) (by omega)
      rw [if_pos h2]
      refine ev_from K fun k hk => ?_
      have e := ih k (by omega)
      rw [show ((i + 1 : Nat) : Int) = (i : Int) + 1 from rfl] at e
      dsimp only at e
      simp only [impl_ThumbPlan.l0]
      unfold impl_thumbs_moved.f
      rw [if_pos (by omega), if_pos (by omega), if_pos (by omega), if_pos (by omega), if_pos h2, distance_is ha hq, bsome, bsome]
      dsimp only
      rw [wr (x := (i : Int) + 1) (by omega) (by omega), wr (by omega) (by omega), e, Int.add_assoc]
    · have h3 : rd T i = 1 := by omega
      have hd := distN_range hb hq c
      obtain ⟨K, ih⟩ := planI_l0 L hn hL T hT hl c d (i + 1) a (rd L i) (n + distN b (rd L i) c) (by omega) ha hq (by omega) (by omega)
      rw [if_neg h2]
      refine ev_from K fun k hk => ?_
      have e := ih k (by omega)
      rw [show ((i + 1 : Nat) : Int) = (i : Int) + 1 from rfl] at e
      dsimp only at e
      simp only [impl_ThumbPlan.l0]
      unfold impl_thumbs_moved.f
      rw [if_pos (by omega), if_pos (by omega), if_pos (by omega), if_pos (by omega), if_neg h2, distance_is hb hq, bsome, bsome]
      dsimp only
      rw [wr (x := (i : Int) + 1) (by omega) (by omega), wr (by omega) (by omega), e, Int.add_assoc]
def planT (s l r : ByteArray) (T : List Int) (c : Bool) : Int × Bool :=
  if (bothB s l r && (decide (T.length = s.size) && allB T)) = true then (planN c T (placesN s) (plN (bt l 0)) (plN (bt r 0)), true) else (0, false)
theorem planS_ev (s l r : ByteArray) (T : List Int) (c : Bool) (hT : T.length ≤ 1099511627776) : Ev (fun k => spec_ThumbPlan.f k s l r T c) (planT s l r T c) := by
  obtain ⟨K1, h1⟩ := thBoth_ev s l r
  obtain ⟨K2, h2⟩ := l1All_ev T hT
  unfold planT
  cases hb : bothB s l r with
  | false =>
    refine ev_from K1 fun k hk => ?_
    have e1 := h1 (k + 1) (by omega)
    rw [hb] at e1
    dsimp only at e1
    unfold spec_ThumbPlan.f
    rw [e1, bsome]
    rfl
  | true =>
    by_cases hn : T.length = s.size
    · cases ha : allB T with
      | false =>
        refine ev_from (K1 + K2) fun k hk => ?_
        have e1 := h1 (k + 1) (by omega)
        have e2 := h2 (k + 1) (by omega)
        rw [hb] at e1
        rw [ha] at e2
        dsimp only at e1 e2
        unfold spec_ThumbPlan.f
        rw [e1, bsome, if_pos rfl, if_pos (by omega), e2, bsome, Bool.and_false, Bool.and_false]
        rfl
      | true =>
        unfold bothB at hb
        rw [Bool.and_eq_true, Bool.and_eq_true] at hb
        obtain ⟨hd, ho1, ho2⟩ := hb
        obtain ⟨l1, pl⟩ := oneB_iff.1 ho1
        obtain ⟨r1, pr⟩ := oneB_iff.1 ho2
        obtain ⟨K3, e3⟩ := planS_l0 s hd T (allB_iff.1 ha) hn c s.size 0 _ _ 0 (by omega) pl pr (by omega) (by omega)
        refine ev_from (K1 + K2 + K3) fun k hk => ?_
        have e1 := h1 (k + 1) (by omega)
        have e2 := h2 (k + 1) (by omega)
        have e3 := e3 k (by omega)
        unfold bothB at e1
        rw [hd, ho1, ho2] at e1
        rw [ha] at e2
        dsimp only at e1 e2 e3
        unfold spec_ThumbPlan.f
        rw [e1, bsome, if_pos (by decide), if_pos (by omega), e2, bsome, decide_eq_true hn]
        simp only [spec_ThumbPlan.j0]
        rw [show (!true) = false from rfl, if_neg (by simp), if_pos (by omega), if_pos (by omega)]
        rw [Int.zero_add, List.drop_zero, List.drop_zero] at e3
        exact e3
    · refine ev_from K1 fun k hk => ?_
      have e1 := h1 (k + 1) (by omega)
      rw [hb] at e1
      dsimp only at e1
      unfold spec_ThumbPlan.f
      rw [e1, bsome, if_pos rfl, if_neg (by omega), decide_eq_false hn]
      rfl
theorem planI_ev (s l r : ByteArray) (T : List Int) (c : Bool) (hs : s.size ≤ 140737488351232) (hl : l.size ≤ 140737488351232) (hr : r.size ≤ 140737488351232) : Ev (fun k => impl_ThumbPlan.f k s l r T c) (planT s l r T c) := by
  obtain ⟨K1, h1⟩ := thumbsOk_ev s l r hs hl hr
  unfold planT
  cases hb : bothB s l r with
  | false =>
    refine ev_from K1 fun k hk => ?_
    have e1 := h1 (k + 1) (by omega)
    rw [hb] at e1
    dsimp only at e1
    unfold impl_ThumbPlan.f
    rw [e1, bsome]
    rfl
  | true =>
    by_cases hn : T.length = s.size
    · cases ha : allB T with
      | false =>
        refine ev_from K1 fun k hk => ?_
        have e1 := h1 (k + 1) (by omega)
        rw [hb, if_pos rfl] at e1
        dsimp only at e1
        unfold impl_ThumbPlan.f
        rw [e1, bsome]
        dsimp only
        rw [if_pos rfl, if_pos (by omega), contains_is, bsome, ha, Bool.and_false, Bool.and_false]
        rfl
      | true =>
        have hb' := hb
        unfold bothB at hb
        rw [Bool.and_eq_true, Bool.and_eq_true] at hb
        obtain ⟨hd, ho1, ho2⟩ := hb
        obtain ⟨l1, pl⟩ := oneB_iff.1 ho1
        obtain ⟨r1, pr⟩ := oneB_iff.1 ho2
        have hz := (dialB_iff.1 hd).1
        obtain ⟨K2, e2⟩ := places_ev s hd
        obtain ⟨K3, e3⟩ := planI_l0 (placesN s) (by rw [placesN_length]; omega) (placesN_range hd) T (allB_iff.1 ha) (by rw [placesN_length]; exact hn) c s.size 0 _ _ 0 (by rw [placesN_length]; omega) (plN_range pl) (plN_range pr) (by omega) (by omega)
        refine ev_from (K1 + K2 + K3) fun k hk => ?_
        have e1 := h1 (k + 1) (by omega)
        have e2 := e2 k (by omega)
        have e3 := e3 k (by omega)
        rw [hb', if_pos rfl] at e1
        dsimp only at e1 e2 e3
        unfold impl_ThumbPlan.f
        rw [e1, bsome]
        dsimp only
        rw [if_pos rfl, if_pos (by omega), contains_is, bsome, ha, decide_eq_true hn]
        simp only [impl_ThumbPlan.j0]
        rw [show (!true) = false from rfl, if_neg (by simp), e2, bsome]
        rw [Int.zero_add, List.drop_zero, List.drop_zero] at e3
        exact e3
    · refine ev_from K1 fun k hk => ?_
      have e1 := h1 (k + 1) (by omega)
      rw [hb, if_pos rfl] at e1
      dsimp only at e1
      unfold impl_ThumbPlan.f
      rw [e1, bsome]
      dsimp only
      rw [if_pos rfl, if_neg (by omega), decide_eq_false hn]
      rfl
end Go.Proofs.YtmnfknbjndonbaaDoor.Pu
