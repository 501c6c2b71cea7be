/-
  Distances walked over keys of the pad, and keys turned over, as the program and the reference tell them. Conditions: each lemma's own.
-/
import Derived.Test.YtmnfknbjndonbaaDoorPx1
import Derived.Test.YtmnfknbjndonbaaDoorPx2
import Derived.Test.YtmnfknbjndonbaaDoorPx3
import Derived.Test.YtmnfknbjndonbaaDoorPx4
import Derived.Test.YtmnfknbjndonbaaDoorPx5
import Derived.Test.YtmnfknbjndonbaaDoorPx6
import Derived.Test.YtmnfknbjndonbaaDoorPx7
import Derived.Test.YtmnfknbjndonbaaDoorPuThumb
namespace Go.Proofs.YtmnfknbjndonbaaDoor.Pu
open Go.RowKit Go.Proofs.YtmnfknbjndonbaaDoor.P Go.Proofs.YtmnfknbjndonbaaDoorW.PrintWords Go.Proofs.YtmnfknbjndonbaaDoorW.PrintLast Go.Proofs.YtmnfknbjndonbaaDoorW.PrintMore

theorem drop_rd (L : List Int) (i : Nat) (h : i < L.length) : L.drop i = rd L i :: L.drop (i + 1) := by
  rw [List.drop_eq_getElem_cons h, rd, Int.toNat_natCast, List.getD_eq_getElem?_getD, List.getElem?_eq_getElem h]
  rfl
theorem rd_mem (L : List Int) (i : Nat) (h : i < L.length) : rd L i ∈ L := by
  have : rd L i ∈ L.drop i := by rw [drop_rd L i h]; exact List.mem_cons_self
  exact List.mem_of_mem_drop this
theorem drop_places (s : ByteArray) (i : Nat) (h : i < s.size) : (placesN s).drop i = plN (bt s i) :: (placesN s).drop (i + 1) := by
  unfold placesN
  rw [← List.map_drop, drop_bytes s i h, List.map_cons, List.map_drop]
theorem rd_places (s : ByteArray) (i : Nat) (h : i < s.size) : rd (placesN s) i = plN (bt s i) := by
  have h1 := drop_rd (placesN s) i (by rw [placesN_length]; exact h)
  rw [drop_places s i h] at h1
  exact (List.cons.inj h1).1.symm

/-! ### KeyDistance -/
theorem keyDistS_ev (s t : ByteArray) (c : Bool) : Ev (fun k => spec_KeyDistance.f k s t c) (if (oneB s && oneB t) = true then (distN (plN (bt s 0)) (plN (bt t 0)) c, true) else (0, false)) := by
  obtain ⟨K1, h1⟩ := thOne_ev s
  obtain ⟨K2, h2⟩ := thOne_ev t
  cases hs : oneB s with
  | false =>
    refine ⟨K1, fun k hk => ?_⟩
    have e1 := h1 k hk
    rw [hs] at e1
    dsimp only at e1 ⊢
    unfold spec_KeyDistance.f
    rw [e1, bsome]
    rfl
  | true =>
    cases ht : oneB t with
    | false =>
      refine ⟨K1 + K2, fun k hk => ?_⟩
      have e1 := h1 k (by omega)
      have e2 := h2 k (by omega)
      rw [hs] at e1
      rw [ht] at e2
      dsimp only at e1 e2 ⊢
      unfold spec_KeyDistance.f
      rw [e1, bsome, if_pos rfl, e2, bsome]
      rfl
    | true =>
      obtain ⟨s1, ps⟩ := oneB_iff.1 hs
      obtain ⟨t1, pt⟩ := oneB_iff.1 ht
      obtain ⟨K3, h3⟩ := thFar_ev ps pt c
      refine ⟨K1 + K2 + K3, fun k hk => ?_⟩
      have e1 := h1 k (by omega)
      have e2 := h2 k (by omega)
      have e3 := h3 k (by omega)
      rw [hs] at e1
      rw [ht] at e2
      dsimp only at e1 e2 e3 ⊢
      unfold spec_KeyDistance.f
      rw [e1, bsome, if_pos rfl, e2, bsome, if_pos rfl, if_pos (by omega), if_pos (by omega), e3, bsome]
      rfl
theorem keyDistI_ev (s t : ByteArray) (c : Bool) (h1 : s.size ≤ 140737488351232) (h2 : t.size ≤ 140737488351232) : Ev (fun k => impl_KeyDistance.f k s t c) (if (oneB s && oneB t) = true then (distN (plN (bt s 0)) (plN (bt t 0)) c, true) else (0, false)) := by
  refine ev_from 0 fun k _ => ?_
  unfold impl_KeyDistance.f
  rw [isKey_is s h1, bsome]
  cases hs : oneB s with
  | false => rfl
  | true =>
    rw [if_pos rfl, isKey_is t h2, bsome]
    cases ht : oneB t with
    | false => rfl
    | true =>
      obtain ⟨s1, ps⟩ := oneB_iff.1 hs
      obtain ⟨t1, pt⟩ := oneB_iff.1 ht
      simp only [impl_KeyDistance.j0]
      rw [show (!true) = false from rfl, if_neg (by simp), if_pos (by omega), place_is _ ps, bsome, if_pos (by omega), place_is _ pt, bsome, distance_is (plN_range ps) (plN_range pt), bsome]
      rfl

/-! ### OneThumb -/
def walkN : List Int → Int → Bool → Int
  | [], _, _ => 0
  | q :: L, p, c => distN p q c + walkN L q c
theorem walkS_l0 (s : ByteArray) (h : dialB s = true) (c : Bool) : ∀ (d i : Nat) (p a : Int), i + d = s.size → isPad p = true → 0 ≤ a → a ≤ 5 * i → Ev (fun k => spec_thWalk.l0 k s p c a i) (a + walkN ((placesN s).drop i) (plN p) c)
  | 0, i, p, a, hi, hp, h0, h1 => by
    obtain rfl : i = s.size := by omega
    rw [← placesN_length s, List.drop_length]
    refine ev_from 0 fun k _ => ?_
    simp only [spec_thWalk.l0]
    rw [placesN_length, if_neg (by omega)]
    simp [walkN]
  | d + 1, i, p, a, hi, hp, h0, h1 => by
    have hs := (dialB_iff.1 h).1
    have hq := (dialB_iff.1 h).2 _ (bt_mem s i (by omega))
    have hd := distN_range (plN_range hp) (plN_range hq) c
    obtain ⟨K0, e0⟩ := thFar_ev hp hq c
    obtain ⟨K, ih⟩ := walkS_l0 s h c d (i + 1) (bt s i) (a + distN (plN p) (plN (bt s i)) c) (by omega) hq (by omega) (by omega)
    rw [drop_places s i (by omega)]
    refine ev_from (K0 + K) fun k hk => ?_
    have e := ih k (by omega)
    have e0 := e0 k (by omega)
    rw [show ((i + 1 : Nat) : Int) = (i : Int) + 1 from rfl] at e
    dsimp only at e e0
    simp only [spec_thWalk.l0]
    rw [if_pos (by omega), if_pos (by omega), e0, bsome, wr (by omega) (by omega), wr (by omega) (by omega), e, walkN, Int.add_assoc]
theorem walkI_l0 (L : List Int) (hl : L.length ≤ 1000) (hL : ∀ p ∈ L, 0 ≤ p ∧ p ≤ 11) (c : Bool) : ∀ (d i : Nat) (p a : Int), i + d = L.length → (0 ≤ p ∧ p ≤ 11) → 0 ≤ a → a ≤ 5 * i → Ev (fun k => impl_oneThumb.l0 k p c a L L.length i) (a + walkN (L.drop i) p c)
  | 0, i, p, a, hi, hp, h0, h1 => by
    obtain rfl : i = L.length := by omega
    rw [List.drop_length]
    refine ev_from 0 fun k _ => ?_
    simp only [impl_oneThumb.l0]
    rw [if_neg (by omega)]
    simp [walkN]
  | d + 1, i, p, a, hi, hp, h0, h1 => by
    have hq := hL _ (rd_mem L i (by omega))
    have hd := distN_range hp hq c
    obtain ⟨K, ih⟩ := walkI_l0 L hl hL c d (i + 1) (rd L i) (a + distN p (rd L i) c) (by omega) hq (by omega) (by omega)
    rw [drop_rd L i (by omega)]
    refine ev_from K fun k hk => ?_
    have e := ih k (by omega)
    rw [show ((i + 1 : Nat) : Int) = (i : Int) + 1 from rfl] at e
    dsimp only at e
    simp only [impl_oneThumb.l0]
    rw [if_pos (by omega), if_pos (by omega), if_pos (by omega), distance_is hp hq, bsome, wr (by omega) (by omega), wr (by omega) (by omega), e, walkN, Int.add_assoc]
theorem walkS_ev (s : ByteArray) (h : dialB s = true) (c : Bool) (p : Int) (hp : isPad p = true) : Ev (fun k => spec_thWalk.f k s p c) (walkN (placesN s) (plN p) c) := by
  obtain ⟨K, e⟩ := walkS_l0 s h c s.size 0 p 0 (by omega) hp (by omega) (by omega)
  exact ⟨K, fun k hk => by have e := e k hk; dsimp only at e; unfold spec_thWalk.f; simpa using e⟩
theorem walkI_ev (L : List Int) (hl : L.length ≤ 1000) (hL : ∀ p ∈ L, 0 ≤ p ∧ p ≤ 11) (c : Bool) (p : Int) (hp : 0 ≤ p ∧ p ≤ 11) : Ev (fun k => impl_oneThumb.f k L p c) (walkN L p c) := by
  obtain ⟨K, e⟩ := walkI_l0 L hl hL c L.length 0 p 0 (by omega) hp (by omega) (by omega)
  exact ⟨K, fun k hk => by have e := e k hk; dsimp only at e; unfold impl_oneThumb.f; simpa using e⟩
def oneT (s t : ByteArray) (c : Bool) : Int × Bool := if (dialB s && oneB t) = true then (walkN (placesN s) (plN (bt t 0)) c, true) else (0, false)
theorem oneThumbS_ev (s t : ByteArray) (c : Bool) : Ev (fun k => spec_OneThumb.f k s t c) (oneT s t c) := by
  obtain ⟨K1, h1⟩ := thGood_ev s
  obtain ⟨K2, h2⟩ := thOne_ev t
  unfold oneT
  cases hs : dialB s with
  | false =>
    refine ⟨K1, fun k hk => ?_⟩
    have e1 := h1 k hk
    rw [hs] at e1
    dsimp only at e1 ⊢
    unfold spec_OneThumb.f
    rw [e1, bsome]
    rfl
  | true =>
    cases ht : oneB t with
    | false =>
      refine ⟨K1 + K2, fun k hk => ?_⟩
      have e1 := h1 k (by omega)
      have e2 := h2 k (by omega)
      rw [hs] at e1
      rw [ht] at e2
      dsimp only at e1 e2 ⊢
      unfold spec_OneThumb.f
      rw [e1, bsome, if_pos rfl, e2, bsome]
      rfl
    | true =>
      obtain ⟨t1, pt⟩ := oneB_iff.1 ht
      obtain ⟨K3, h3⟩ := walkS_ev s hs c _ pt
      refine ⟨K1 + K2 + K3, fun k hk => ?_⟩
      have e1 := h1 k (by omega)
      have e2 := h2 k (by omega)
      have e3 := h3 k (by omega)
      rw [hs] at e1
      rw [ht] at e2
      dsimp only at e1 e2 e3 ⊢
      unfold spec_OneThumb.f
      rw [e1, bsome, if_pos rfl, e2, bsome, if_pos rfl, if_pos (by omega), e3, bsome]
      rfl
theorem oneThumbI_ev (s t : ByteArray) (c : Bool) (h1 : s.size ≤ 140737488351232) (h2 : t.size ≤ 140737488351232) : Ev (fun k => impl_OneThumb.f k s t c) (oneT s t c) := by
  unfold oneT
  cases hs : dialB s with
  | false =>
    refine ev_from 0 fun k _ => ?_
    unfold impl_OneThumb.f
    rw [isDialed_is s h1, bsome, hs]
    rfl
  | true =>
    cases ht : oneB t with
    | false =>
      refine ev_from 0 fun k _ => ?_
      unfold impl_OneThumb.f
      rw [isDialed_is s h1, bsome, hs, if_pos rfl, isKey_is t h2, bsome, ht]
      rfl
    | true =>
      obtain ⟨t1, pt⟩ := oneB_iff.1 ht
      have hl := (dialB_iff.1 hs).1
      obtain ⟨K1, e1⟩ := places_ev s hs
      obtain ⟨K2, e2⟩ := walkI_ev (placesN s) (by rw [placesN_length]; omega) (placesN_range hs) c _ (plN_range pt)
      refine ev_from (K1 + K2) fun k hk => ?_
      have e1 := e1 k (by omega)
      have e2 := e2 k (by omega)
      dsimp only at e1 e2
      unfold impl_OneThumb.f
      rw [isDialed_is s h1, bsome, hs, if_pos rfl, isKey_is t h2, bsome, ht]
      simp only [impl_OneThumb.j0]
      rw [show (!true) = false from rfl, if_neg (by simp), e1, bsome, if_pos (by omega), place_is _ pt, bsome, e2, bsome]
      rfl

/-! ### FarthestNext -/
def farN (c : Bool) : List Int → Int → Int → Int → Int → Int × Int
  | [], _, _, a, b => (a, b)
  | q :: L, p, i, a, b => if distN p q c > b then farN c L q (i + 1) i (distN p q c) else farN c L q (i + 1) a b
theorem farS_l0 (s : ByteArray) (h : dialB s = true) (c : Bool) : ∀ (d i : Nat) (a b : Int), i + 1 + d = s.size → Ev (fun k => spec_FarthestNext.l0 k s c a b ((i + 1 : Nat) : Int)) ((farN c ((placesN s).drop (i + 1)) (plN (bt s i)) i a b).1, (farN c ((placesN s).drop (i + 1)) (plN (bt s i)) i a b).2, true)
  | 0, i, a, b, hi => by
    rw [show i + 1 = (placesN s).length by rw [placesN_length]; omega, List.drop_length]
    refine ev_from 0 fun k _ => ?_
    simp only [spec_FarthestNext.l0]
    rw [placesN_length, if_neg (by omega)]
    rfl
  | d + 1, i, a, b, hi => by
    have hs := (dialB_iff.1 h).1
    have hp := (dialB_iff.1 h).2 _ (bt_mem s i (by omega))
    have hq := (dialB_iff.1 h).2 _ (bt_mem s (i + 1) (by omega))
    obtain ⟨K0, e0⟩ := thFar_ev hp hq c
    obtain ⟨K1, ih1⟩ := farS_l0 s h c d (i + 1) i (distN (plN (bt s i)) (plN (bt s ((i + 1 : Nat) : Int))) c) (by omega)
    obtain ⟨K2, ih2⟩ := farS_l0 s h c d (i + 1) a b (by omega)
    rw [drop_places s (i + 1) (by omega)]
    simp only [farN]
    refine ev_from (K0 + K1 + K2) fun k hk => ?_
    have e1 := ih1 k (by omega)
    have e2 := ih2 k (by omega)
    have e0 := e0 k (by omega)
    dsimp only at e0 e1 e2
    simp only [spec_FarthestNext.l0]
    rw [show wrap64 (((i + 1 : Nat) : Int) - 1) = (i : Int) by rw [wr (by omega) (by omega)]; omega, show wrap64 (((i + 1 : Nat) : Int) + 1) = ((i + 1 + 1 : Nat) : Int) by rw [wr (by omega) (by omega)]; omega, if_pos (by omega), if_pos (by omega), if_pos (by omega), if_pos (by omega), e0, bsome]
    by_cases hg : distN (plN (bt s i)) (plN (bt s ((i + 1 : Nat) : Int))) c > b
    · rw [if_pos hg, if_pos hg, e1]; rfl
    · rw [if_neg hg, if_neg hg, e2]; rfl
theorem farI_l0 (L : List Int) (hl : L.length ≤ 1000) (hL : ∀ p ∈ L, 0 ≤ p ∧ p ≤ 11) (c : Bool) : ∀ (d i : Nat) (a b : Int), i + 1 + d = L.length → Ev (fun k => impl_FarthestNext.l0 k c L a b ((i + 1 : Nat) : Int)) ((farN c (L.drop (i + 1)) (rd L i) i a b).1, (farN c (L.drop (i + 1)) (rd L i) i a b).2, true)
  | 0, i, a, b, hi => by
    rw [show i + 1 = L.length by omega, List.drop_length]
    refine ev_from 0 fun k _ => ?_
    simp only [impl_FarthestNext.l0]
    rw [if_neg (by omega)]
    rfl
  | d + 1, i, a, b, hi => by
    have hp := hL _ (rd_mem L i (by omega))
    have hq := hL _ (rd_mem L (i + 1) (by omega))
    obtain ⟨K1, ih1⟩ := farI_l0 L hl hL c d (i + 1) i (distN (rd L i) (rd L ((i + 1 : Nat) : Int)) c) (by omega)
    obtain ⟨K2, ih2⟩ := farI_l0 L hl hL c d (i + 1) a b (by omega)
    rw [drop_rd L (i + 1) (by omega)]
    simp only [farN]
    refine ev_from (K1 + K2) fun k hk => ?_
    have e1 := ih1 k (by omega)
    have e2 := ih2 k (by omega)
    dsimp only at e1 e2
    simp only [impl_FarthestNext.l0]
    rw [show wrap64 (((i + 1 : Nat) : Int) - 1) = (i : Int) by rw [wr (by omega) (by omega)]; omega, show wrap64 (((i + 1 : Nat) : Int) + 1) = ((i + 1 + 1 : Nat) : Int) by rw [wr (by omega) (by omega)]; omega, if_pos (by omega), if_pos (by omega), if_pos (by omega), if_pos (by omega), distance_is hp hq, bsome]
    by_cases hg : distN (rd L i) (rd L ((i + 1 : Nat) : Int)) c > b
    · rw [if_pos hg, if_pos hg, e1]; rfl
    · rw [if_neg hg, if_neg hg, e2]; rfl
def farT (s : ByteArray) (c : Bool) : Int × Int × Bool := if (dialB s && !decide (s.size < 2)) = true then ((farN c ((placesN s).drop 1) (plN (bt s 0)) 0 0 (-1)).1, (farN c ((placesN s).drop 1) (plN (bt s 0)) 0 0 (-1)).2, true) else (0, 0, false)
theorem farS_ev (s : ByteArray) (c : Bool) : Ev (fun k => spec_FarthestNext.f k s c) (farT s c) := by
  obtain ⟨K1, h1⟩ := thGood_ev s
  unfold farT
  cases hs : dialB s with
  | false =>
    refine ev_from K1 fun k hk => ?_
    have e1 := h1 (k + 1) (by omega)
    rw [hs] at e1
    dsimp only at e1
    unfold spec_FarthestNext.f
    rw [e1, bsome]
    rfl
  | true =>
    by_cases h2 : s.size < 2
    · refine ev_from K1 fun k hk => ?_
      have e1 := h1 (k + 1) (by omega)
      rw [hs] at e1
      dsimp only at e1
      unfold spec_FarthestNext.f
      rw [e1, bsome, if_pos rfl, decide_eq_true h2, decide_eq_true (show (s.size : Int) < 2 by omega)]
      rfl
    · obtain ⟨K2, e2⟩ := farS_l0 s hs c (s.size - 1) 0 0 (-1) (by omega)
      refine ev_from (K1 + K2) fun k hk => ?_
      have e1 := h1 (k + 1) (by omega)
      have e2 := e2 k (by omega)
      rw [hs] at e1
      dsimp only at e1 e2
      unfold spec_FarthestNext.f
      rw [e1, bsome, if_pos rfl, decide_eq_false h2, decide_eq_false (show ¬ (s.size : Int) < 2 by omega)]
      simp only [spec_FarthestNext.j0]
      rw [if_neg (by simp)]
      exact e2
theorem farI_ev (s : ByteArray) (h1 : s.size ≤ 140737488351232) (c : Bool) : Ev (fun k => impl_FarthestNext.f k s c) (farT s c) := by
  unfold farT
  cases hs : dialB s with
  | false =>
    refine ev_from 0 fun k _ => ?_
    unfold impl_FarthestNext.f
    rw [isDialed_is s h1, bsome, hs]
    rfl
  | true =>
    by_cases h2 : s.size < 2
    · refine ev_from 0 fun k _ => ?_
      unfold impl_FarthestNext.f
      rw [isDialed_is s h1, bsome, hs, if_pos rfl, decide_eq_true h2, decide_eq_true (show (s.size : Int) < 2 by omega)]
      rfl
    · have hl := (dialB_iff.1 hs).1
      obtain ⟨K1, e1⟩ := places_ev s hs
      obtain ⟨K2, e2⟩ := farI_l0 (placesN s) (by rw [placesN_length]; omega) (placesN_range hs) c (s.size - 1) 0 0 (-1) (by rw [placesN_length]; omega)
      refine ev_from (K1 + K2) fun k hk => ?_
      have e1 := e1 k (by omega)
      have e2 := e2 k (by omega)
      dsimp only at e1 e2
      unfold impl_FarthestNext.f
      rw [isDialed_is s h1, bsome, hs, if_pos rfl, decide_eq_false h2, decide_eq_false (show ¬ (s.size : Int) < 2 by omega)]
      simp only [impl_FarthestNext.j0]
      rw [if_neg (by simp), e1, bsome]
      rw [rd_places s 0 (by omega)] at e2
      exact e2

/-! ### keys turned over -/
def mirP (p : Int) : Int := p / 3 * 3 + 2 - p % 3
def turnP (p : Int) : Int := 11 - p
theorem mirP_range {p : Int} (h : 0 ≤ p ∧ p ≤ 11) : 0 ≤ mirP p ∧ mirP p ≤ 11 := by unfold mirP; omega
theorem turnP_range {p : Int} (h : 0 ≤ p ∧ p ≤ 11) : 0 ≤ turnP p ∧ turnP p ≤ 11 := by unfold turnP; omega
theorem mir_spec {p : Int} (h : 0 ≤ p ∧ p ≤ 11) : wrap64 ((wrap64 (3 * (wrap64 (Int.tdiv p 3)))) + (wrap64 (2 - (Int.tmod p 3)))) = mirP p := by
  have key : ∀ n : Fin 12, wrap64 ((wrap64 (3 * (wrap64 (Int.tdiv (n.val : Int) 3)))) + (wrap64 (2 - (Int.tmod (n.val : Int) 3)))) = mirP (n.val : Int) := by decide +kernel
  have := key ⟨p.toNat, by omega⟩
  rwa [show ((p.toNat : Nat) : Int) = p by omega] at this
theorem turn_spec {p : Int} (h : 0 ≤ p ∧ p ≤ 11) : wrap64 ((wrap64 (3 * (wrap64 (3 - (wrap64 (Int.tdiv p 3)))))) + (wrap64 (2 - (Int.tmod p 3)))) = turnP p := by
  have key : ∀ n : Fin 12, wrap64 ((wrap64 (3 * (wrap64 (3 - (wrap64 (Int.tdiv (n.val : Int) 3)))))) + (wrap64 (2 - (Int.tmod (n.val : Int) 3)))) = turnP (n.val : Int) := by decide +kernel
  have := key ⟨p.toNat, by omega⟩
  rwa [show ((p.toNat : Nat) : Int) = p by omega] at this
theorem mir_impl {p : Int} (h : 0 ≤ p ∧ p ≤ 11) : impl_MirrorKeys_1.f p = some (mirP p) := by
  have key : ∀ n : Fin 12, impl_MirrorKeys_1.f (n.val : Int) = some (mirP (n.val : Int)) := by decide +kernel
  have := key ⟨p.toNat, by omega⟩
  rwa [show ((p.toNat : Nat) : Int) = p by omega] at this
theorem turn_impl {p : Int} (h : 0 ≤ p ∧ p ≤ 11) : impl_TurnKeys_1.f p = some (turnP p) := by
  unfold impl_TurnKeys_1.f turnP
  rw [wr (by omega) (by omega)]
theorem numsCons (a : Int) (L : List Int) : strOfNums (a :: L) = strOfNums [a] ++ strOfNums L := numsApp [a] L
theorem thMap_l0 (s : ByteArray) (h : dialB s = true) (b : Bool) : ∀ (d i : Nat) (A : ByteArray), i + d = s.size → A.size ≤ i → Ev (fun k => spec_thMap.l0 k s b A i) (A ++ strOfNums (((placesN s).drop i).map fun p => padC (if b = true then turnP p else mirP p)))
  | 0, i, A, hi, hA => by
    obtain rfl : i = s.size := by omega
    rw [← placesN_length s, List.drop_length]
    refine ev_from 0 fun k _ => ?_
    simp only [spec_thMap.l0]
    rw [placesN_length, if_neg (by omega)]
    congr 1
    exact (ByteArray.append_empty).symm
  | d + 1, i, A, hi, hA => by
    have hs := (dialB_iff.1 h).1
    have hq := (dialB_iff.1 h).2 _ (bt_mem s i (by omega))
    have hp := plN_range hq
    obtain ⟨K0, e0⟩ := thPlace_pad _ hq
    have hm := mirP_range hp
    have ht := turnP_range hp
    obtain ⟨K, ih⟩ := thMap_l0 s h b d (i + 1) (A ++ strOfNums [padC (if b = true then turnP (plN (bt s i)) else mirP (plN (bt s i)))]) (by omega) (by rw [ByteArray.size_append, size_nums]; simp; omega)
    rw [drop_places s i (by omega), List.map_cons]
    refine ev_from (K0 + K) fun k hk => ?_
    have e := ih k (by omega)
    have e0 := e0 k (by omega)
    rw [show ((i + 1 : Nat) : Int) = (i : Int) + 1 from rfl] at e
    dsimp only at e e0
    simp only [spec_thMap.l0]
    rw [if_pos (by omega), if_pos (by omega), e0, bsome, mir_spec hp, turn_spec hp, wr (x := (i : Int) + 1) (by omega) (by omega), wr (x := mirP (plN (bt s i)) + 1) (by omega) (by omega), wr (x := turnP (plN (bt s i)) + 1) (by omega) (by omega)]
    rw [numsCons, ← ByteArray.append_assoc]
    cases b with
    | true => rw [if_pos rfl, if_pos (by omega), if_pos (by omega), if_pos (by omega), pad_cut ht, if_pos (by rw [size_nums]; simp; omega)]; exact e
    | false => rw [if_neg (by simp), if_pos (by omega), if_pos (by omega), if_pos (by omega), pad_cut hm, if_pos (by rw [size_nums]; simp; omega)]; exact e
theorem signs_l0 (L : List Int) (hl : L.length ≤ 1000) (hL : ∀ p ∈ L, 0 ≤ p ∧ p ≤ 11) : ∀ (d i : Nat) (A : List Int), i + d = L.length → A.length ≤ i → Ev (fun k => impl_signs.l0 k A L L.length i) (strOfNums (A ++ (L.drop i).map padC))
  | 0, i, A, hi, hA => by
    obtain rfl : i = L.length := by omega
    rw [List.drop_length]
    refine ev_from 0 fun k _ => ?_
    simp only [impl_signs.l0]
    rw [if_neg (by omega)]
    simp
  | d + 1, i, A, hi, hA => by
    have hp := hL _ (rd_mem L i (by omega))
    obtain ⟨K, ih⟩ := signs_l0 L hl hL d (i + 1) (A ++ [padC (rd L i)]) (by omega) (by simp; omega)
    rw [drop_rd L i (by omega), List.map_cons]
    refine ev_from K fun k hk => ?_
    have e := ih k (by omega)
    rw [show ((i + 1 : Nat) : Int) = (i : Int) + 1 from rfl] at e
    dsimp only at e
    simp only [impl_signs.l0]
    rw [if_pos (by omega), if_pos (by omega), if_pos (by omega), if_pos (by omega), if_pos (by omega), if_pos (by omega), pad_bt hp, wr (by omega) (by omega), e]
    simp
theorem signs_ev (L : List Int) (hl : L.length ≤ 1000) (hL : ∀ p ∈ L, 0 ≤ p ∧ p ≤ 11) : Ev (fun k => impl_signs.f k L) (strOfNums (L.map padC)) := by
  obtain ⟨K, e⟩ := signs_l0 L hl hL L.length 0 [] (by omega) (by simp)
  exact ⟨K, fun k hk => by have e := e k hk; dsimp only at e; unfold impl_signs.f; simpa using e⟩
theorem mirror_l0 (L : List Int) (hl : L.length ≤ 1000) (hL : ∀ p ∈ L, 0 ≤ p ∧ p ≤ 11) : ∀ (d i : Nat) (A : List Int), i + d = L.length → A.length ≤ i → (∀ p ∈ A, 0 ≤ p ∧ p ≤ 11) → Ev (fun k => impl_changed_at_MirrorKeys_1.l0 k A L L.length i) (strOfNums ((A ++ (L.drop i).map mirP).map padC), true)
  | 0, i, A, hi, hA, hR => by
    obtain rfl : i = L.length := by omega
    rw [List.drop_length]
    obtain ⟨K, e⟩ := signs_ev A (by omega) hR
    refine ev_from K fun k hk => ?_
    have e := e k hk
    dsimp only at e
    simp only [impl_changed_at_MirrorKeys_1.l0]
    rw [if_neg (by omega), e, bsome]
    simp
  | d + 1, i, A, hi, hA, hR => by
    have hp := hL _ (rd_mem L i (by omega))
    obtain ⟨K, ih⟩ := mirror_l0 L hl hL d (i + 1) (A ++ [mirP (rd L i)]) (by omega) (by simp; omega) (by
      intro p hp'
      rcases List.mem_append.1 hp' with h | h
      · exact hR p h
      · rw [List.mem_singleton] at h
        rw [h]
        exact mirP_range hp)
    rw [drop_rd L i (by omega), List.map_cons]
    refine ev_from K fun k hk => ?_
    have e := ih k (by omega)
    rw [show ((i + 1 : Nat) : Int) = (i : Int) + 1 from rfl] at e
    dsimp only at e
    simp only [impl_changed_at_MirrorKeys_1.l0]
    rw [if_pos (by omega), if_pos (by omega), if_pos (by omega), mir_impl hp, bsome, if_pos (by omega), wr (by omega) (by omega), e]
    simp
theorem turn_l0 (L : List Int) (hl : L.length ≤ 1000) (hL : ∀ p ∈ L, 0 ≤ p ∧ p ≤ 11) : ∀ (d i : Nat) (A : List Int), i + d = L.length → A.length ≤ i → (∀ p ∈ A, 0 ≤ p ∧ p ≤ 11) → Ev (fun k => impl_changed_at_TurnKeys_1.l0 k A L L.length i) (strOfNums ((A ++ (L.drop i).map turnP).map padC), true)
  | 0, i, A, hi, hA, hR => by
    obtain rfl : i = L.length := by omega
    rw [List.drop_length]
    obtain ⟨K, e⟩ := signs_ev A (by omega) hR
    refine ev_from K fun k hk => ?_
    have e := e k hk
    dsimp only at e
    simp only [impl_changed_at_TurnKeys_1.l0]
    rw [if_neg (by omega), e, bsome]
    simp
  | d + 1, i, A, hi, hA, hR => by
    have hp := hL _ (rd_mem L i (by omega))
    obtain ⟨K, ih⟩ := turn_l0 L hl hL d (i + 1) (A ++ [turnP (rd L i)]) (by omega) (by simp; omega) (by
      intro p hp'
      rcases List.mem_append.1 hp' with h | h
      · exact hR p h
      · rw [List.mem_singleton] at h
        rw [h]
        exact turnP_range hp)
    rw [drop_rd L i (by omega), List.map_cons]
    refine ev_from K fun k hk => ?_
    have e := ih k (by omega)
    rw [show ((i + 1 : Nat) : Int) = (i : Int) + 1 from rfl] at e
    dsimp only at e
    simp only [impl_changed_at_TurnKeys_1.l0]
    rw [if_pos (by omega), if_pos (by omega), if_pos (by omega), turn_impl hp, bsome, if_pos (by omega), wr (by omega) (by omega), e]
    simp
def overT (s : ByteArray) (b : Bool) : ByteArray × Bool := if dialB s = true then (strOfNums ((placesN s).map fun p => padC (if b = true then turnP p else mirP p)), true) else (⟨#[]⟩, false)
theorem overS_ev (s : ByteArray) (b : Bool) : Ev (fun k => (spec_thGood.f k s).bind fun t131 => (if t131 = true then ((spec_thMap.f k s b).bind fun t132 => (some (t132, true))) else (some ((⟨#[]⟩ : ByteArray), false)))) (overT s b) := by
  obtain ⟨K1, h1⟩ := thGood_ev s
  unfold overT
  cases hs : dialB s with
  | false =>
    refine ⟨K1, fun k hk => ?_⟩
    have e1 := h1 k hk
    rw [hs] at e1
    dsimp only at e1 ⊢
    rw [e1, bsome]
    rfl
  | true =>
    obtain ⟨K2, h2⟩ := thMap_l0 s hs b s.size 0 ⟨#[]⟩ (by omega) (Nat.zero_le _)
    refine ⟨K1 + K2, fun k hk => ?_⟩
    have e1 := h1 k (by omega)
    have e2 := h2 k (by omega)
    rw [hs] at e1
    dsimp only at e1 e2 ⊢
    unfold spec_thMap.f
    rw [e1, bsome, if_pos rfl]
    rw [show ((0 : Nat) : Int) = 0 from rfl] at e2
    rw [e2, bsome, if_pos rfl, List.drop_zero]
    congr 2
theorem mirrorI_ev (s : ByteArray) (h1 : s.size ≤ 140737488351232) : Ev (fun k => impl_MirrorKeys.f k s) (overT s false) := by
  unfold overT
  cases hs : dialB s with
  | false =>
    refine ⟨0, fun k hk => ?_⟩
    dsimp only
    unfold impl_MirrorKeys.f impl_changed_at_MirrorKeys_1.f
    rw [isDialed_is s h1, bsome, hs]
    rfl
  | true =>
    have hl := (dialB_iff.1 hs).1
    obtain ⟨K1, e1⟩ := places_ev s hs
    obtain ⟨K2, e2⟩ := mirror_l0 (placesN s) (by rw [placesN_length]; omega) (placesN_range hs) s.size 0 [] (by rw [placesN_length]; omega) (by simp) (by simp)
    refine ⟨K1 + K2, fun k hk => ?_⟩
    have e1 := e1 k (by omega)
    have e2 := e2 k (by omega)
    dsimp only at e1 e2 ⊢
    unfold impl_MirrorKeys.f impl_changed_at_MirrorKeys_1.f
    rw [isDialed_is s h1, bsome, hs, if_pos rfl, e1, bsome]
    rw [show ((0 : Nat) : Int) = 0 from rfl] at e2
    rw [e2, bsome]
    simp [List.map_map, Function.comp_def]
theorem turnI_ev (s : ByteArray) (h1 : s.size ≤ 140737488351232) : Ev (fun k => impl_TurnKeys.f k s) (overT s true) := by
  unfold overT
  cases hs : dialB s with
  | false =>
    refine ⟨0, fun k hk => ?_⟩
    dsimp only
    unfold impl_TurnKeys.f impl_changed_at_TurnKeys_1.f
    rw [isDialed_is s h1, bsome, hs]
    rfl
  | true =>
    have hl := (dialB_iff.1 hs).1
    obtain ⟨K1, e1⟩ := places_ev s hs
    obtain ⟨K2, e2⟩ := turn_l0 (placesN s) (by rw [placesN_length]; omega) (placesN_range hs) s.size 0 [] (by rw [placesN_length]; omega) (by simp) (by simp)
    refine ⟨K1 + K2, fun k hk => ?_⟩
    have e1 := e1 k (by omega)
    have e2 := e2 k (by omega)
    dsimp only at e1 e2 ⊢
    unfold impl_TurnKeys.f impl_changed_at_TurnKeys_1.f
    rw [isDialed_is s h1, bsome, hs, if_pos rfl, e1, bsome]
    rw [show ((0 : Nat) : Int) = 0 from rfl] at e2
    rw [e2, bsome]
    simp [List.map_map, Function.comp_def]
end Go.Proofs.YtmnfknbjndonbaaDoor.Pu
