/- Parts of the proof (printed walks, lemmas of our own, contracts of the library laid for this program), merged into one text by wip/mclaim.py. Conditions: each theorem's own. -/
import Derived.Test.YtclnjlnpconjmaaDoorM0
import Derived.Test.YtclnjlnpconjmaaDoorM5
section
namespace Go.Proofs.YtclnjlnpconjmaaDoor.Pu
open Go.RowKit Go.Proofs.YtclnjlnpconjmaaDoor.P Go.Proofs.YtclnjlnpconjmaaDoorW.PrintWords Go.Proofs.YtclnjlnpconjmaaDoorW.PrintLast Go.Proofs.YtclnjlnpconjmaaDoorW.PrintMore
def txtN : Nat → Int → ByteArray → ByteArray
  | 0, _, A => A
  | n + 1, x, A => if x > 0 then txtN n (wrap64 (Int.tdiv x 10)) (strOfNums [(wrap64 (48 + (Int.tmod x 10))) % 256] ++ A) else (⟨#[109]⟩ : ByteArray) ++ A
def txt (v : Int) : ByteArray := if v ≤ 0 then (⟨#[109, 48]⟩ : ByteArray) else txtN (v.toNat + 1) v ⟨#[]⟩
theorem txtN_ev : ∀ (n : Nat) (x : Int) (A : ByteArray), x.toNat < n → 0 ≤ x → x ≤ 1099511627776 → A.size + x.toNat ≤ 1125899906842624 → Ev (fun k => laws_markText.l0 k x A) (txtN n x A)
  | 0, _, _, h, _, _, _ => absurd h (Nat.not_lt_zero _)
  | n + 1, x, A, h, h0, h1, h2 => by
    by_cases hx : x > 0
    · have hd : wrap64 (Int.tdiv x 10) = x / 10 := by
        rw [Int.tdiv_eq_ediv_of_nonneg h0]
        exact wr (by omega) (by omega)
      obtain ⟨K, e⟩ := txtN_ev n (wrap64 (Int.tdiv x 10)) (strOfNums [(wrap64 (48 + (Int.tmod x 10))) % 256] ++ A) (by rw [hd]; omega) (by rw [hd]; omega) (by rw [hd]; omega) (by
        rw [hd, ByteArray.size_append, size_nums, List.length_singleton]
        omega)
      refine ev_from K fun k hk => ?_
      have e := e k hk
      dsimp only at e
      simp only [laws_markText.l0, txtN]
      rw [if_pos hx, if_pos hx, bsome, if_pos (by rw [size_nums, List.length_singleton]; omega)]
      exact e
    · refine ev_from 0 fun k _ => ?_
      simp only [laws_markText.l0, txtN]
      rw [if_neg hx, if_neg hx, if_pos (by omega)]
theorem txt_ev (v : Int) (h : 0 ≤ v ∧ v ≤ 4194304) : Ev (fun k => laws_markText.f k v) (txt v) := by
  unfold txt
  by_cases hv : v ≤ 0
  · refine ⟨0, fun k _ => ?_⟩
    dsimp only
    unfold laws_markText.f
    rw [if_pos hv, if_pos hv]
  · obtain ⟨K, e⟩ := txtN_ev (v.toNat + 1) v ⟨#[]⟩ (by omega) h.1 (by omega) (by
      show 0 + v.toNat ≤ 1125899906842624
      omega)
    refine ⟨K, fun k hk => ?_⟩
    have e := e k hk
    dsimp only at e ⊢
    unfold laws_markText.f
    rw [if_neg hv, if_neg hv]
    exact e
def upT : Int → Nat → List ByteArray
  | _, 0 => []
  | v, n + 1 => txt v :: upT (v + 1) n
theorem markS_l0 : ∀ (d : Nat) (P R : List ByteArray) (v : Int), R.length = d → 0 ≤ v → v + d ≤ 4194304 → P.length + d ≤ 4194304 → Ev (fun k => laws_markStringS.l0 k (P ++ R) v (P.length : Int)) (v + d, P ++ upT v d)
  | 0, P, R, v, hd, h0, h1, h2 => by
    obtain rfl := List.eq_nil_of_length_eq_zero hd
    refine ev_from 0 fun k _ => ?_
    simp only [laws_markStringS.l0]
    rw [if_neg (by simp)]
    simp [upT]
  | d + 1, P, R, v, hd, h0, h1, h2 => by
    match R, hd with
    | r :: R, hd =>
      have hd : R.length = d := by simpa using hd
      obtain ⟨K0, e0⟩ := txt_ev v (by omega)
      obtain ⟨K, ih⟩ := markS_l0 d (P ++ [txt v]) R (v + 1) hd (by omega) (by omega) (by rw [List.length_append, List.length_singleton]; omega)
      refine ev_from (K0 + K) fun k hk => ?_
      have e := ih k (by omega)
      have e0 := e0 k (by omega)
      dsimp only at e e0
      simp only [laws_markStringS.l0]
      rw [if_pos (by simp only [List.length_append, List.length_cons]; omega), e0, bsome, if_pos (by omega), Int.toNat_natCast, sets_mid, wr (by omega) (by omega), wr (by omega) (by omega)]
      rw [List.length_append, List.length_singleton, show ((P.length + 1 : Nat) : Int) = (P.length : Int) + 1 from rfl] at e
      rw [e, upT]
      simp only [List.append_assoc, List.singleton_append]
      rw [show v + 1 + (d : Int) = v + ((d + 1 : Nat) : Int) by omega]
theorem markS_ev (L : List ByteArray) (hl : L.length ≤ 2097152) : Ev (fun k => laws_markStringS.f k L 1) (1 + L.length, upT 1 L.length) := by
  obtain ⟨K, e⟩ := markS_l0 L.length [] L 1 rfl (by omega) (by omega) (by simp; omega)
  exact ⟨K, fun k hk => by have e := e k hk; dsimp only at e; unfold laws_markStringS.f; simpa using e⟩
theorem heldS_l0 : ∀ (d : Nat) (P : List ByteArray) (v : Int), 0 ≤ v → v + d ≤ 4194304 → P.length + d ≤ 4194304 → Ev (fun k => laws_heldStringS.l0 k (P ++ upT v d) v (P.length : Int)) (v + d)
  | 0, P, v, h0, h1, h2 => by
    refine ev_from 0 fun k _ => ?_
    simp only [laws_heldStringS.l0]
    rw [if_neg (by simp [upT])]
    simp
  | d + 1, P, v, h0, h1, h2 => by
    obtain ⟨K0, e0⟩ := txt_ev v (by omega)
    obtain ⟨K, ih⟩ := heldS_l0 d (P ++ [txt v]) (v + 1) (by omega) (by omega) (by rw [List.length_append, List.length_singleton]; omega)
    refine ev_from (K0 + K) fun k hk => ?_
    have e := ih k (by omega)
    have e0 := e0 k (by omega)
    dsimp only at e e0
    rw [List.length_append, List.length_singleton, show ((P.length + 1 : Nat) : Int) = (P.length : Int) + 1 from rfl, List.append_assoc, List.singleton_append] at e
    simp only [laws_heldStringS.l0]
    rw [upT, if_pos (by simp only [List.length_append, List.length_cons]; omega), if_pos (by omega), e0, bsome, rds_mid, if_pos rfl, wr (by omega) (by omega), wr (by omega) (by omega), e]
    rw [show v + 1 + (d : Int) = v + ((d + 1 : Nat) : Int) by omega]
theorem heldS_ev (n : Nat) (hl : n ≤ 2097152) : Ev (fun k => laws_heldStringS.f k (upT 1 n) 1) (1 + n) := by
  obtain ⟨K, e⟩ := heldS_l0 n [] 1 (by omega) (by omega) (by simp; omega)
  exact ⟨K, fun k hk => by have e := e k hk; dsimp only at e; unfold laws_heldStringS.f; simpa using e⟩
end Go.Proofs.YtclnjlnpconjmaaDoor.Pu
end

section
namespace Go.Proofs.YtclnjlnpconjmaaDoor.Pure
open Go.RowKit Go.Proofs.YtclnjlnpconjmaaDoor.P Go.Proofs.YtclnjlnpconjmaaDoor.Pu Go.Proofs.YtclnjlnpconjmaaDoorW.PrintWords Go.Proofs.YtclnjlnpconjmaaDoorW.PrintLast
theorem FnExactFirstFewest : laws_FnExactFirstFewest.Pure := by
  intro L keys _ hl hL hk
  by_cases hz : (keys.size : Int) > 1048576
  · exact ⟨0, by unfold laws_FnExactFirstFewest.f; rw [if_pos hz]⟩
  obtain ⟨r, ⟨K1, h1⟩, hr⟩ := szS_ev L (by omega) hL
  rcases hr with hr | ⟨hn, hx⟩
  · refine ⟨K1, ?_⟩
    have e1 := h1 K1 (Nat.le_refl _)
    dsimp only at e1
    unfold laws_FnExactFirstFewest.f
    rw [if_neg hz, e1, bsome, if_pos hr]
  · have hx' : ∀ x ∈ L, x.size ≤ 140737488351232 := fun x h => by have := hx x h; omega
    have ht := firstT_length L keys true
    obtain ⟨K2, h2⟩ := toS_ev L hn
    obtain ⟨K3, h3⟩ := sFirstFewest_ev L (by omega) hx' keys hk
    obtain ⟨K4, h4⟩ := iFirstFewest_ev L (by omega) hx' keys hk
    obtain ⟨K5, h5⟩ := eqS_ev L (by omega)
    obtain ⟨K6, h6⟩ := eqS_ev (firstT L keys true).1 (by omega)
    obtain ⟨K7, h7⟩ := markS_ev L (by omega)
    obtain ⟨K8, h8⟩ := markS_ev (firstT L keys true).1 (by omega)
    obtain ⟨K9, h9⟩ := heldS_ev (firstT L keys true).1.length (by omega)
    generalize hK : K1 + K2 + K3 + K4 + K5 + K6 + K7 + K8 + K9 = K
    refine ⟨K + 3, ?_⟩
    have a1 := h1 (K + 3) (by omega)
    have a2 := h2 (K + 3) (by omega)
    have b2 := h2 (K + 2) (by omega)
    have c2 := h2 (K + 1) (by omega)
    have a3 := h3 (K + 3) (by omega)
    have a4 := h4 (K + 3) (by omega)
    have c4 := h4 (K + 1) (by omega)
    have b5 := h5 (K + 2) (by omega)
    have a6 := h6 (K + 3) (by omega)
    have b6 := h6 (K + 2) (by omega)
    have c6 := h6 (K + 1) (by omega)
    have b7 := h7 (K + 2) (by omega)
    have c8 := h8 (K + 1) (by omega)
    have c9 := h9 (K + 1) (by omega)
    have d9 := h9 K (by omega)
    dsimp only at a1 a2 b2 c2 a3 a4 c4 b5 a6 b6 c6 b7 c8 c9 d9
    unfold laws_FnExactFirstFewest.f
    rw [if_neg hz, a1, bsome]
    by_cases h0 : r < 0
    · rw [if_pos h0]
    · rw [if_neg h0, a2, bsome, a3, bsome, bsome, a4, bsome, a6, bsome, if_pos rfl]
      simp only [laws_FnExactFirstFewest.j0]
      rw [if_neg (by simp), b2, bsome, b5, bsome, if_pos rfl, b7, bsome, if_neg (by omega), b6, bsome, if_pos rfl]
      simp only [laws_FnExactFirstFewest.j1]
      rw [if_neg (by simp), c8, bsome, c9, bsome, if_neg (by omega), if_pos rfl, c2, bsome, c4, bsome, c6, bsome, if_pos rfl]
      simp only [laws_FnExactFirstFewest.j2]
      rw [if_neg (by simp), d9, bsome, if_neg (by omega), if_pos rfl]
end Go.Proofs.YtclnjlnpconjmaaDoor.Pure
end

