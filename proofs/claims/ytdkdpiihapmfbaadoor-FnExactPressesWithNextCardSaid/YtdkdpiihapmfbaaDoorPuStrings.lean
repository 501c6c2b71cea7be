/-
  Lists of strings weighed, copied and set beside each other, as the laws do it. Conditions: each lemma's own.
-/
import Derived.Test.YtdkdpiihapmfbaaDoorPx1
import Derived.Test.YtdkdpiihapmfbaaDoorPx2
import Derived.Test.YtdkdpiihapmfbaaDoorPu0
namespace Go.Proofs.YtdkdpiihapmfbaaDoor.Pu
open Go.RowKit Go.Proofs.YtdkdpiihapmfbaaDoor.P Go.Proofs.YtdkdpiihapmfbaaDoorW.PrintWords Go.Proofs.YtdkdpiihapmfbaaDoorW.PrintLast Go.Proofs.YtdkdpiihapmfbaaDoorW.PrintMore

theorem rds_drop (L : List ByteArray) (i : Nat) (h : i < L.length) : L.drop i = rdOf ByteArray.empty L i :: L.drop (i + 1) := by
  rw [List.drop_eq_getElem_cons h, rdOf, Int.toNat_natCast, List.getD_eq_getElem?_getD, List.getElem?_eq_getElem h]
  rfl
theorem rds_mem (L : List ByteArray) (i : Nat) (h : i < L.length) : rdOf ByteArray.empty L i ∈ L := by
  have : rdOf ByteArray.empty L i ∈ L.drop i := by rw [rds_drop L i h]; exact List.mem_cons_self
  exact List.mem_of_mem_drop this
theorem rds_mid (P : List ByteArray) (v : ByteArray) (R : List ByteArray) : rdOf ByteArray.empty (P ++ v :: R) (P.length : Int) = v := by
  unfold rdOf
  rw [Int.toNat_natCast]
  simp
theorem sets_mid (P : List ByteArray) (r v : ByteArray) (R : List ByteArray) : (P ++ r :: R).set P.length v = (P ++ [v]) ++ R := by
  simp
/-- What the law has measured: too much, or strings that are none of them long. -/
theorem szS_l0 (L : List ByteArray) (hl : L.length ≤ 17592186044416) (hL : ∀ x ∈ L, x.size ≤ 9223372036854775807) : ∀ (d i : Nat) (n : Int), i + d = L.length → 0 ≤ n → n ≤ 1048576 → ∃ r, Ev (fun k => laws_szStringS.l0 k L n i) r ∧ (r < 0 ∨ ∀ x ∈ L.drop i, (x.size : Int) ≤ n)
  | 0, i, n, hi, h0, h1 => by
    obtain rfl : i = L.length := by omega
    refine ⟨n, ev_from 0 fun k _ => ?_, Or.inr (by simp)⟩
    simp only [laws_szStringS.l0]
    rw [if_neg (by omega)]
  | d + 1, i, n, hi, h0, h1 => by
    have hm := hL _ (rds_mem L i (by omega))
    by_cases hn : n - ((rdOf ByteArray.empty L i).size : Int) < 0
    · refine ⟨-1, ev_from 0 fun k _ => ?_, Or.inl (by omega)⟩
      simp only [laws_szStringS.l0]
      rw [if_pos (by omega), if_pos (by omega), wr (x := n - ((rdOf ByteArray.empty L i).size : Int)) (by omega) (by omega), if_pos hn]
    · obtain ⟨r, ⟨K, ih⟩, hr⟩ := szS_l0 L hl hL d (i + 1) (n - ((rdOf ByteArray.empty L i).size : Int)) (by omega) (by omega) (by omega)
      refine ⟨r, ev_from K fun k hk => ?_, ?_⟩
      · have e := ih k hk
        rw [show ((i + 1 : Nat) : Int) = (i : Int) + 1 from rfl] at e
        dsimp only at e
        simp only [laws_szStringS.l0]
        rw [if_pos (by omega), if_pos (by omega), wr (x := n - ((rdOf ByteArray.empty L i).size : Int)) (by omega) (by omega), if_neg hn, wr (by omega) (by omega), e]
      · rcases hr with h | h
        · exact Or.inl h
        · refine Or.inr fun x hx => ?_
          rw [rds_drop L i (by omega)] at hx
          rcases List.mem_cons.1 hx with rfl | hx
          · omega
          · have := h x hx; omega
theorem szS_ev (L : List ByteArray) (hl : L.length ≤ 17592186044416) (hL : ∀ x ∈ L, x.size ≤ 9223372036854775807) : ∃ r, Ev (fun k => laws_szStringS.f k L 1048576) r ∧ (r < 0 ∨ L.length ≤ 1048576 ∧ ∀ x ∈ L, x.size ≤ 1048576) := by
  by_cases hn : (1048576 : Int) - (L.length : Int) < 0
  · refine ⟨-1, ⟨0, fun k _ => ?_⟩, Or.inl (by omega)⟩
    dsimp only
    unfold laws_szStringS.f
    rw [wr (by omega) (by omega), if_pos hn]
  · obtain ⟨r, ⟨K, e⟩, hr⟩ := szS_l0 L hl hL L.length 0 ((1048576 : Int) - (L.length : Int)) (by omega) (by omega) (by omega)
    refine ⟨r, ⟨K, fun k hk => ?_⟩, ?_⟩
    · have e := e k hk
      dsimp only at e ⊢
      unfold laws_szStringS.f
      rw [wr (by omega) (by omega), if_neg hn]
      exact e
    · rcases hr with h | h
      · exact Or.inl h
      · refine Or.inr ⟨by omega, fun x hx => ?_⟩
        have := h x (by simpa using hx)
        omega
theorem toS_l0 (L : List ByteArray) (hl : L.length ≤ 1099511627776) : ∀ (d : Nat) (P S : List ByteArray), S.length = d → L = P ++ S → Ev (fun k => laws_toStringS.l0 k L (P ++ List.replicate d (⟨#[]⟩ : ByteArray)) (P.length : Int)) L
  | 0, P, S, hd, hL => by
    obtain rfl := List.eq_nil_of_length_eq_zero hd
    refine ev_from 0 fun k _ => ?_
    simp only [laws_toStringS.l0]
    rw [if_neg (by rw [hL]; simp)]
    rw [hL]
    simp
  | d + 1, P, S, hd, hL => by
    match S, hd, hL with
    | s :: S, hd, hL =>
      have hd : S.length = d := by simpa using hd
      have hlen : L.length = P.length + (d + 1) := by rw [hL, List.length_append, List.length_cons, hd]
      have hr : rdOf ByteArray.empty L (P.length : Int) = s := by rw [hL]; exact rds_mid P s S
      obtain ⟨K, ih⟩ := toS_l0 L hl d (P ++ [s]) S hd (by rw [hL]; simp)
      refine ev_from K fun k hk => ?_
      have e := ih k hk
      rw [List.length_append, List.length_singleton, show ((P.length + 1 : Nat) : Int) = (P.length : Int) + 1 from rfl] at e
      dsimp only at e
      simp only [laws_toStringS.l0]
      rw [if_pos (by omega), if_pos (by omega), if_pos (by rw [List.length_append, List.length_replicate]; omega), Int.toNat_natCast, List.replicate_succ, sets_mid, hr, wr (by omega) (by omega), e]
theorem toS_ev (L : List ByteArray) (hl : L.length ≤ 1048576) : Ev (fun k => laws_toStringS.f k L) L := by
  obtain ⟨K, e⟩ := toS_l0 L (by omega) L.length [] L rfl rfl
  refine ⟨K, fun k hk => ?_⟩
  have e := e k hk
  dsimp only at e ⊢
  unfold laws_toStringS.f
  rw [if_pos (by omega), if_pos (by omega), Int.toNat_natCast]
  exact e
theorem eqS_l0 : ∀ (d : Nat) (P R : List ByteArray), R.length = d → P.length + d < 9223372036854775807 → Ev (fun k => laws_eqStringS.l0 k (P ++ R) (P ++ R) (P.length : Int)) true
  | 0, P, R, hd, h2 => by
    obtain rfl := List.eq_nil_of_length_eq_zero hd
    refine ev_from 0 fun k _ => ?_
    simp only [laws_eqStringS.l0]
    rw [if_neg (by simp)]
  | d + 1, P, R, hd, h2 => by
    match R, hd with
    | r :: R, hd =>
      have hd : R.length = d := by simpa using hd
      obtain ⟨K, ih⟩ := eqS_l0 d (P ++ [r]) R hd (by rw [List.length_append, List.length_singleton]; omega)
      refine ev_from K fun k hk => ?_
      have e := ih k hk
      dsimp only at e
      rw [List.length_append, List.length_singleton, show ((P.length + 1 : Nat) : Int) = (P.length : Int) + 1 from rfl, List.append_assoc, List.singleton_append] at e
      simp only [laws_eqStringS.l0]
      rw [if_pos (by simp only [List.length_append, List.length_cons]; omega), if_pos (by omega), if_pos (by simp only [List.length_append, List.length_cons]; omega), if_pos trivial, wr (by omega) (by omega), e]
theorem eqS_ev (L : List ByteArray) (hl : L.length ≤ 1099511627776) : Ev (fun k => laws_eqStringS.f k L L) true := by
  obtain ⟨K, e⟩ := eqS_l0 L.length [] L rfl (by simp; omega)
  exact ⟨K, fun k hk => by have e := e k hk; dsimp only at e ⊢; unfold laws_eqStringS.f; rw [if_pos rfl]; simpa using e⟩
end Go.Proofs.YtdkdpiihapmfbaaDoor.Pu
