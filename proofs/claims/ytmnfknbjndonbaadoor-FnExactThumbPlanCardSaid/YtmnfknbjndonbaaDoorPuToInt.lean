/-
  Lists of numbers copied and set beside each other, as the laws do it. Conditions: each lemma's own.
-/
import Derived.Test.YtmnfknbjndonbaaDoorPx21
import Derived.Test.YtmnfknbjndonbaaDoorPx24
import Derived.Test.YtmnfknbjndonbaaDoorPuWalk
namespace Go.Proofs.YtmnfknbjndonbaaDoor.Pu
open Go.RowKit Go.Proofs.YtmnfknbjndonbaaDoor.P Go.Proofs.YtmnfknbjndonbaaDoorW.PrintWords Go.Proofs.YtmnfknbjndonbaaDoorW.PrintLast Go.Proofs.YtmnfknbjndonbaaDoorW.PrintMore

theorem rd_mid (P : List Int) (v : Int) (R : List Int) : rd (P ++ v :: R) (P.length : Int) = v := by
  unfold rd
  rw [Int.toNat_natCast]
  simp
theorem set_mid (P : List Int) (r v : Int) (R : List Int) : (P ++ r :: R).set P.length v = (P ++ [v]) ++ R := by
  simp
theorem toI_l0 (L : List Int) (hl : L.length ≤ 1099511627776) : ∀ (d : Nat) (P S : List Int), S.length = d → L = P ++ S → Ev (fun k => laws_toIntS.l0 k L (P ++ List.replicate d 0) (P.length : Int)) L
  | 0, P, S, hd, hL => by
    obtain rfl := List.eq_nil_of_length_eq_zero hd
    refine ev_from 0 fun k _ => ?_
    simp only [laws_toIntS.l0]
    rw [if_neg (by rw [hL]; simp)]
    rw [hL]
    simp
  | d + 1, P, S, hd, hL => by
    match S, hd, hL with
    | s :: S, hd, hL =>
      have hd : S.length = d := by simpa using hd
      have hlen : L.length = P.length + (d + 1) := by rw [hL, List.length_append, List.length_cons, hd]
      have hr : rd L (P.length : Int) = s := by rw [hL]; exact rd_mid P s S
      obtain ⟨K, ih⟩ := toI_l0 L hl d (P ++ [s]) S hd (by rw [hL]; simp)
      refine ev_from K fun k hk => ?_
      have e := ih k hk
      rw [List.length_append, List.length_singleton, show ((P.length + 1 : Nat) : Int) = (P.length : Int) + 1 from rfl] at e
      dsimp only at e
      simp only [laws_toIntS.l0]
      rw [if_pos (by omega), if_pos (by omega), if_pos (by rw [List.length_append, List.length_replicate]; omega), Int.toNat_natCast, List.replicate_succ, set_mid, hr, wr (by omega) (by omega), e]
theorem toI_ev (L : List Int) (hl : L.length ≤ 1048576) : Ev (fun k => laws_toIntS.f k L) L := by
  obtain ⟨K, e⟩ := toI_l0 L (by omega) L.length [] L rfl rfl
  refine ⟨K, fun k hk => ?_⟩
  have e := e k hk
  dsimp only at e ⊢
  unfold laws_toIntS.f
  rw [if_pos (by omega), if_pos (by omega), Int.toNat_natCast]
  exact e
theorem eqInt_l0 : ∀ (d : Nat) (P R : List Int), R.length = d → P.length + d < 9223372036854775807 → Ev (fun k => laws_eqIntS.l0 k (P ++ R) (P ++ R) (P.length : Int)) true
  | 0, P, R, hd, h2 => by
    obtain rfl := List.eq_nil_of_length_eq_zero hd
    refine ev_from 0 fun k _ => ?_
    simp only [laws_eqIntS.l0]
    rw [if_neg (by simp)]
  | d + 1, P, R, hd, h2 => by
    match R, hd with
    | r :: R, hd =>
      have hd : R.length = d := by simpa using hd
      obtain ⟨K, ih⟩ := eqInt_l0 d (P ++ [r]) R hd (by rw [List.length_append, List.length_singleton]; omega)
      refine ev_from K fun k hk => ?_
      have e := ih k hk
      dsimp only at e
      rw [List.length_append, List.length_singleton, show ((P.length + 1 : Nat) : Int) = (P.length : Int) + 1 from rfl, List.append_assoc, List.singleton_append] at e
      simp only [laws_eqIntS.l0]
      rw [if_pos (by simp only [List.length_append, List.length_cons]; omega), if_pos (by omega), if_pos (by simp only [List.length_append, List.length_cons]; omega), if_pos trivial, wr (by omega) (by omega), e]
theorem eqInt_ev (L : List Int) (hl : L.length ≤ 1099511627776) : Ev (fun k => laws_eqIntS.f k L L) true := by
  obtain ⟨K, e⟩ := eqInt_l0 L.length [] L rfl (by simp; omega)
  exact ⟨K, fun k hk => by have e := e k hk; dsimp only at e ⊢; unfold laws_eqIntS.f; rw [if_pos rfl]; simpa using e⟩
end Go.Proofs.YtmnfknbjndonbaaDoor.Pu
