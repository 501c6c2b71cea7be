/-
  Lists of numbers marked, held and set beside each other, as the laws do it. Conditions: each lemma's own.
-/
import Derived.Test.YtjnebonphbgkgaaDoorPx10
import Derived.Test.YtjnebonphbgkgaaDoorPu0
namespace Go.Proofs.YtjnebonphbgkgaaDoor.Pu
open Go.RowKit Go.Proofs.YtjnebonphbgkgaaDoor.P Go.Proofs.YtjnebonphbgkgaaDoorW.PrintWords Go.Proofs.YtjnebonphbgkgaaDoorW.PrintLast Go.Proofs.YtjnebonphbgkgaaDoorW.PrintMore

def upN : Int → Nat → List Int
  | _, 0 => []
  | v, n + 1 => v :: upN (v + 1) n
theorem upN_length (v : Int) (n : Nat) : (upN v n).length = n := by
  induction n generalizing v with
  | zero => rfl
  | succ n ih => rw [upN, List.length_cons, ih]
theorem rd_mid (P : List Int) (v : Int) (R : List Int) : rd (P ++ v :: R) (P.length : Int) = v := by
  unfold rd
  rw [Int.toNat_natCast]
  simp
theorem set_mid (P : List Int) (r v : Int) (R : List Int) : (P ++ r :: R).set P.length v = (P ++ [v]) ++ R := by
  simp
theorem mark_l0 : ∀ (d : Nat) (P R : List Int) (v : Int), R.length = d → 0 ≤ v → v + d ≤ 9223372036854775807 → P.length + d < 9223372036854775807 → Ev (fun k => laws_markIntS.l0 k (P ++ R) v (P.length : Int)) (v + d, P ++ upN v d)
  | 0, P, R, v, hd, h0, h1, h2 => by
    obtain rfl := List.eq_nil_of_length_eq_zero hd
    refine ev_from 0 fun k _ => ?_
    simp only [laws_markIntS.l0]
    rw [if_neg (by simp)]
    simp [upN]
  | d + 1, P, R, v, hd, h0, h1, h2 => by
    match R, hd with
    | r :: R, hd =>
      have hd : R.length = d := by simpa using hd
      obtain ⟨K, ih⟩ := mark_l0 d (P ++ [v]) R (v + 1) hd (by omega) (by omega) (by rw [List.length_append, List.length_singleton]; omega)
      refine ev_from K fun k hk => ?_
      have e := ih k hk
      dsimp only at e
      simp only [laws_markIntS.l0]
      rw [if_pos (by simp only [List.length_append, List.length_cons]; omega), if_pos (by omega), Int.toNat_natCast, set_mid, wr (by omega) (by omega), wr (by omega) (by omega)]
      rw [List.length_append, List.length_singleton, show ((P.length + 1 : Nat) : Int) = (P.length : Int) + 1 from rfl] at e
      rw [e, upN]
      simp only [List.append_assoc, List.singleton_append]
      rw [show v + 1 + (d : Int) = v + ((d + 1 : Nat) : Int) by omega]
theorem mark_ev (L : List Int) (hl : L.length ≤ 1000000) : Ev (fun k => laws_markIntS.f k L 1) (1 + L.length, upN 1 L.length) := by
  obtain ⟨K, e⟩ := mark_l0 L.length [] L 1 rfl (by omega) (by omega) (by simp; omega)
  exact ⟨K, fun k hk => by have e := e k hk; dsimp only at e; unfold laws_markIntS.f; simpa using e⟩
theorem held_l0 : ∀ (d : Nat) (P : List Int) (v : Int), 0 ≤ v → v + d ≤ 9223372036854775807 → P.length + d < 9223372036854775807 → Ev (fun k => laws_heldIntS.l0 k (P ++ upN v d) v (P.length : Int)) (v + d)
  | 0, P, v, h0, h1, h2 => by
    refine ev_from 0 fun k _ => ?_
    simp only [laws_heldIntS.l0]
    rw [if_neg (by simp [upN])]
    simp
  | d + 1, P, v, h0, h1, h2 => by
    obtain ⟨K, ih⟩ := held_l0 d (P ++ [v]) (v + 1) (by omega) (by omega) (by rw [List.length_append, List.length_singleton]; omega)
    refine ev_from K fun k hk => ?_
    have e := ih k hk
    dsimp only at e
    rw [List.length_append, List.length_singleton, show ((P.length + 1 : Nat) : Int) = (P.length : Int) + 1 from rfl, List.append_assoc, List.singleton_append] at e
    simp only [laws_heldIntS.l0]
    rw [upN, if_pos (by simp only [List.length_append, List.length_cons]; omega), if_pos (by omega), rd_mid, if_pos rfl, wr (by omega) (by omega), wr (by omega) (by omega), e]
    rw [show v + 1 + (d : Int) = v + ((d + 1 : Nat) : Int) by omega]
theorem held_ev (n : Nat) (hl : n ≤ 1000000) : Ev (fun k => laws_heldIntS.f k (upN 1 n) 1) (1 + n) := by
  obtain ⟨K, e⟩ := held_l0 n [] 1 (by omega) (by omega) (by simp; omega)
  exact ⟨K, fun k hk => by have e := e k hk; dsimp only at e; unfold laws_heldIntS.f; simpa using e⟩
theorem eqInt_l0 : ∀ (d : Nat) (P R Q : List Int), R.length = d → P.length + d < 9223372036854775807 → R = Q → Ev (fun k => laws_eqIntS.l0 k (P ++ R) (P ++ Q) (P.length : Int)) true
  | 0, P, R, Q, hd, h2, hq => by
    obtain rfl := List.eq_nil_of_length_eq_zero hd
    refine ev_from 0 fun k _ => ?_
    simp only [laws_eqIntS.l0]
    rw [if_neg (by simp)]
  | d + 1, P, R, Q, hd, h2, hq => by
    subst hq
    match R, hd with
    | r :: R, hd =>
      have hd : R.length = d := by simpa using hd
      obtain ⟨K, ih⟩ := eqInt_l0 d (P ++ [r]) R R hd (by rw [List.length_append, List.length_singleton]; omega) rfl
      refine ev_from K fun k hk => ?_
      have e := ih k hk
      dsimp only at e
      rw [List.length_append, List.length_singleton, show ((P.length + 1 : Nat) : Int) = (P.length : Int) + 1 from rfl, List.append_assoc, List.singleton_append] at e
      simp only [laws_eqIntS.l0]
      rw [if_pos (by simp only [List.length_append, List.length_cons]; omega), if_pos (by omega), if_pos (by simp only [List.length_append, List.length_cons]; omega), if_pos trivial, wr (by omega) (by omega), e]
theorem eqInt_ev (L : List Int) (hl : L.length ≤ 1000000) : Ev (fun k => laws_eqIntS.f k L L) true := by
  obtain ⟨K, e⟩ := eqInt_l0 L.length [] L L rfl (by simp; omega) rfl
  exact ⟨K, fun k hk => by have e := e k hk; dsimp only at e ⊢; unfold laws_eqIntS.f; rw [if_pos rfl]; simpa using e⟩
end Go.Proofs.YtjnebonphbgkgaaDoor.Pu
