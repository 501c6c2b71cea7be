/-
  Keys read from a text of moves over the pad, as the program and the reference tell them. Conditions: each lemma's own.
-/
import Derived.Test.YtmnfknbjndonbaaDoorPx8
import Derived.Test.YtmnfknbjndonbaaDoorPx9
import Derived.Test.YtmnfknbjndonbaaDoorPuIn
import Derived.Test.YtmnfknbjndonbaaDoorPuWalk
namespace Go.Proofs.YtmnfknbjndonbaaDoor.Pu
open Go.RowKit Go.Proofs.YtmnfknbjndonbaaDoor.P Go.Proofs.YtmnfknbjndonbaaDoorW.PrintWords Go.Proofs.YtmnfknbjndonbaaDoorW.PrintLast Go.Proofs.YtmnfknbjndonbaaDoorW.PrintMore

def okXY (x y : Int) : Bool := (decide (0 ≤ x) && decide (x ≤ 2)) && (decide (0 ≤ y) && decide (y ≤ 3))
theorem okXY_iff {x y : Int} : okXY x y = true ↔ (0 ≤ x ∧ x ≤ 2) ∧ (0 ≤ y ∧ y ≤ 3) := by unfold okXY; simp
def movN : List Int → Int → Int → List Int → Option (List Int)
  | [], _, _, A => some A
  | c :: L, x, y, A =>
    if c = 108 then (if okXY (x - 1) y = true then movN L (x - 1) y A else none)
    else if c = 114 then (if okXY (x + 1) y = true then movN L (x + 1) y A else none)
    else if c = 117 then (if okXY x (y - 1) = true then movN L x (y - 1) A else none)
    else if c = 100 then (if okXY x (y + 1) = true then movN L x (y + 1) A else none)
    else if c = 46 then (if okXY x y = true then movN L x y (A ++ [padC (3 * y + x)]) else none)
    else none
def movT : Option (List Int) → ByteArray × Bool
  | none => (⟨#[]⟩, false)
  | some A => if A.length > 30 then (⟨#[]⟩, false) else (strOfNums A, true)
theorem movS_j2 {s : ByteArray} {x y : Int} {A : ByteArray} {i : Nat} {r : ByteArray × Bool} (hi : i ≤ 1000) (h : okXY x y = true → Ev (fun k => spec_KeysOfMoves.l0 k s x y A ((i + 1 : Nat) : Int)) r) : Ev (fun k => spec_KeysOfMoves.j2 k s x y A i) (if okXY x y = true then r else (⟨#[]⟩, false)) := by
  cases ho : okXY x y with
  | true =>
    obtain ⟨K, e⟩ := h ho
    refine ev_from K fun k hk => ?_
    have e := e k hk
    dsimp only at e
    simp only [spec_KeysOfMoves.j2]
    have := okXY_iff.1 ho
    rw [l1In_is, bsome, decide_eq_true this.1.1, decide_eq_true this.1.2, if_pos (show (true && true) = true from rfl), l1In_is, bsome, decide_eq_true this.2.1, decide_eq_true this.2.2, if_pos (show (true && true) = true from rfl), if_pos (show True from trivial), wr (by omega) (by omega)]
    exact e
  | false =>
    refine ev_from 0 fun k hk => ?_
    simp only [spec_KeysOfMoves.j2]
    unfold okXY at ho
    rw [l1In_is, bsome]
    cases h1 : (decide (0 ≤ x) && decide (x ≤ 2)) with
    | false => rfl
    | true =>
      rw [h1, Bool.true_and] at ho
      rw [if_pos rfl, l1In_is, bsome, ho]
      rfl
theorem movI_j2 {s : ByteArray} {x y : Int} {A : List Int} {i : Nat} {n : Int} {r : ByteArray × Bool} (hi : i ≤ 1000) (h : okXY x y = true → Ev (fun k => impl_KeysOfMoves.l0 k s x y A n ((i + 1 : Nat) : Int)) r) : Ev (fun k => impl_KeysOfMoves.j2 k s x y A n i) (if okXY x y = true then r else (⟨#[]⟩, false)) := by
  cases ho : okXY x y with
  | true =>
    obtain ⟨K, e⟩ := h ho
    refine ev_from K fun k hk => ?_
    have e := e k hk
    dsimp only at e
    simp only [impl_KeysOfMoves.j2]
    have := okXY_iff.1 ho
    rw [in_is, bsome, decide_eq_true this.1.1, decide_eq_true this.1.2, if_pos (show (true && true) = true from rfl), in_is, bsome, decide_eq_true this.2.1, decide_eq_true this.2.2, if_pos (show (true && true) = true from rfl), if_pos (show True from trivial), wr (by omega) (by omega)]
    exact e
  | false =>
    refine ev_from 0 fun k hk => ?_
    simp only [impl_KeysOfMoves.j2]
    unfold okXY at ho
    rw [in_is, bsome]
    cases h1 : (decide (0 ≤ x) && decide (x ≤ 2)) with
    | false => rfl
    | true =>
      rw [h1, Bool.true_and] at ho
      rw [if_pos rfl, in_is, bsome, ho]
      rfl
theorem movIf {p : Prop} [Decidable p] {a : Option (List Int)} : movT (if p then a else none) = if p then movT a else (⟨#[]⟩, false) := by
  by_cases h : p
  · rw [if_pos h, if_pos h]
  · rw [if_neg h, if_neg h]; rfl
theorem movS_l0 (s : ByteArray) (hs : s.size ≤ 200) : ∀ (d i : Nat) (x y : Int) (A : List Int), i + d = s.size → okXY x y = true → A.length ≤ i → Ev (fun k => spec_KeysOfMoves.l0 k s x y (strOfNums A) i) (movT (movN ((bytesOf s).drop i) x y A))
  | 0, i, x, y, A, hi, ho, hA => by
    obtain rfl : i = s.size := by omega
    rw [drop_end]
    refine ev_from 0 fun k _ => ?_
    simp only [spec_KeysOfMoves.l0, movN, movT]
    rw [if_neg (by omega), size_nums]
    by_cases h : A.length > 30
    · rw [if_pos h, if_pos (by omega)]
    · rw [if_neg h, if_neg (by omega)]
  | d + 1, i, x, y, A, hi, ho, hA => by
    have hxy := okXY_iff.1 ho
    have go : ∀ (x' y' : Int) (A' : List Int), A'.length ≤ i + 1 → Ev (fun k => spec_KeysOfMoves.j2 k s x' y' (strOfNums A') i) (if okXY x' y' = true then movT (movN ((bytesOf s).drop (i + 1)) x' y' A') else (⟨#[]⟩, false)) :=
      fun x' y' A' hl => movS_j2 (by omega) fun ho' => movS_l0 s hs d (i + 1) x' y' A' (by omega) ho' hl
    rw [drop_bytes s i (by omega), movN]
    by_cases c1 : bt s i = 108
    · obtain ⟨K, e⟩ := go (x - 1) y A (by omega)
      rw [if_pos c1, movIf]
      refine ev_from K fun k hk => ?_
      have e := e k hk
      dsimp only at e
      simp only [spec_KeysOfMoves.l0]
      rw [if_pos (by omega), if_pos (by omega), if_pos c1, wr (by omega) (by omega), e]
    rw [if_neg c1]
    by_cases c2 : bt s i = 114
    · obtain ⟨K, e⟩ := go (x + 1) y A (by omega)
      rw [if_pos c2, movIf]
      refine ev_from K fun k hk => ?_
      have e := e k hk
      dsimp only at e
      simp only [spec_KeysOfMoves.l0]
      rw [if_pos (by omega), if_pos (by omega), if_neg c1, if_pos c2, wr (by omega) (by omega), e]
    rw [if_neg c2]
    by_cases c3 : bt s i = 117
    · obtain ⟨K, e⟩ := go x (y - 1) A (by omega)
      rw [if_pos c3, movIf]
      refine ev_from K fun k hk => ?_
      have e := e k hk
      dsimp only at e
      simp only [spec_KeysOfMoves.l0]
      rw [if_pos (by omega), if_pos (by omega), if_neg c1, if_neg c2, if_pos c3, wr (by omega) (by omega), e]
    rw [if_neg c3]
    by_cases c4 : bt s i = 100
    · obtain ⟨K, e⟩ := go x (y + 1) A (by omega)
      rw [if_pos c4, movIf]
      refine ev_from K fun k hk => ?_
      have e := e k hk
      dsimp only at e
      simp only [spec_KeysOfMoves.l0]
      rw [if_pos (by omega), if_pos (by omega), if_neg c1, if_neg c2, if_neg c3, if_pos c4, wr (by omega) (by omega), e]
    rw [if_neg c4]
    by_cases c5 : bt s i = 46
    · obtain ⟨K, e⟩ := go x y (A ++ [padC (3 * y + x)]) (by simp; omega)
      rw [if_pos c5, movIf]
      refine ev_from K fun k hk => ?_
      have e := e k hk
      dsimp only at e
      simp only [spec_KeysOfMoves.l0]
      rw [if_pos (by omega), if_pos (by omega), if_neg c1, if_neg c2, if_neg c3, if_neg c4, if_pos c5, wr (x := 3 * y) (by omega) (by omega), wr (x := 3 * y + x) (by omega) (by omega), wr (x := 3 * y + x + 1) (by omega) (by omega), if_pos (by omega), if_pos (by omega), if_pos (by omega), pad_cut (by omega), if_pos (by rw [size_nums, size_nums]; simp; omega), ← numsApp, e]
    · rw [if_neg c5]
      refine ev_from 0 fun k hk => ?_
      simp only [spec_KeysOfMoves.l0]
      rw [if_pos (by omega), if_pos (by omega), if_neg c1, if_neg c2, if_neg c3, if_neg c4, if_neg c5]
      rfl
theorem movI_l0 (s : ByteArray) (hs : s.size ≤ 200) : ∀ (d i : Nat) (x y : Int) (A : List Int), i + d = s.size → okXY x y = true → A.length ≤ i → Ev (fun k => impl_KeysOfMoves.l0 k s x y A s.size i) (movT (movN ((bytesOf s).drop i) x y A))
  | 0, i, x, y, A, hi, ho, hA => by
    obtain rfl : i = s.size := by omega
    rw [drop_end]
    refine ev_from 0 fun k _ => ?_
    simp only [impl_KeysOfMoves.l0, movN, movT]
    rw [if_neg (by omega)]
    by_cases h : A.length > 30
    · rw [if_pos h, if_pos (by omega)]
    · rw [if_neg h, if_neg (by omega)]
  | d + 1, i, x, y, A, hi, ho, hA => by
    have hxy := okXY_iff.1 ho
    have go : ∀ (x' y' : Int) (A' : List Int), A'.length ≤ i + 1 → Ev (fun k => impl_KeysOfMoves.j2 k s x' y' A' s.size i) (if okXY x' y' = true then movT (movN ((bytesOf s).drop (i + 1)) x' y' A') else (⟨#[]⟩, false)) :=
      fun x' y' A' hl => movI_j2 (by omega) fun ho' => movI_l0 s hs d (i + 1) x' y' A' (by omega) ho' hl
    rw [drop_bytes s i (by omega), movN]
    by_cases c1 : bt s i = 108
    · obtain ⟨K, e⟩ := go (x - 1) y A (by omega)
      rw [if_pos c1, movIf]
      refine ev_from K fun k hk => ?_
      have e := e k hk
      dsimp only at e
      simp only [impl_KeysOfMoves.l0]
      rw [if_pos (by omega), if_pos (by omega), if_pos (by omega), if_pos c1, wr (by omega) (by omega), e]
    rw [if_neg c1]
    by_cases c2 : bt s i = 114
    · obtain ⟨K, e⟩ := go (x + 1) y A (by omega)
      rw [if_pos c2, movIf]
      refine ev_from K fun k hk => ?_
      have e := e k hk
      dsimp only at e
      simp only [impl_KeysOfMoves.l0]
      rw [if_pos (by omega), if_pos (by omega), if_pos (by omega), if_neg c1, if_pos c2, wr (by omega) (by omega), e]
    rw [if_neg c2]
    by_cases c3 : bt s i = 117
    · obtain ⟨K, e⟩ := go x (y - 1) A (by omega)
      rw [if_pos c3, movIf]
      refine ev_from K fun k hk => ?_
      have e := e k hk
      dsimp only at e
      simp only [impl_KeysOfMoves.l0]
      rw [if_pos (by omega), if_pos (by omega), if_pos (by omega), if_neg c1, if_neg c2, if_pos c3, wr (by omega) (by omega), e]
    rw [if_neg c3]
    by_cases c4 : bt s i = 100
    · obtain ⟨K, e⟩ := go x (y + 1) A (by omega)
      rw [if_pos c4, movIf]
      refine ev_from K fun k hk => ?_
      have e := e k hk
      dsimp only at e
      simp only [impl_KeysOfMoves.l0]
      rw [if_pos (by omega), if_pos (by omega), if_pos (by omega), if_neg c1, if_neg c2, if_neg c3, if_pos c4, wr (by omega) (by omega), e]
    rw [if_neg c4]
    by_cases c5 : bt s i = 46
    · obtain ⟨K, e⟩ := go x y (A ++ [padC (3 * y + x)]) (by simp; omega)
      rw [if_pos c5, movIf]
      refine ev_from K fun k hk => ?_
      have e := e k hk
      dsimp only at e
      simp only [impl_KeysOfMoves.l0]
      rw [if_pos (by omega), if_pos (by omega), if_pos (by omega), if_neg c1, if_neg c2, if_neg c3, if_neg c4, if_pos c5, wr (x := y * 3) (by omega) (by omega), wr (x := y * 3 + x) (by omega) (by omega), if_pos (by omega), if_pos (by omega), if_pos (by omega), Int.mul_comm y 3, pad_bt (by omega), e]
    · rw [if_neg c5]
      refine ev_from 0 fun k hk => ?_
      simp only [impl_KeysOfMoves.l0]
      rw [if_pos (by omega), if_pos (by omega), if_pos (by omega), if_neg c1, if_neg c2, if_neg c3, if_neg c4, if_neg c5]
      rfl
theorem tmod3 {p : Int} (h : 0 ≤ p ∧ p ≤ 11) : Int.tmod p 3 = p % 3 ∧ wrap64 (Int.tdiv p 3) = p / 3 := by
  have key : ∀ n : Fin 12, Int.tmod (n.val : Int) 3 = (n.val : Int) % 3 ∧ wrap64 (Int.tdiv (n.val : Int) 3) = (n.val : Int) / 3 := by decide +kernel
  have := key ⟨p.toNat, by omega⟩
  rwa [show ((p.toNat : Nat) : Int) = p by omega] at this
def keysT (s t : ByteArray) : ByteArray × Bool := if (oneB s && !decide (t.size > 200)) = true then movT (movN (bytesOf t) (plN (bt s 0) % 3) (plN (bt s 0) / 3) []) else (⟨#[]⟩, false)
theorem keysS_ev (s t : ByteArray) : Ev (fun k => spec_KeysOfMoves.f k s t) (keysT s t) := by
  obtain ⟨K1, h1⟩ := thOne_ev s
  unfold keysT
  cases hs : oneB s with
  | false =>
    refine ev_from K1 fun k hk => ?_
    have e1 := h1 (k + 1) (by omega)
    rw [hs] at e1
    dsimp only at e1
    unfold spec_KeysOfMoves.f
    rw [e1, bsome]
    rfl
  | true =>
    by_cases h2 : t.size > 200
    · refine ev_from K1 fun k hk => ?_
      have e1 := h1 (k + 1) (by omega)
      rw [hs] at e1
      dsimp only at e1
      unfold spec_KeysOfMoves.f
      rw [e1, bsome, if_pos rfl, decide_eq_true h2, decide_eq_true (show (t.size : Int) > 200 by omega)]
      rfl
    · obtain ⟨s1, ps⟩ := oneB_iff.1 hs
      obtain ⟨K3, e3⟩ := thPlace_pad _ ps
      have hp := plN_range ps
      obtain ⟨K2, e2⟩ := movS_l0 t (by omega) t.size 0 (plN (bt s 0) % 3) (plN (bt s 0) / 3) [] (by omega) (okXY_iff.2 (by omega)) (by simp)
      refine ev_from (K1 + K2 + K3) fun k hk => ?_
      have e1 := h1 (k + 1) (by omega)
      have e2 := e2 k (by omega)
      have e3 := e3 k (by omega)
      rw [hs] at e1
      dsimp only at e1 e2 e3
      unfold spec_KeysOfMoves.f
      rw [e1, bsome, if_pos rfl, decide_eq_false h2, decide_eq_false (show ¬ (t.size : Int) > 200 by omega)]
      simp only [spec_KeysOfMoves.j0]
      rw [if_neg (by simp), if_pos (by omega), e3, bsome, (tmod3 hp).1, (tmod3 hp).2]
      exact e2
theorem keysI_ev (s t : ByteArray) (h1 : s.size ≤ 140737488351232) : Ev (fun k => impl_KeysOfMoves.f k s t) (keysT s t) := by
  unfold keysT
  cases hs : oneB s with
  | false =>
    refine ev_from 0 fun k hk => ?_
    unfold impl_KeysOfMoves.f
    rw [isKey_is s h1, bsome, hs]
    rfl
  | true =>
    by_cases h2 : t.size > 200
    · refine ev_from 0 fun k hk => ?_
      unfold impl_KeysOfMoves.f
      rw [isKey_is s h1, bsome, hs, if_pos rfl, decide_eq_true h2, decide_eq_true (show (t.size : Int) > 200 by omega)]
      rfl
    · obtain ⟨s1, ps⟩ := oneB_iff.1 hs
      have hp := plN_range ps
      obtain ⟨K2, e2⟩ := movI_l0 t (by omega) t.size 0 (plN (bt s 0) % 3) (plN (bt s 0) / 3) [] (by omega) (okXY_iff.2 (by omega)) (by simp)
      refine ev_from K2 fun k hk => ?_
      have e2 := e2 k (by omega)
      dsimp only at e2
      unfold impl_KeysOfMoves.f
      rw [isKey_is s h1, bsome, hs, if_pos rfl, decide_eq_false h2, decide_eq_false (show ¬ (t.size : Int) > 200 by omega)]
      simp only [impl_KeysOfMoves.j0]
      rw [if_neg (by simp), if_pos (by omega), place_is _ ps, bsome, bsome, (tmod3 hp).1, (tmod3 hp).2]
      exact e2
end Go.Proofs.YtmnfknbjndonbaaDoor.Pu
