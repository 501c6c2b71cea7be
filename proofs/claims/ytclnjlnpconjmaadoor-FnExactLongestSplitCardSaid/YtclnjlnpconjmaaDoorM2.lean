/- Parts of the proof (printed walks, lemmas of our own, contracts of the library laid for this program), merged into one text by wip/mclaim.py. Conditions: each theorem's own. -/
import Derived.Test.YtclnjlnpconjmaaDoorM0
import Derived.Test.YtclnjlnpconjmaaDoorM1
import Derived.Lib.SlTrimSet
section
namespace Go.Proofs.YtclnjlnpconjmaaDoor.P
open Go.RowKit Go.Proofs.YtclnjlnpconjmaaDoorW.PrintWords Go.Proofs.YtclnjlnpconjmaaDoorW.PrintLast Go.Proofs.YtclnjlnpconjmaaDoorW.PrintMore
attribute [local go_sem] max2_int min2_int max_two min_two max_three min_three max_four min_four   -- for this text's walks alone
set_option linter.unusedVariables false
set_option linter.unusedSimpArgs false
def impl_LongestSplit.l0 : Nat → List ByteArray → ByteArray → Int → Option (Int × Bool)
  | 0, _, _, _ => none
  | k + 1, x0, x1, x6 => if 0 ≤ x6 then (if x6 ≤ (x1.size : Int) then ((impl_splits.f k x0 (x1.extract 0 (x6 : Int).toNat)).bind fun bt376 => (if 0 < (bt376.2.length : Int) then (if (rd bt376.2 0) ≥ 0 then (some (x6, true)) else (impl_LongestSplit.l0 k x0 x1 (wrap64 (x6 - 1)))) else (none))) else (none)) else (none)
def impl_LongestSplit.f (k : Nat) (l0 : List ByteArray) (a1 : ByteArray) : Option (Int × Bool) := (impl_splitOk.f k l0 a1).bind fun t375 => (if t375 = true then (impl_LongestSplit.l0 k l0 a1 (a1.size : Int)) else (some (0, false)))
theorem impl_LongestSplit.mono_l : ∀ k, (∀ y0 y1 y2, LeO (impl_LongestSplit.l0 k y0 y1 y2) (impl_LongestSplit.l0 (k + 1) y0 y1 y2))
  | 0 => fun _ _ _ r h => by simp [impl_LongestSplit.l0] at h
  | k + 1 => by
    have ih0 := impl_LongestSplit.mono_l k
    · intro y0 y1 y2
      unfold impl_LongestSplit.l0
      repeat' first
      | (with_reducible exact ih0 _ _ _)
      | (with_reducible exact impl_splitOk.mono _ _ _)
      | (with_reducible exact impl_splits.mono _ _ _)
      | (with_reducible exact LeO.refl _)
      | (with_reducible exact LeO.none _)
      | (with_reducible refine LeO.ite ?_ ?_)
      | (with_reducible refine LeO.bind ?_ (fun _ => ?_))
      | exact ih0 _ _ _
      | exact impl_splitOk.mono _ _ _
      | exact impl_splits.mono _ _ _
      | exact LeO.none _
      | refine LeO.ite ?_ ?_
      | refine LeO.bind ?_ (fun _ => ?_)
theorem impl_LongestSplit.mono : ∀ a0 a1 k, LeO (impl_LongestSplit.f k a0 a1) (impl_LongestSplit.f (k + 1) a0 a1) := by
  intro a0 a1 k
  have ih0 := impl_LongestSplit.mono_l k
  unfold impl_LongestSplit.f
  repeat' first
      | (with_reducible exact ih0 _ _ _)
      | (with_reducible exact impl_splitOk.mono _ _ _)
      | (with_reducible exact impl_splits.mono _ _ _)
      | (with_reducible exact LeO.refl _)
      | (with_reducible exact LeO.none _)
      | (with_reducible refine LeO.ite ?_ ?_)
      | (with_reducible refine LeO.bind ?_ (fun _ => ?_))
      | exact ih0 _ _ _
      | exact impl_splitOk.mono _ _ _
      | exact impl_splits.mono _ _ _
      | exact LeO.none _
      | refine LeO.ite ?_ ?_
      | refine LeO.bind ?_ (fun _ => ?_)
set_option maxHeartbeats 8000000 in
set_option maxRecDepth 100000 in
theorem impl_LongestSplit.calls (k : Nat) (A0 : Option Addr) (c0 : Nat) (l0 : List ByteArray) (a1 : ByteArray) (r1 : Int) (r2 : Bool) (w : World) (hr0 : Kd.C Kd.string w A0 l0.length l0) (hc0 : l0.length ≤ c0) (h : impl_LongestSplit.f k l0 a1 = some (r1, r2)) :
    Calls Tryd.prog 24 #[.slice A0 l0.length c0, .string a1] w fun e w' => e = .returned (.tuple #[.int .i64 r1, .bool r2]) ∧ Below w.heap.size w w' := by
  have HR0 := Aside0.mk hr0
  have HC0 := Aside0.mk hc0
  clear hr0 hc0
  have HB := Aside0.mk (Below.refl w.heap.size w)
  have H : ((impl_splitOk.f k l0 a1).bind fun t375 => (if t375 = true then (impl_LongestSplit.l0 k l0 a1 (a1.size : Int)) else (some (0, false)))) = some (r1, r2) := h
  clear h
  replace H := Option.bind_eq_some_iff.mp H
  obtain ⟨t375, A30, H⟩ := H
  replace H : (if t375 = true then (impl_LongestSplit.l0 k l0 a1 (a1.size : Int)) else (some (0, false))) = some (r1, r2) := H
  have A3 := Aside0.mk A30
  clear A30
  by_cases c4 : t375 = true
  · subst c4
    have H1 : (impl_LongestSplit.l0 k l0 a1 (a1.size : Int)) = some (r1, r2) := by rw [if_pos rfl] at H; exact H
    clear H
    have H := H1
    clear H1
    have H' := Aside0.mk H
    clear H
    go_enter Tryd.func24, Tryd.ntmps24
    go_wp2_with (first | ((with_reducible refine gate_callee (f := 37) rfl ?_); refine goesL_ (some 11) rfl rfl Tryd.func37 (by kernel_rfl) rfl #[.slice A0 l0.length c0, .string a1] rfl (by (try simp only [List.map_toArray, List.map_cons, List.map_nil]); first | done | rfl | (simp only [List.length_drop, List.length_take]; rfl)) ?_; (with_reducible refine (impl_splitOk.calls k _ _ l0 a1 true _ ?side1 ?side2 A3.out).mono ?_); (case side1 => repeat (first | exact HR0.out | (with_reducible refine Kd.C_alloc ?_ _) | (with_reducible refine Kd.C_drewN ?_ _) | (with_reducible refine Kd.C_drew ?_))); (case side2 => exact HC0.out); rintro e w5 ⟨rfl, hb⟩; refine ⟨_, rfl, ?_⟩; have n0_ := Aside0.mk (below_step (by repeat (first | (with_reducible first | exact HB.out | apply below_alloc | apply pw_below_drewN | apply below_drew1) | exact HB.out)) hb); clear HB; have HB := n0_; clear n0_; (try clear hb); (try clear hb2); (try clear hk); (try clear hi)))
    go_loopg [6] k (fun kq v6 w' => ∃ (x6_1 : Int), v6 = .int .i64 x6_1 ∧ Aside0 (impl_LongestSplit.l0 kq l0 a1 x6_1 = some (r1, r2)) ∧ Aside0 (kq ≤ k) ∧ Aside0 (Below w.heap.size w w'))
    case atStart => exact ⟨((a1.size : Int)), (by first | rfl | (simp; done) | (simp [*]; done)), H', ⟨Nat.le_refl _⟩, ⟨by repeat (first | (with_reducible first | exact HB.out | apply below_alloc | apply pw_below_drewN | apply below_drew1) | exact HB.out)⟩⟩
    case round =>
      clear H'
      try clear c2
      try clear p2
      try clear c3
      try clear c4
      obtain ⟨x6_1, rfl, HA, HK1, HB⟩ := hrel
      cases gk with
      | zero => exact absurd HA.out (by simp [impl_LongestSplit.l0])
      | succ k1 =>
        have H := HA.out
        clear HA
        simp only [impl_LongestSplit.l0] at H
        by_cases c6 : 0 ≤ x6_1
        · rw [if_pos c6] at H
          have c6b0 := eq_true c6
          have c6b1 : decide (0 ≤ x6_1) = true := decide_eq_true c6
          clear c6
          by_cases c7 : x6_1 ≤ (a1.size : Int)
          · rw [if_pos c7] at H
            have c7b0 := eq_true c7
            have c7b1 : decide (x6_1 ≤ (a1.size : Int)) = true := decide_eq_true c7
            clear c7
            replace H := Option.bind_eq_some_iff.mp H
            obtain ⟨⟨t376, t377⟩, A80, H⟩ := H
            replace H : (if 0 < (t377.length : Int) then (if (rd t377 0) ≥ 0 then (some (x6_1, true)) else (impl_LongestSplit.l0 k1 l0 a1 (wrap64 (x6_1 - 1)))) else (none)) = some (r1, r2) := H
            have A8 := Aside0.mk A80
            clear A80
            by_cases c9 : 0 < (t377.length : Int)
            · rw [if_pos c9] at H
              have c9b0 : decide (0 < (t377.length : Int)) = true := decide_eq_true c9
              have c9b1 : decide (0 < t377.length) = true := decide_eq_true (by omega)
              clear c9
              by_cases c10 : (rd t377 0) ≥ 0
              · rw [if_pos c10] at H
                have c10b0 : decide (0 ≤ (rd t377 0)) = true := decide_eq_true c10
                clear c10
                simp only [Option.some.injEq, Prod.mk.injEq] at H
                obtain ⟨rfl, rfl⟩ := H
                go_wp2_with (first | ((with_reducible refine gate_callee (f := 38) rfl ?_); refine goesL_ (some 20) rfl rfl Tryd.func38 (by kernel_rfl) rfl #[.slice A0 l0.length c0, .string (a1.extract 0 (x6_1 : Int).toNat)] rfl (by (try simp only [List.map_toArray, List.map_cons, List.map_nil]); first | done | rfl | (simp only [List.length_drop, List.length_take]; rfl)) ?_; (with_reducible refine (impl_splits.calls k1 _ _ l0 (a1.extract 0 (x6_1 : Int).toNat) t376 t377 _ ?side1 ?side2 A8.out).mono ?_); (case side1 => repeat (first | exact (Kd.C_below HR0.out HB.out) | (with_reducible refine Kd.C_alloc ?_ _) | (with_reducible refine Kd.C_drewN ?_ _) | (with_reducible refine Kd.C_drew ?_))); (case side2 => exact HC0.out); rintro e w11 ⟨v378, v380, rfl, ho0, ho1, hb⟩; refine ⟨_, rfl, ?_⟩; have n0_ := Aside0.mk (Kd.R_lower ho0 (below_size (by repeat (first | (with_reducible first | exact HB.out | apply below_alloc | apply pw_below_drewN | apply below_drew1) | exact HB.out)))); have n1_ := Aside0.mk (Kd.R_lower ho1 (below_size (by repeat (first | (with_reducible first | exact HB.out | apply below_alloc | apply pw_below_drewN | apply below_drew1) | exact HB.out)))); have n2_ := Aside0.mk (below_step (by repeat (first | (with_reducible first | exact HB.out | apply below_alloc | apply pw_below_drewN | apply below_drew1) | exact HB.out)) hb); clear HB; have HO379 := n0_; have HO381 := n1_; have HB := n2_; clear n0_ n1_ n2_; (try clear hb); (try clear hb2); (try clear hk); (try clear hi); (try clear ho0); (try clear ho1); obtain ⟨Ao12, co12, eo12⟩ := Kd.R_slice HO381.out; subst eo12; have p382 : 0 ≤ (0 : Int) := (by omega); have q382 : 0 < (t377.length : Int) := of_decide_eq_true (by first | (with_reducible assumption) | assumption); obtain ⟨ad382, e382, hx382_0⟩ := Kd.at_int (Kd.R_reads' HO381.out).2.2 0 p382 q382; cases e382; have qi382 : (0 < t377.length) = True := eq_true (by omega); (try rw [show ((0 : Int)).toNat = 0 from rfl] at hx382_0); (try rw [Addr.add_zero'] at hx382_0); replace p382 := eq_true p382; replace q382 := eq_true q382))
                go_ret2
                exact ⟨by first | rfl | (simp [errW_none, errW_some] <;> rfl) | (simp [*, errW_none, errW_some] <;> rfl), by repeat (first | (with_reducible first | exact HB.out | apply below_alloc | apply pw_below_drewN | apply below_drew1) | exact HB.out)⟩
              · rw [if_neg c10] at H
                have c10b0 : decide (0 ≤ (rd t377 0)) = false := decide_eq_false c10
                clear c10
                have H' := Aside0.mk H
                clear H
                go_wp2_with (first | ((with_reducible refine gate_callee (f := 38) rfl ?_); refine goesL_ (some 20) rfl rfl Tryd.func38 (by kernel_rfl) rfl #[.slice A0 l0.length c0, .string (a1.extract 0 (x6_1 : Int).toNat)] rfl (by (try simp only [List.map_toArray, List.map_cons, List.map_nil]); first | done | rfl | (simp only [List.length_drop, List.length_take]; rfl)) ?_; (with_reducible refine (impl_splits.calls k1 _ _ l0 (a1.extract 0 (x6_1 : Int).toNat) t376 t377 _ ?side1 ?side2 A8.out).mono ?_); (case side1 => repeat (first | exact (Kd.C_below HR0.out HB.out) | (with_reducible refine Kd.C_alloc ?_ _) | (with_reducible refine Kd.C_drewN ?_ _) | (with_reducible refine Kd.C_drew ?_))); (case side2 => exact HC0.out); rintro e w13 ⟨v378, v380, rfl, ho0, ho1, hb⟩; refine ⟨_, rfl, ?_⟩; have n0_ := Aside0.mk (Kd.R_lower ho0 (below_size (by repeat (first | (with_reducible first | exact HB.out | apply below_alloc | apply pw_below_drewN | apply below_drew1) | exact HB.out)))); have n1_ := Aside0.mk (Kd.R_lower ho1 (below_size (by repeat (first | (with_reducible first | exact HB.out | apply below_alloc | apply pw_below_drewN | apply below_drew1) | exact HB.out)))); have n2_ := Aside0.mk (below_step (by repeat (first | (with_reducible first | exact HB.out | apply below_alloc | apply pw_below_drewN | apply below_drew1) | exact HB.out)) hb); clear HB; have HO379 := n0_; have HO381 := n1_; have HB := n2_; clear n0_ n1_ n2_; (try clear hb); (try clear hb2); (try clear hk); (try clear hi); (try clear ho0); (try clear ho1); obtain ⟨Ao14, co14, eo14⟩ := Kd.R_slice HO381.out; subst eo14; have p382 : 0 ≤ (0 : Int) := (by omega); have q382 : 0 < (t377.length : Int) := of_decide_eq_true (by first | (with_reducible assumption) | assumption); obtain ⟨ad382, e382, hx382_0⟩ := Kd.at_int (Kd.R_reads' HO381.out).2.2 0 p382 q382; cases e382; have qi382 : (0 < t377.length) = True := eq_true (by omega); (try rw [show ((0 : Int)).toNat = 0 from rfl] at hx382_0); (try rw [Addr.add_zero'] at hx382_0); replace p382 := eq_true p382; replace q382 := eq_true q382))
                go_roundg k1
                case measure => have := HK1.out; omega
                case rel => exact ⟨(wrap64 (x6_1 - 1)), (by first | rfl | (simp; done) | (simp [*]; done)), H', ⟨by have := HK1.out; omega⟩, ⟨by repeat (first | (with_reducible first | exact HB.out | apply below_alloc | apply pw_below_drewN | apply below_drew1) | exact HB.out)⟩⟩
            · rw [if_neg c9] at H
              exact absurd H (by simp)
          · rw [if_neg c7] at H
            exact absurd H (by simp)
        · rw [if_neg c6] at H
          exact absurd H (by simp)
  · replace c4 := Bool.eq_false_iff.mpr c4
    subst c4
    have H1 : (some (0, false)) = some (r1, r2) := by rw [if_neg (show ¬ (false = true) by decide)] at H; exact H
    clear H
    have H := H1
    clear H1
    simp only [Option.some.injEq, Prod.mk.injEq] at H
    obtain ⟨rfl, rfl⟩ := H
    go_enter Tryd.func24, Tryd.ntmps24
    go_wp2_with (first | ((with_reducible refine gate_callee (f := 37) rfl ?_); refine goesL_ (some 11) rfl rfl Tryd.func37 (by kernel_rfl) rfl #[.slice A0 l0.length c0, .string a1] rfl (by (try simp only [List.map_toArray, List.map_cons, List.map_nil]); first | done | rfl | (simp only [List.length_drop, List.length_take]; rfl)) ?_; (with_reducible refine (impl_splitOk.calls k _ _ l0 a1 false _ ?side1 ?side2 A3.out).mono ?_); (case side1 => repeat (first | exact HR0.out | (with_reducible refine Kd.C_alloc ?_ _) | (with_reducible refine Kd.C_drewN ?_ _) | (with_reducible refine Kd.C_drew ?_))); (case side2 => exact HC0.out); rintro e w15 ⟨rfl, hb⟩; refine ⟨_, rfl, ?_⟩; have n0_ := Aside0.mk (below_step (by repeat (first | (with_reducible first | exact HB.out | apply below_alloc | apply pw_below_drewN | apply below_drew1) | exact HB.out)) hb); clear HB; have HB := n0_; clear n0_; (try clear hb); (try clear hb2); (try clear hk); (try clear hi)))
    go_ret2
    exact ⟨by first | rfl | (simp [errW_none, errW_some] <;> rfl) | (simp [*, errW_none, errW_some] <;> rfl), by repeat (first | (with_reducible first | exact HB.out | apply below_alloc | apply pw_below_drewN | apply below_drew1) | exact HB.out)⟩
end Go.Proofs.YtclnjlnpconjmaaDoor.P
end

section
namespace Go.Proofs.YtclnjlnpconjmaaDoor.P
open Go.RowKit Go.Proofs.YtclnjlnpconjmaaDoorW.PrintWords Go.Proofs.YtclnjlnpconjmaaDoorW.PrintLast Go.Proofs.YtclnjlnpconjmaaDoorW.PrintMore
attribute [local go_sem] max2_int min2_int max_two min_two max_three min_three max_four min_four   -- for this text's walks alone
set_option linter.unusedVariables false
set_option linter.unusedSimpArgs false
def laws_FnExactLongestSplit.j0 : Nat → List ByteArray → List ByteArray → Bool → Option (Bool)
  | 0, _, _, _ => none
  | k + 1, x0, x8, x41 => if x41 = true then (some false) else ((laws_toStringS.f k x0).bind fun t394 => ((laws_eqStringS.f k x8 t394).bind fun t397 => (if t397 = true then (some true) else (some false))))
def laws_FnExactLongestSplit.f (k : Nat) (l0 : List ByteArray) (a1 : ByteArray) : Option (Bool) := if (a1.size : Int) > 1048576 then (some true) else ((laws_szStringS.f k l0 1048576).bind fun t383 => (if t383 < 0 then (some true) else ((laws_toStringS.f k l0).bind fun t384 => ((spec_LongestSplit.f k t384 a1).bind fun bt387 => ((laws_toStringS.f k l0).bind fun t389 => ((impl_LongestSplit.f k t389 a1).bind fun bt392 => (if bt392.1 = bt387.1 then (laws_FnExactLongestSplit.j0 k l0 t389 (bt392.2 != bt387.2)) else (laws_FnExactLongestSplit.j0 k l0 t389 true))))))))
theorem laws_FnExactLongestSplit.mono_l : ∀ k, (∀ y0 y1 y2, LeO (laws_FnExactLongestSplit.j0 k y0 y1 y2) (laws_FnExactLongestSplit.j0 (k + 1) y0 y1 y2))
  | 0 => fun _ _ _ r h => by simp [laws_FnExactLongestSplit.j0] at h
  | k + 1 => by
    have ih0 := laws_FnExactLongestSplit.mono_l k
    · intro y0 y1 y2
      unfold laws_FnExactLongestSplit.j0
      repeat' first
      | (with_reducible exact ih0 _ _ _)
      | (with_reducible exact impl_LongestSplit.mono _ _ _)
      | (with_reducible exact laws_eqStringS.mono _ _ _)
      | (with_reducible exact laws_szStringS.mono _ _ _)
      | (with_reducible exact laws_toStringS.mono _ _)
      | (with_reducible exact spec_LongestSplit.mono _ _ _)
      | (with_reducible exact LeO.refl _)
      | (with_reducible exact LeO.none _)
      | (with_reducible refine LeO.ite ?_ ?_)
      | (with_reducible refine LeO.bind ?_ (fun _ => ?_))
      | exact ih0 _ _ _
      | exact impl_LongestSplit.mono _ _ _
      | exact laws_eqStringS.mono _ _ _
      | exact laws_szStringS.mono _ _ _
      | exact laws_toStringS.mono _ _
      | exact spec_LongestSplit.mono _ _ _
      | exact LeO.none _
      | refine LeO.ite ?_ ?_
      | refine LeO.bind ?_ (fun _ => ?_)
theorem laws_FnExactLongestSplit.mono : ∀ a0 a1 k, LeO (laws_FnExactLongestSplit.f k a0 a1) (laws_FnExactLongestSplit.f (k + 1) a0 a1) := by
  intro a0 a1 k
  have ih0 := laws_FnExactLongestSplit.mono_l k
  unfold laws_FnExactLongestSplit.f
  repeat' first
      | (with_reducible exact ih0 _ _ _)
      | (with_reducible exact impl_LongestSplit.mono _ _ _)
      | (with_reducible exact laws_eqStringS.mono _ _ _)
      | (with_reducible exact laws_szStringS.mono _ _ _)
      | (with_reducible exact laws_toStringS.mono _ _)
      | (with_reducible exact spec_LongestSplit.mono _ _ _)
      | (with_reducible exact LeO.refl _)
      | (with_reducible exact LeO.none _)
      | (with_reducible refine LeO.ite ?_ ?_)
      | (with_reducible refine LeO.bind ?_ (fun _ => ?_))
      | exact ih0 _ _ _
      | exact impl_LongestSplit.mono _ _ _
      | exact laws_eqStringS.mono _ _ _
      | exact laws_szStringS.mono _ _ _
      | exact laws_toStringS.mono _ _
      | exact spec_LongestSplit.mono _ _ _
      | exact LeO.none _
      | refine LeO.ite ?_ ?_
      | refine LeO.bind ?_ (fun _ => ?_)
set_option maxHeartbeats 8000000 in
set_option maxRecDepth 100000 in
theorem laws_FnExactLongestSplit.calls (k : Nat) (A0 : Option Addr) (c0 : Nat) (l0 : List ByteArray) (a1 : ByteArray) (r : Bool) (w : World) (hr0 : Kd.C Kd.string w A0 l0.length l0) (hc0 : l0.length ≤ c0) (h : laws_FnExactLongestSplit.f k l0 a1 = some r) :
    Calls Tryd.prog 7 #[.slice A0 l0.length c0, .string a1] w fun e w' => e = .returned (.bool r) ∧ Below w.heap.size w w' := by
  have HR0 := Aside0.mk hr0
  have HC0 := Aside0.mk hc0
  clear hr0 hc0
  have HB := Aside0.mk (Below.refl w.heap.size w)
  have H : (if (a1.size : Int) > 1048576 then (some true) else ((laws_szStringS.f k l0 1048576).bind fun t383 => (if t383 < 0 then (some true) else ((laws_toStringS.f k l0).bind fun t384 => ((spec_LongestSplit.f k t384 a1).bind fun bt387 => ((laws_toStringS.f k l0).bind fun t389 => ((impl_LongestSplit.f k t389 a1).bind fun bt392 => (if bt392.1 = bt387.1 then (laws_FnExactLongestSplit.j0 k l0 t389 (bt392.2 != bt387.2)) else (laws_FnExactLongestSplit.j0 k l0 t389 true))))))))) = some r := h
  clear h
  by_cases c3 : (a1.size : Int) > 1048576
  · rw [if_pos c3] at H
    have c3b0 : decide (1048576 < (a1.size : Int)) = true := decide_eq_true c3
    have c3b1 : decide (1048576 < a1.size) = true := decide_eq_true (by omega)
    clear c3
    obtain rfl := Option.some.inj H
    go_enter Tryd.func7, Tryd.ntmps7
    go_wp2
    go_ret
    exact ⟨by first | rfl | (simp [errW_none, errW_some] <;> rfl) | (simp [*, errW_none, errW_some] <;> rfl), by repeat (first | (with_reducible first | exact HB.out | apply below_alloc | apply pw_below_drewN | apply below_drew1) | exact HB.out)⟩
  · rw [if_neg c3] at H
    have c3b0 : decide (1048576 < (a1.size : Int)) = false := decide_eq_false c3
    have c3b1 : decide (1048576 < a1.size) = false := decide_eq_false (by omega)
    clear c3
    replace H := Option.bind_eq_some_iff.mp H
    obtain ⟨t383, A40, H⟩ := H
    replace H : (if t383 < 0 then (some true) else ((laws_toStringS.f k l0).bind fun t384 => ((spec_LongestSplit.f k t384 a1).bind fun bt387 => ((laws_toStringS.f k l0).bind fun t389 => ((impl_LongestSplit.f k t389 a1).bind fun bt392 => (if bt392.1 = bt387.1 then (laws_FnExactLongestSplit.j0 k l0 t389 (bt392.2 != bt387.2)) else (laws_FnExactLongestSplit.j0 k l0 t389 true))))))) = some r := H
    have A4 := Aside0.mk A40
    clear A40
    by_cases c5 : t383 < 0
    · rw [if_pos c5] at H
      have c5b0 : decide (t383 < 0) = true := decide_eq_true c5
      clear c5
      obtain rfl := Option.some.inj H
      go_enter Tryd.func7, Tryd.ntmps7
      go_wp2_with (first | ((with_reducible refine gate_callee (f := 10) rfl ?_); refine goesL_ (some 16) rfl rfl Tryd.func10 (by kernel_rfl) rfl #[.slice A0 l0.length c0, .int .i64 1048576] rfl (by (try simp only [List.map_toArray, List.map_cons, List.map_nil]); first | done | rfl | (simp only [List.length_drop, List.length_take]; rfl)) ?_; (with_reducible refine (laws_szStringS.calls k _ _ l0 1048576 t383 _ ?side1 ?side2 A4.out).mono ?_); (case side1 => repeat (first | exact HR0.out | (with_reducible refine Kd.C_alloc ?_ _) | (with_reducible refine Kd.C_drewN ?_ _) | (with_reducible refine Kd.C_drew ?_))); (case side2 => exact HC0.out); rintro e w' ⟨rfl, ⟨nd, rfl⟩⟩; refine ⟨_, rfl, ?_⟩))
      go_ret
      exact ⟨by first | rfl | (simp [errW_none, errW_some] <;> rfl) | (simp [*, errW_none, errW_some] <;> rfl), by repeat (first | (with_reducible first | exact HB.out | apply below_alloc | apply pw_below_drewN | apply below_drew1) | exact HB.out)⟩
    · rw [if_neg c5] at H
      have c5b0 : decide (t383 < 0) = false := decide_eq_false c5
      clear c5
      replace H := Option.bind_eq_some_iff.mp H
      obtain ⟨t384, A60, H⟩ := H
      replace H : ((spec_LongestSplit.f k t384 a1).bind fun bt387 => ((laws_toStringS.f k l0).bind fun t389 => ((impl_LongestSplit.f k t389 a1).bind fun bt392 => (if bt392.1 = bt387.1 then (laws_FnExactLongestSplit.j0 k l0 t389 (bt392.2 != bt387.2)) else (laws_FnExactLongestSplit.j0 k l0 t389 true))))) = some r := H
      have A6 := Aside0.mk A60
      clear A60
      replace H := Option.bind_eq_some_iff.mp H
      obtain ⟨⟨t387, t388⟩, A70, H⟩ := H
      replace H : ((laws_toStringS.f k l0).bind fun t389 => ((impl_LongestSplit.f k t389 a1).bind fun bt392 => (if bt392.1 = t387 then (laws_FnExactLongestSplit.j0 k l0 t389 (bt392.2 != t388)) else (laws_FnExactLongestSplit.j0 k l0 t389 true)))) = some r := H
      have A7 := Aside0.mk A70
      clear A70
      replace H := Option.bind_eq_some_iff.mp H
      obtain ⟨t389, A80, H⟩ := H
      replace H : ((impl_LongestSplit.f k t389 a1).bind fun bt392 => (if bt392.1 = t387 then (laws_FnExactLongestSplit.j0 k l0 t389 (bt392.2 != t388)) else (laws_FnExactLongestSplit.j0 k l0 t389 true))) = some r := H
      have A8 := Aside0.mk A80
      clear A80
      replace H := Option.bind_eq_some_iff.mp H
      obtain ⟨⟨t392, t393⟩, A90, H⟩ := H
      replace H : (if t392 = t387 then (laws_FnExactLongestSplit.j0 k l0 t389 (t393 != t388)) else (laws_FnExactLongestSplit.j0 k l0 t389 true)) = some r := H
      have A9 := Aside0.mk A90
      clear A90
      have HC10 := Aside0.mk H
      clear H
      go_enter Tryd.func7, Tryd.ntmps7
      go_upto_region 10 with (first | ((with_reducible refine gate_callee (f := 10) rfl ?_); refine goesL_ (some 16) rfl rfl Tryd.func10 (by kernel_rfl) rfl #[.slice A0 l0.length c0, .int .i64 1048576] rfl (by (try simp only [List.map_toArray, List.map_cons, List.map_nil]); first | done | rfl | (simp only [List.length_drop, List.length_take]; rfl)) ?_; (with_reducible refine (laws_szStringS.calls k _ _ l0 1048576 t383 _ ?side1 ?side2 A4.out).mono ?_); (case side1 => repeat (first | exact HR0.out | (with_reducible refine Kd.C_alloc ?_ _) | (with_reducible refine Kd.C_drewN ?_ _) | (with_reducible refine Kd.C_drew ?_))); (case side2 => exact HC0.out); rintro e w' ⟨rfl, ⟨nd, rfl⟩⟩; refine ⟨_, rfl, ?_⟩) | ((with_reducible refine gate_callee (f := 12) rfl ?_); refine goesL_ (some 21) rfl rfl Tryd.func12 (by kernel_rfl) rfl #[.slice A0 l0.length c0] rfl (by (try simp only [List.map_toArray, List.map_cons, List.map_nil]); first | done | rfl | (simp only [List.length_drop, List.length_take]; rfl)) ?_; (with_reducible refine (laws_toStringS.calls k _ _ l0 t384 _ ?side1 ?side2 A6.out).mono ?_); (case side1 => repeat (first | exact HR0.out | (with_reducible refine Kd.C_alloc ?_ _) | (with_reducible refine Kd.C_drewN ?_ _) | (with_reducible refine Kd.C_drew ?_))); (case side2 => exact HC0.out); rintro e w11 ⟨v385, rfl, ho0, hb⟩; refine ⟨_, rfl, ?_⟩; have n0_ := Aside0.mk (Kd.R_lower ho0 (below_size (by repeat (first | (with_reducible first | exact HB.out | apply below_alloc | apply pw_below_drewN | apply below_drew1) | exact HB.out)))); have n1_ := Aside0.mk (below_step (by repeat (first | (with_reducible first | exact HB.out | apply below_alloc | apply pw_below_drewN | apply below_drew1) | exact HB.out)) hb); clear HB; have HO386 := n0_; have HB := n1_; clear n0_ n1_; (try clear hb); (try clear hb2); (try clear hk); (try clear hi); (try clear ho0); obtain ⟨Ao12, co12, eo12⟩ := Kd.R_slice HO386.out; subst eo12) | ((with_reducible refine gate_callee (f := 23) rfl ?_); refine goesL_ (some 23) rfl rfl Tryd.func23 (by kernel_rfl) rfl #[.slice Ao12 t384.length co12, .string a1] rfl (by (try simp only [List.map_toArray, List.map_cons, List.map_nil]); first | done | rfl | (simp only [List.length_drop, List.length_take]; rfl)) ?_; (with_reducible refine (spec_LongestSplit.calls k _ _ t384 a1 t387 t388 _ ?side1 ?side2 A7.out).mono ?_); (case side1 => repeat (first | exact (Kd.R_reads' HO386.out).2.2 | (with_reducible refine Kd.C_alloc ?_ _) | (with_reducible refine Kd.C_drewN ?_ _) | (with_reducible refine Kd.C_drew ?_))); (case side2 => exact (Kd.R_reads' HO386.out).2.1); rintro e w13 ⟨rfl, hb⟩; refine ⟨_, rfl, ?_⟩; have n0_ := Aside0.mk (Kd.R_below (by (with_reducible repeat (first | apply Kd.R_alloc | apply Kd.R_drewN | apply Kd.R_drew)); exact HO386.out) hb); have n1_ := Aside0.mk (below_step (by repeat (first | (with_reducible first | exact HB.out | apply below_alloc | apply pw_below_drewN | apply below_drew1) | exact HB.out)) hb); clear HO386; clear HB; have HO386 := n0_; have HB := n1_; clear n0_ n1_; (try clear hb); (try clear hb2); (try clear hk); (try clear hi)) | ((with_reducible refine gate_callee (f := 12) rfl ?_); refine goesL_ (some 27) rfl rfl Tryd.func12 (by kernel_rfl) rfl #[.slice A0 l0.length c0] rfl (by (try simp only [List.map_toArray, List.map_cons, List.map_nil]); first | done | rfl | (simp only [List.length_drop, List.length_take]; rfl)) ?_; (with_reducible refine (laws_toStringS.calls k _ _ l0 t389 _ ?side1 ?side2 A8.out).mono ?_); (case side1 => repeat (first | exact (Kd.C_below HR0.out HB.out) | (with_reducible refine Kd.C_alloc ?_ _) | (with_reducible refine Kd.C_drewN ?_ _) | (with_reducible refine Kd.C_drew ?_))); (case side2 => exact HC0.out); rintro e w14 ⟨v390, rfl, ho0, hb⟩; refine ⟨_, rfl, ?_⟩; have n0_ := Aside0.mk (Kd.R_elder' (by (with_reducible repeat (first | apply Kd.R_alloc | apply Kd.R_drewN | apply Kd.R_drew)); exact HO386.out) (Kd.R_base ho0) hb); have n1_ := Aside0.mk (Kd.R_lower (Kd.R_new' ho0 (Kd.R_lt (by (with_reducible repeat (first | apply Kd.R_alloc | apply Kd.R_drewN | apply Kd.R_drew)); exact HO386.out))) (below_size (by repeat (first | (with_reducible first | exact HB.out | apply below_alloc | apply pw_below_drewN | apply below_drew1) | exact HB.out)))); have n2_ := Aside0.mk (below_step (by repeat (first | (with_reducible first | exact HB.out | apply below_alloc | apply pw_below_drewN | apply below_drew1) | exact HB.out)) hb); clear HO386; clear HB; have HO386 := n0_; have HO391 := n1_; have HB := n2_; clear n0_ n1_ n2_; (try clear hb); (try clear hb2); (try clear hk); (try clear hi); (try clear ho0); obtain ⟨Ao15, co15, eo15⟩ := Kd.R_slice HO391.out; subst eo15) | ((with_reducible refine gate_callee (f := 24) rfl ?_); refine goesL_ (some 31) rfl rfl Tryd.func24 (by kernel_rfl) rfl #[.slice Ao15 t389.length co15, .string a1] rfl (by (try simp only [List.map_toArray, List.map_cons, List.map_nil]); first | done | rfl | (simp only [List.length_drop, List.length_take]; rfl)) ?_; (with_reducible refine (impl_LongestSplit.calls k _ _ t389 a1 t392 t393 _ ?side1 ?side2 A9.out).mono ?_); (case side1 => repeat (first | exact (Kd.R_reads' HO391.out).2.2 | (with_reducible refine Kd.C_alloc ?_ _) | (with_reducible refine Kd.C_drewN ?_ _) | (with_reducible refine Kd.C_drew ?_))); (case side2 => exact (Kd.R_reads' HO391.out).2.1); rintro e w16 ⟨rfl, hb⟩; refine ⟨_, rfl, ?_⟩; have n0_ := Aside0.mk (Kd.R_below (by (with_reducible repeat (first | apply Kd.R_alloc | apply Kd.R_drewN | apply Kd.R_drew)); exact HO386.out) hb); have n1_ := Aside0.mk (Kd.R_below (by (with_reducible repeat (first | apply Kd.R_alloc | apply Kd.R_drewN | apply Kd.R_drew)); exact HO391.out) hb); have n2_ := Aside0.mk (below_step (by repeat (first | (with_reducible first | exact HB.out | apply below_alloc | apply pw_below_drewN | apply below_drew1) | exact HB.out)) hb); clear HO386; clear HO391; clear HB; have HO386 := n0_; have HO391 := n1_; have HB := n2_; clear n0_ n1_ n2_; (try clear hb); (try clear hb2); (try clear hk); (try clear hi)))
      (try simp only [Act.put, List.setIfInBounds_toArray, List.set_cons_zero, List.set_cons_succ])
      go_cut [41] (fun v41 wc => ∃ (kq : Nat) (x41_9 : Bool), v41 = .bool x41_9 ∧ Aside0 (laws_FnExactLongestSplit.j0 kq l0 t389 x41_9 = some r) ∧ Aside0 (kq ≤ k) ∧ Aside0 (Kd.R Kd.string 9 wc w.heap.size (fun _ => True) (.slice Ao15 t389.length co15) t389) ∧ Aside0 (Below w.heap.size w wc))
      case first =>
        have H := HC10.out
        clear HC10
        by_cases c17 : t392 = t387
        · rw [if_pos c17] at H
          have c17b0 : (t392 == t387) = true := beq_iff_eq.mpr c17
          have c17b1 : (t392 != t387) = false := bne_eq_false_iff_eq.mpr c17
          clear c17
          (first | rw [c17b0] | (simp only [i64_w, i32_w]; rw [c17b0]) | skip)
          have H' := Aside0.mk H
          clear H
          go_wp2
          go_meet
          case rel => exact ⟨_, ((t393 != t388)), (by first | rfl | (simp; done) | (simp [*]; done)), H', ⟨by first | omega | exact Nat.le_refl _⟩, ⟨by (with_reducible repeat (first | apply Kd.R_alloc | apply Kd.R_drewN | apply Kd.R_drew)); exact Kd.R_mono HO391.out (fun _ hk => trivial)⟩, ⟨by repeat (first | (with_reducible first | exact HB.out | apply below_alloc | apply pw_below_drewN | apply below_drew1) | exact HB.out)⟩⟩
        · rw [if_neg c17] at H
          have c17b0 : (t392 == t387) = false := beq_eq_false_iff_ne.mpr c17
          have c17b1 : (t392 != t387) = true := bne_iff_ne.mpr c17
          (first | rw [c17b0] | (simp only [i64_w, i32_w]; rw [c17b0]) | skip)
          have H' := Aside0.mk H
          clear H
          go_wp2
          go_meet
          case rel => exact ⟨_, (true), (by first | rfl | (simp; done) | (simp [*]; done)), H', ⟨by first | omega | exact Nat.le_refl _⟩, ⟨by (with_reducible repeat (first | apply Kd.R_alloc | apply Kd.R_drewN | apply Kd.R_drew)); exact Kd.R_mono HO391.out (fun _ hk => trivial)⟩, ⟨by repeat (first | (with_reducible first | exact HB.out | apply below_alloc | apply pw_below_drewN | apply below_drew1) | exact HB.out)⟩⟩
      case rest =>
        clear HC10
        try clear c1
        try clear c2
        try clear p2
        try clear c3
        try clear c3b0
        try clear c3b1
        try clear c5
        try clear c5b0
        try clear c7
        try clear c10
        try clear c12
        try clear c17
        try clear c17b0
        try clear c17b1
        obtain ⟨kq, x41_9, rfl, HA, HJ9, HO_8, HB⟩ := hcut
        cases kq with
        | zero => exact absurd HA.out (by simp [laws_FnExactLongestSplit.j0])
        | succ kj9 =>
          have H := HA.out
          clear HA
          simp only [laws_FnExactLongestSplit.j0] at H
          by_cases c18 : x41_9 = true
          · subst c18
            have H1 : (some false) = some r := by rw [if_pos rfl] at H; exact H
            clear H
            have H := H1
            clear H1
            obtain rfl := Option.some.inj H
            go_wp2
            go_ret
            exact ⟨by first | rfl | (simp [errW_none, errW_some] <;> rfl) | (simp [*, errW_none, errW_some] <;> rfl), by repeat (first | (with_reducible first | exact HB.out | apply below_alloc | apply pw_below_drewN | apply below_drew1) | exact HB.out)⟩
          · replace c18 := Bool.eq_false_iff.mpr c18
            subst c18
            have H1 : ((laws_toStringS.f kj9 l0).bind fun t394 => ((laws_eqStringS.f kj9 t389 t394).bind fun t397 => (if t397 = true then (some true) else (some false)))) = some r := by rw [if_neg (show ¬ (false = true) by decide)] at H; exact H
            clear H
            have H := H1
            clear H1
            replace H := Option.bind_eq_some_iff.mp H
            obtain ⟨t394, A190, H⟩ := H
            replace H : ((laws_eqStringS.f kj9 t389 t394).bind fun t397 => (if t397 = true then (some true) else (some false))) = some r := H
            have A19 := Aside0.mk A190
            clear A190
            replace H := Option.bind_eq_some_iff.mp H
            obtain ⟨t397, A200, H⟩ := H
            replace H : (if t397 = true then (some true) else (some false)) = some r := H
            have A20 := Aside0.mk A200
            clear A200
            by_cases c21 : t397 = true
            · subst c21
              have H1 : (some true) = some r := by rw [if_pos rfl] at H; exact H
              clear H
              have H := H1
              clear H1
              obtain rfl := Option.some.inj H
              go_wp2_with (first | ((with_reducible refine gate_callee (f := 12) rfl ?_); refine goesL_ (some 44) rfl rfl Tryd.func12 (by kernel_rfl) rfl #[.slice A0 l0.length c0] rfl (by (try simp only [List.map_toArray, List.map_cons, List.map_nil]); first | done | rfl | (simp only [List.length_drop, List.length_take]; rfl)) ?_; (with_reducible refine (laws_toStringS.calls kj9 _ _ l0 t394 _ ?side1 ?side2 A19.out).mono ?_); (case side1 => repeat (first | exact (Kd.C_below HR0.out HB.out) | (with_reducible refine Kd.C_alloc ?_ _) | (with_reducible refine Kd.C_drewN ?_ _) | (with_reducible refine Kd.C_drew ?_))); (case side2 => exact HC0.out); rintro e w22 ⟨v395, rfl, ho0, hb⟩; refine ⟨_, rfl, ?_⟩; have n0_ := Aside0.mk (Kd.R_elder' (by (with_reducible repeat (first | apply Kd.R_alloc | apply Kd.R_drewN | apply Kd.R_drew)); exact HO_8.out) (Kd.R_base ho0) hb); have n1_ := Aside0.mk (Kd.R_lower (Kd.R_new' ho0 (Kd.R_lt (by (with_reducible repeat (first | apply Kd.R_alloc | apply Kd.R_drewN | apply Kd.R_drew)); exact HO_8.out))) (below_size (by repeat (first | (with_reducible first | exact HB.out | apply below_alloc | apply pw_below_drewN | apply below_drew1) | exact HB.out)))); have n2_ := Aside0.mk (below_step (by repeat (first | (with_reducible first | exact HB.out | apply below_alloc | apply pw_below_drewN | apply below_drew1) | exact HB.out)) hb); clear HO_8; clear HB; have HO_8 := n0_; have HO396 := n1_; have HB := n2_; clear n0_ n1_ n2_; (try clear hb); (try clear hb2); (try clear hk); (try clear hi); (try clear ho0); obtain ⟨Ao23, co23, eo23⟩ := Kd.R_slice HO396.out; subst eo23) | ((with_reducible refine gate_callee (f := 14) rfl ?_); refine goesL_ (some 45) rfl rfl Tryd.func14 (by kernel_rfl) rfl #[.slice Ao15 t389.length co15, .slice Ao23 t394.length co23] rfl (by (try simp only [List.map_toArray, List.map_cons, List.map_nil]); first | done | rfl | (simp only [List.length_drop, List.length_take]; rfl)) ?_; (with_reducible refine (laws_eqStringS.calls kj9 _ _ t389 _ _ t394 true _ ?side1 ?side2 ?side3 ?side4 A20.out).mono ?_); (case side1 => repeat (first | exact (Kd.R_reads' HO_8.out).2.2 | (with_reducible refine Kd.C_alloc ?_ _) | (with_reducible refine Kd.C_drewN ?_ _) | (with_reducible refine Kd.C_drew ?_))); (case side2 => exact (Kd.R_reads' HO_8.out).2.1); (case side3 => repeat (first | exact (Kd.R_reads' HO396.out).2.2 | (with_reducible refine Kd.C_alloc ?_ _) | (with_reducible refine Kd.C_drewN ?_ _) | (with_reducible refine Kd.C_drew ?_))); (case side4 => exact (Kd.R_reads' HO396.out).2.1); rintro e w' ⟨rfl, ⟨nd, rfl⟩⟩; refine ⟨_, rfl, ?_⟩))
              go_ret
              exact ⟨by first | rfl | (simp [errW_none, errW_some] <;> rfl) | (simp [*, errW_none, errW_some] <;> rfl), by repeat (first | (with_reducible first | exact HB.out | apply below_alloc | apply pw_below_drewN | apply below_drew1) | exact HB.out)⟩
            · replace c21 := Bool.eq_false_iff.mpr c21
              subst c21
              have H1 : (some false) = some r := by rw [if_neg (show ¬ (false = true) by decide)] at H; exact H
              clear H
              have H := H1
              clear H1
              obtain rfl := Option.some.inj H
              go_wp2_with (first | ((with_reducible refine gate_callee (f := 12) rfl ?_); refine goesL_ (some 44) rfl rfl Tryd.func12 (by kernel_rfl) rfl #[.slice A0 l0.length c0] rfl (by (try simp only [List.map_toArray, List.map_cons, List.map_nil]); first | done | rfl | (simp only [List.length_drop, List.length_take]; rfl)) ?_; (with_reducible refine (laws_toStringS.calls kj9 _ _ l0 t394 _ ?side1 ?side2 A19.out).mono ?_); (case side1 => repeat (first | exact (Kd.C_below HR0.out HB.out) | (with_reducible refine Kd.C_alloc ?_ _) | (with_reducible refine Kd.C_drewN ?_ _) | (with_reducible refine Kd.C_drew ?_))); (case side2 => exact HC0.out); rintro e w24 ⟨v395, rfl, ho0, hb⟩; refine ⟨_, rfl, ?_⟩; have n0_ := Aside0.mk (Kd.R_elder' (by (with_reducible repeat (first | apply Kd.R_alloc | apply Kd.R_drewN | apply Kd.R_drew)); exact HO_8.out) (Kd.R_base ho0) hb); have n1_ := Aside0.mk (Kd.R_lower (Kd.R_new' ho0 (Kd.R_lt (by (with_reducible repeat (first | apply Kd.R_alloc | apply Kd.R_drewN | apply Kd.R_drew)); exact HO_8.out))) (below_size (by repeat (first | (with_reducible first | exact HB.out | apply below_alloc | apply pw_below_drewN | apply below_drew1) | exact HB.out)))); have n2_ := Aside0.mk (below_step (by repeat (first | (with_reducible first | exact HB.out | apply below_alloc | apply pw_below_drewN | apply below_drew1) | exact HB.out)) hb); clear HO_8; clear HB; have HO_8 := n0_; have HO396 := n1_; have HB := n2_; clear n0_ n1_ n2_; (try clear hb); (try clear hb2); (try clear hk); (try clear hi); (try clear ho0); obtain ⟨Ao25, co25, eo25⟩ := Kd.R_slice HO396.out; subst eo25) | ((with_reducible refine gate_callee (f := 14) rfl ?_); refine goesL_ (some 45) rfl rfl Tryd.func14 (by kernel_rfl) rfl #[.slice Ao15 t389.length co15, .slice Ao25 t394.length co25] rfl (by (try simp only [List.map_toArray, List.map_cons, List.map_nil]); first | done | rfl | (simp only [List.length_drop, List.length_take]; rfl)) ?_; (with_reducible refine (laws_eqStringS.calls kj9 _ _ t389 _ _ t394 false _ ?side1 ?side2 ?side3 ?side4 A20.out).mono ?_); (case side1 => repeat (first | exact (Kd.R_reads' HO_8.out).2.2 | (with_reducible refine Kd.C_alloc ?_ _) | (with_reducible refine Kd.C_drewN ?_ _) | (with_reducible refine Kd.C_drew ?_))); (case side2 => exact (Kd.R_reads' HO_8.out).2.1); (case side3 => repeat (first | exact (Kd.R_reads' HO396.out).2.2 | (with_reducible refine Kd.C_alloc ?_ _) | (with_reducible refine Kd.C_drewN ?_ _) | (with_reducible refine Kd.C_drew ?_))); (case side4 => exact (Kd.R_reads' HO396.out).2.1); rintro e w' ⟨rfl, ⟨nd, rfl⟩⟩; refine ⟨_, rfl, ?_⟩))
              go_ret
              exact ⟨by first | rfl | (simp [errW_none, errW_some] <;> rfl) | (simp [*, errW_none, errW_some] <;> rfl), by repeat (first | (with_reducible first | exact HB.out | apply below_alloc | apply pw_below_drewN | apply below_drew1) | exact HB.out)⟩
def laws_FnExactLongestSplit.Pure : Prop := ∀ (l0 : List ByteArray) (a1 : ByteArray), l0.length ≤ maxLen → l0.length * 16 ≤ 140737488351232 → (∀ x ∈ l0, x.size ≤ maxLen) → a1.size ≤ 140737488351232 → ∃ k, laws_FnExactLongestSplit.f k l0 a1 = some true
theorem laws_FnExactLongestSplit.walk (P : laws_FnExactLongestSplit.Pure) (a0 : Option Addr) (len0 cap0 : Nat) (z0 : List ByteArray) (a1 : ByteArray) (w : World) (w0 : (a0 = none ∧ len0 = 0 ∧ cap0 = 0 ∧ z0 = []) ∨ ∃ x, a0 = some x ∧ len0 ≤ cap0 ∧ cap0 ≤ maxLen ∧ z0.length = cap0 ∧ (∀ i, i < z0.length → w.cell? (x.add i) = some (.string (z0.getD i ByteArray.empty))) ∧ ∀ n ∈ z0, n.size ≤ maxLen) (y0 : len0 * 16 ≤ 140737488351232) (w1 : a1.size ≤ 140737488351232) :
    Calls Tryd.prog 7 #[.slice a0 len0 cap0, .string a1] w fun e w' => e = .returned (.bool true) ∧ Below w.heap.size w w' := by
  obtain ⟨l0, rfl, hr0, hm0, hw0, hc0⟩ := Go.Proofs.YtclnjlnpconjmaaDoor.Strs.strs_ofRowC w0
  obtain ⟨k, h⟩ := P l0 a1 hm0 y0 hw0 w1
  refine (laws_FnExactLongestSplit.calls k _ _ l0 a1 true w hr0 hc0 h).mono ?_
  rintro e w' ⟨rfl, hd⟩
  exact ⟨rfl, hd⟩
end Go.Proofs.YtclnjlnpconjmaaDoor.P
end

section
namespace Go.Proofs.YtclnjlnpconjmaaDoor.P
open Go.RowKit Go.Proofs.YtclnjlnpconjmaaDoorW.PrintWords Go.Proofs.YtclnjlnpconjmaaDoorW.PrintLast Go.Proofs.YtclnjlnpconjmaaDoorW.PrintMore
attribute [local go_sem] max2_int min2_int max_two min_two max_three min_three max_four min_four   -- for this text's walks alone
set_option linter.unusedVariables false
set_option linter.unusedSimpArgs false
end Go.Proofs.YtclnjlnpconjmaaDoor.P
end

section
namespace Go.Proofs.YtclnjlnpconjmaaDoor.P
open Go.RowKit Go.Proofs.YtclnjlnpconjmaaDoorW.PrintWords Go.Proofs.YtclnjlnpconjmaaDoorW.PrintLast Go.Proofs.YtclnjlnpconjmaaDoorW.PrintMore
attribute [local go_sem] max2_int min2_int max_two min_two max_three min_three max_four min_four   -- for this text's walks alone
set_option linter.unusedVariables false
set_option linter.unusedSimpArgs false
end Go.Proofs.YtclnjlnpconjmaaDoor.P
end

section
namespace Go.Proofs.YtclnjlnpconjmaaDoor.P
open Go.RowKit Go.Proofs.YtclnjlnpconjmaaDoorW.PrintWords Go.Proofs.YtclnjlnpconjmaaDoorW.PrintLast Go.Proofs.YtclnjlnpconjmaaDoorW.PrintMore
attribute [local go_sem] max2_int min2_int max_two min_two max_three min_three max_four min_four   -- for this text's walks alone
set_option linter.unusedVariables false
set_option linter.unusedSimpArgs false
end Go.Proofs.YtclnjlnpconjmaaDoor.P
end

section
namespace Go.Proofs.YtclnjlnpconjmaaDoor.P
open Go.RowKit Go.Proofs.YtclnjlnpconjmaaDoorW.PrintWords Go.Proofs.YtclnjlnpconjmaaDoorW.PrintLast Go.Proofs.YtclnjlnpconjmaaDoorW.PrintMore
attribute [local go_sem] max2_int min2_int max_two min_two max_three min_three max_four min_four   -- for this text's walks alone
set_option linter.unusedVariables false
set_option linter.unusedSimpArgs false
end Go.Proofs.YtclnjlnpconjmaaDoor.P
end

section
namespace Go.Proofs.YtclnjlnpconjmaaDoor.P
open Go.RowKit Go.Proofs.YtclnjlnpconjmaaDoorW.PrintWords Go.Proofs.YtclnjlnpconjmaaDoorW.PrintLast Go.Proofs.YtclnjlnpconjmaaDoorW.PrintMore
attribute [local go_sem] max2_int min2_int max_two min_two max_three min_three max_four min_four   -- for this text's walks alone
set_option linter.unusedVariables false
set_option linter.unusedSimpArgs false
end Go.Proofs.YtclnjlnpconjmaaDoor.P
end

section
namespace Go.Proofs.YtclnjlnpconjmaaDoor.P
open Go.RowKit Go.Proofs.YtclnjlnpconjmaaDoorW.PrintWords Go.Proofs.YtclnjlnpconjmaaDoorW.PrintLast Go.Proofs.YtclnjlnpconjmaaDoorW.PrintMore
attribute [local go_sem] max2_int min2_int max_two min_two max_three min_three max_four min_four   -- for this text's walks alone
set_option linter.unusedVariables false
set_option linter.unusedSimpArgs false
end Go.Proofs.YtclnjlnpconjmaaDoor.P
end

section
namespace Go.Proofs.YtclnjlnpconjmaaDoor.P
open Go.RowKit Go.Proofs.YtclnjlnpconjmaaDoorW.PrintWords Go.Proofs.YtclnjlnpconjmaaDoorW.PrintLast Go.Proofs.YtclnjlnpconjmaaDoorW.PrintMore
attribute [local go_sem] max2_int min2_int max_two min_two max_three min_three max_four min_four   -- for this text's walks alone
set_option linter.unusedVariables false
set_option linter.unusedSimpArgs false
end Go.Proofs.YtclnjlnpconjmaaDoor.P
end

section
namespace Go.Proofs.YtclnjlnpconjmaaDoor.P
open Go.RowKit Go.Proofs.YtclnjlnpconjmaaDoorW.PrintWords Go.Proofs.YtclnjlnpconjmaaDoorW.PrintLast Go.Proofs.YtclnjlnpconjmaaDoorW.PrintMore
attribute [local go_sem] max2_int min2_int max_two min_two max_three min_three max_four min_four   -- for this text's walks alone
set_option linter.unusedVariables false
set_option linter.unusedSimpArgs false
end Go.Proofs.YtclnjlnpconjmaaDoor.P
end

section
namespace Go.Proofs.YtclnjlnpconjmaaDoor.Pu
open Go.RowKit Go.Proofs.YtclnjlnpconjmaaDoorW.PrintWords Go.Proofs.YtclnjlnpconjmaaDoorW.PrintLast Go.Proofs.YtclnjlnpconjmaaDoorW.PrintMore
theorem ev_from {α : Type} {g : Nat → Option α} {r : α} (K : Nat) (h : ∀ k, K ≤ k → g (k + 1) = some r) : Ev g r := by
  refine ⟨K + 1, fun n hn => ?_⟩
  obtain ⟨m, rfl⟩ : ∃ m, n = m + 1 := ⟨n - 1, by omega⟩
  exact h m (by omega)
theorem bsome {α β : Type} (a : α) (f : α → Option β) : (some a).bind f = f a := Option.bind_some a f
theorem wr {x : Int} (h0 : -9223372036854775808 ≤ x) (h1 : x ≤ 9223372036854775807) : wrap64 x = x := by unfold wrap64; omega
theorem wr32 {x : Int} (h0 : -2147483648 ≤ x) (h1 : x ≤ 2147483647) : wrap32 x = x := by unfold wrap32; omega
theorem bytes_ext {s t : ByteArray} (h : bytesOf s = bytesOf t) : s = t := by
  have h1 : s.data.toList = t.data.toList := by
    unfold bytesOf at h
    refine List.ext_getElem (by simpa using congrArg List.length h) fun i h1 h2 => ?_
    have := congrArg (fun l => l[i]?) h
    simp only [List.getElem?_map, List.getElem?_eq_getElem h1, List.getElem?_eq_getElem h2, Option.map_some, Option.some.injEq] at this
    exact UInt8.toNat_inj.1 (by omega)
  cases s; cases t
  simp only [ByteArray.mk.injEq]
  exact Array.toList_inj.1 h1
theorem bt_bytes (s : ByteArray) (i : Int) : bt s i = (bytesOf s).getD i.toNat 0 := by rw [← rd_bytesOf]; rfl
theorem bytes_nums {L : List Int} (h : ∀ c ∈ L, 0 ≤ c ∧ c ≤ 255) : bytesOf (strOfNums L) = L := by
  unfold bytesOf strOfNums
  simp only [List.map_map]
  conv => rhs; rw [← List.map_id L]
  refine List.map_congr_left fun c hc => ?_
  have := h c hc
  show ((UInt8.ofNat c.toNat).toNat : Int) = c
  rw [UInt8.toNat_ofNat']
  omega
theorem size_nums (L : List Int) : (strOfNums L).size = L.length := by
  unfold strOfNums
  simp [ByteArray.size]
theorem numsApp (L M : List Int) : strOfNums (L ++ M) = strOfNums L ++ strOfNums M := by
  unfold strOfNums
  simp only [List.map_append]
  cases h : (ByteArray.mk (L.map fun x => x.toNat.toUInt8).toArray ++ ByteArray.mk (M.map fun x => x.toNat.toUInt8).toArray) with
  | mk d =>
    have := congrArg ByteArray.data h
    rw [ByteArray.data_append] at this
    simp only at this
    rw [← this]
    congr 1
    simp
theorem toList_bytes {s t : ByteArray} : s.toList = t.toList ↔ s = t := by
  rw [Lib.toList_data, Lib.toList_data]
  refine ⟨fun h => bytes_ext (by unfold bytesOf; rw [h]), fun h => by rw [h]⟩
theorem encode_small {c : Int} (h0 : 0 ≤ c) (h1 : c < 128) : Utf8.encode c = strOfNums [c] := by
  unfold Utf8.encode strOfNums
  have hv : Utf8.valid c = true := by unfold Utf8.valid; simp; omega
  have hc : c.toNat < 128 := by omega
  simp only [hv, if_true, hc]
  simp
theorem bytes_all {p : UInt8 → Bool} {q : Int → Bool} (h : ∀ b : UInt8, p b = q b.toNat) (s : ByteArray) : s.data.toList.all p = (bytesOf s).all q := by
  unfold bytesOf
  rw [List.all_map]
  congr 1
  funext b
  exact h b
theorem drop_bytes (s : ByteArray) (i : Nat) (h : i < s.size) : (bytesOf s).drop i = bt s i :: (bytesOf s).drop (i + 1) := by
  have hl : i < (bytesOf s).length := by rw [bytesOf_length]; exact h
  rw [List.drop_eq_getElem_cons hl, bt_bytes, Int.toNat_natCast, List.getD_eq_getElem?_getD, List.getElem?_eq_getElem hl]
  rfl
theorem drop_end (s : ByteArray) : (bytesOf s).drop s.size = [] := List.drop_eq_nil_of_le (by rw [bytesOf_length]; exact Nat.le_refl _)
theorem bt_mem (s : ByteArray) (i : Nat) (h : i < s.size) : bt s i ∈ bytesOf s := by
  have hd := drop_bytes s i h
  have : bt s i ∈ (bytesOf s).drop i := by rw [hd]; exact List.mem_cons_self
  exact List.mem_of_mem_drop this
theorem dropWhile_nil_all {α : Type} (p : α → Bool) (l : List α) : l.dropWhile p = [] ↔ l.all p = true := by
  induction l with
  | nil => simp
  | cons a l ih =>
    rw [List.dropWhile_cons, List.all_cons]
    cases h : p a <;> simp [ih]
theorem trimS_nil (l cs : List UInt8) : Lib.trimS l cs = [] ↔ l.all (fun b => cs.contains b) = true := by
  unfold Lib.trimS Lib.trimLeftS Lib.trimRightS
  rw [dropWhile_nil_all]
  constructor
  · intro h
    have hr : ∀ (m : List UInt8), ((m.dropWhile (cs.contains ·)).reverse).all (fun b => cs.contains b) = true → m.all (fun b => cs.contains b) = true := by
      intro m
      induction m with
      | nil => simp
      | cons a m ih =>
        rw [List.dropWhile_cons]
        cases ha : cs.contains a with
        | true => intro h; rw [if_pos rfl] at h; simp only [List.all_cons, ha, Bool.true_and]; exact ih h
        | false => intro h; simp at h; simpa using And.intro h.2 h.1
    have := hr l.reverse h
    simpa using this
  · intro h
    have : l.reverse.dropWhile (cs.contains ·) = [] := (dropWhile_nil_all _ _).2 (by simpa using h)
    rw [this]
    rfl
end Go.Proofs.YtclnjlnpconjmaaDoor.Pu
end

section
namespace Go.Proofs.YtclnjlnpconjmaaDoor.Pu
open Go.RowKit Go.Proofs.YtclnjlnpconjmaaDoor.P Go.Proofs.YtclnjlnpconjmaaDoorW.PrintWords Go.Proofs.YtclnjlnpconjmaaDoorW.PrintLast Go.Proofs.YtclnjlnpconjmaaDoorW.PrintMore
theorem in_is (a b c : Int) : impl_in.f a b c = some (decide (b ≤ a) && decide (a ≤ c)) := by
  unfold impl_in.f
  by_cases h : b ≤ a <;> simp [h]
theorem l1In_is (a b c : Int) : spec_l1In.f a b c = some (decide (b ≤ a) && decide (a ≤ c)) := by
  unfold spec_l1In.f
  by_cases h : b ≤ a <;> simp [h]
end Go.Proofs.YtclnjlnpconjmaaDoor.Pu
end

section
namespace Go.Proofs.YtclnjlnpconjmaaDoor.Pu
open Go.RowKit Go.Proofs.YtclnjlnpconjmaaDoor.P Go.Proofs.YtclnjlnpconjmaaDoorW.PrintWords Go.Proofs.YtclnjlnpconjmaaDoorW.PrintLast Go.Proofs.YtclnjlnpconjmaaDoorW.PrintMore
def isLow (c : Int) : Bool := decide (97 ≤ c) && decide (c ≤ 122)
def isDig (c : Int) : Bool := decide (50 ≤ c) && decide (c ≤ 57)
def lenB (s : ByteArray) (lo hi : Nat) : Bool := decide (lo ≤ s.size) && decide (s.size ≤ hi)
def wordB (s : ByteArray) : Bool := lenB s 1 40 && (bytesOf s).all isLow
def keysB (s : ByteArray) : Bool := lenB s 1 40 && (bytesOf s).all isDig
theorem wordB_iff {s : ByteArray} : wordB s = true ↔ (1 ≤ s.size ∧ s.size ≤ 40) ∧ ∀ c ∈ bytesOf s, 97 ≤ c ∧ c ≤ 122 := by
  unfold wordB lenB isLow
  simp [List.all_eq_true]
theorem keysB_iff {s : ByteArray} : keysB s = true ↔ (1 ≤ s.size ∧ s.size ≤ 40) ∧ ∀ c ∈ bytesOf s, 50 ≤ c ∧ c ≤ 57 := by
  unfold keysB lenB isDig
  simp [List.all_eq_true]
theorem lenB_int (s : ByteArray) (lo hi : Nat) : (decide ((lo : Int) ≤ (s.size : Int)) && decide ((s.size : Int) ≤ (hi : Int))) = lenB s lo hi := by
  unfold lenB
  rw [decide_eq_decide.2 (Int.ofNat_le (m := lo) (n := s.size)), decide_eq_decide.2 (Int.ofNat_le (m := s.size) (n := hi))]
theorem over_is (s cs : ByteArray) (hs : s.size ≤ 9223372036854775807) (hc : cs.size < 4294967281) (ha : cs.data.toList.all (fun b => decide (b.toNat < 128)) = true) (q : Int → Bool)
    (hq : ∀ b : UInt8, cs.data.toList.contains b = q b.toNat) : impl_over.f s cs = some ((bytesOf s).all q) := by
  unfold impl_over.f strings_Trim.f
  rw [if_pos hs, if_pos hc, if_pos ha]
  simp only [bsome, Option.some.injEq]
  rw [← bytes_all hq, Bool.eq_iff_iff, beq_iff_eq, Lib.toList_data, ← trimS_nil]
theorem low_contains (b : UInt8) : (⟨#[97, 98, 99, 100, 101, 102, 103, 104, 105, 106, 107, 108, 109, 110, 111, 112, 113, 114, 115, 116, 117, 118, 119, 120, 121, 122]⟩ : ByteArray).data.toList.contains b = isLow b.toNat := by
  have key : ∀ n : Fin 256, (⟨#[97, 98, 99, 100, 101, 102, 103, 104, 105, 106, 107, 108, 109, 110, 111, 112, 113, 114, 115, 116, 117, 118, 119, 120, 121, 122]⟩ : ByteArray).data.toList.contains (UInt8.ofNat n.val) = isLow (UInt8.ofNat n.val).toNat := by decide +kernel
  have := key ⟨b.toNat, b.toNat_lt⟩
  simpa using this
theorem dig_contains (b : UInt8) : (⟨#[50, 51, 52, 53, 54, 55, 56, 57]⟩ : ByteArray).data.toList.contains b = isDig b.toNat := by
  have key : ∀ n : Fin 256, (⟨#[50, 51, 52, 53, 54, 55, 56, 57]⟩ : ByteArray).data.toList.contains (UInt8.ofNat n.val) = isDig (UInt8.ofNat n.val).toNat := by decide +kernel
  have := key ⟨b.toNat, b.toNat_lt⟩
  simpa using this
theorem low_over (s : ByteArray) (hs : s.size ≤ 9223372036854775807) : impl_over.f s (⟨#[97, 98, 99, 100, 101, 102, 103, 104, 105, 106, 107, 108, 109, 110, 111, 112, 113, 114, 115, 116, 117, 118, 119, 120, 121, 122]⟩ : ByteArray) = some ((bytesOf s).all isLow) :=
  over_is s _ hs (by decide) (by decide) isLow low_contains
theorem isWord_is (s : ByteArray) (hs : s.size ≤ 140737488351232) : impl_IsWord.f s = some (wordB s) := by
  unfold impl_IsWord.f wordB
  rw [in_is, show (1 : Int) = ((1 : Nat) : Int) from rfl, show (40 : Int) = ((40 : Nat) : Int) from rfl, lenB_int, low_over s (by omega)]
  simp only [bsome]
  cases lenB s 1 40 <;> simp
theorem prWord_l0 (s : ByteArray) (hs : s.size ≤ 140737488351232) : ∀ (d i : Nat), i + d = s.size → Ev (fun k => spec_prWord.l0 k s i) (((bytesOf s).drop i).all isLow)
  | 0, i, h => by
    obtain rfl : i = s.size := by omega
    rw [drop_end]
    refine ev_from 0 fun k _ => ?_
    simp only [spec_prWord.l0]
    rw [if_neg (by omega)]
    rfl
  | d + 1, i, h => by
    obtain ⟨K, ih⟩ := prWord_l0 s hs d (i + 1) (by omega)
    rw [drop_bytes s i (by omega), List.all_cons]
    refine ev_from K fun k hk => ?_
    have e := ih k hk
    rw [show ((i + 1 : Nat) : Int) = (i : Int) + 1 from rfl] at e
    dsimp only at e
    simp only [spec_prWord.l0]
    rw [if_pos (by omega), if_pos (by omega), wr (by omega) (by omega), e]
    unfold isLow
    by_cases h1 : bt s i < 97
    · rw [if_pos h1, decide_eq_false (by omega)]; rfl
    · rw [if_neg h1, decide_eq_true (show 97 ≤ bt s i by omega)]
      by_cases h2 : bt s i > 122
      · rw [if_pos h2, decide_eq_false (by omega)]; rfl
      · rw [if_neg h2, decide_eq_true (by omega)]; rfl
theorem prWord_ev (s : ByteArray) (hs : s.size ≤ 140737488351232) : Ev (fun k => spec_prWord.f k s) (wordB s) := by
  obtain ⟨K, h⟩ := prWord_l0 s hs s.size 0 (by omega)
  refine ⟨K, fun k hk => ?_⟩
  have e := h k hk
  unfold spec_prWord.f wordB
  rw [l1In_is, show (1 : Int) = ((1 : Nat) : Int) from rfl, show (40 : Int) = ((40 : Nat) : Int) from rfl, lenB_int]
  simp only [bsome]
  cases lenB s 1 40
  · rfl
  · rw [if_pos rfl]; exact e
end Go.Proofs.YtclnjlnpconjmaaDoor.Pu
end

section
namespace Go.Proofs.YtclnjlnpconjmaaDoor.Pu
open Go.RowKit Go.Proofs.YtclnjlnpconjmaaDoor.P Go.Proofs.YtclnjlnpconjmaaDoorW.PrintWords Go.Proofs.YtclnjlnpconjmaaDoorW.PrintLast Go.Proofs.YtclnjlnpconjmaaDoorW.PrintMore
theorem rds_drop (L : List ByteArray) (i : Nat) (h : i < L.length) : L.drop i = rdOf ByteArray.empty L i :: L.drop (i + 1) := by
  rw [List.drop_eq_getElem_cons h, rdOf, Int.toNat_natCast, List.getD_eq_getElem?_getD, List.getElem?_eq_getElem h]
  rfl
theorem rds_mem (L : List ByteArray) (i : Nat) (h : i < L.length) : rdOf ByteArray.empty L i ∈ L := by
  have : rdOf ByteArray.empty L i ∈ L.drop i := by rw [rds_drop L i h]; exact List.mem_cons_self
  exact List.mem_of_mem_drop this
theorem rds_mid (P : List ByteArray) (v : ByteArray) (R : List ByteArray) : rdOf ByteArray.empty (P ++ v :: R) (P.length : Int) = v := by
  unfold rdOf
  rw [Int.toNat_natCast]
  simp
theorem sets_mid (P : List ByteArray) (r v : ByteArray) (R : List ByteArray) : (P ++ r :: R).set P.length v = (P ++ [v]) ++ R := by
  simp
theorem szS_l0 (L : List ByteArray) (hl : L.length ≤ 17592186044416) (hL : ∀ x ∈ L, x.size ≤ 9223372036854775807) : ∀ (d i : Nat) (n : Int), i + d = L.length → 0 ≤ n → n ≤ 1048576 → ∃ r, Ev (fun k => laws_szStringS.l0 k L n i) r ∧ (r < 0 ∨ ∀ x ∈ L.drop i, (x.size : Int) ≤ n)
  | 0, i, n, hi, h0, h1 => by
    obtain rfl : i = L.length := by omega
    refine ⟨n, ev_from 0 fun k _ => ?_, Or.inr (by simp)⟩
    simp only [laws_szStringS.l0]
    rw [if_neg (by omega)]
  | d + 1, i, n, hi, h0, h1 => by
    have hm := hL _ (rds_mem L i (by omega))
    by_cases hn : n - ((rdOf ByteArray.empty L i).size : Int) < 0
    · refine ⟨-1, ev_from 0 fun k _ => ?_, Or.inl (by omega)⟩
      simp only [laws_szStringS.l0]
      rw [if_pos (by omega), if_pos (by omega), wr (x := n - ((rdOf ByteArray.empty L i).size : Int)) (by omega) (by omega), if_pos hn]
    · obtain ⟨r, ⟨K, ih⟩, hr⟩ := szS_l0 L hl hL d (i + 1) (n - ((rdOf ByteArray.empty L i).size : Int)) (by omega) (by omega) (by omega)
      refine ⟨r, ev_from K fun k hk => ?_, ?_⟩
      · have e := ih k hk
        rw [show ((i + 1 : Nat) : Int) = (i : Int) + 1 from rfl] at e
        dsimp only at e
        simp only [laws_szStringS.l0]
        rw [if_pos (by omega), if_pos (by omega), wr (x := n - ((rdOf ByteArray.empty L i).size : Int)) (by omega) (by omega), if_neg hn, wr (by omega) (by omega), e]
      · rcases hr with h | h
        · exact Or.inl h
        · refine Or.inr fun x hx => ?_
          rw [rds_drop L i (by omega)] at hx
          rcases List.mem_cons.1 hx with rfl | hx
          · omega
          · have := h x hx; omega
theorem szS_ev (L : List ByteArray) (hl : L.length ≤ 17592186044416) (hL : ∀ x ∈ L, x.size ≤ 9223372036854775807) : ∃ r, Ev (fun k => laws_szStringS.f k L 1048576) r ∧ (r < 0 ∨ L.length ≤ 1048576 ∧ ∀ x ∈ L, x.size ≤ 1048576) := by
  by_cases hn : (1048576 : Int) - (L.length : Int) < 0
  · refine ⟨-1, ⟨0, fun k _ => ?_⟩, Or.inl (by omega)⟩
    dsimp only
    unfold laws_szStringS.f
    rw [wr (by omega) (by omega), if_pos hn]
  · obtain ⟨r, ⟨K, e⟩, hr⟩ := szS_l0 L hl hL L.length 0 ((1048576 : Int) - (L.length : Int)) (by omega) (by omega) (by omega)
    refine ⟨r, ⟨K, fun k hk => ?_⟩, ?_⟩
    · have e := e k hk
      dsimp only at e ⊢
      unfold laws_szStringS.f
      rw [wr (by omega) (by omega), if_neg hn]
      exact e
    · rcases hr with h | h
      · exact Or.inl h
      · refine Or.inr ⟨by omega, fun x hx => ?_⟩
        have := h x (by simpa using hx)
        omega
theorem toS_l0 (L : List ByteArray) (hl : L.length ≤ 1099511627776) : ∀ (d : Nat) (P S : List ByteArray), S.length = d → L = P ++ S → Ev (fun k => laws_toStringS.l0 k L (P ++ List.replicate d (⟨#[]⟩ : ByteArray)) (P.length : Int)) L
  | 0, P, S, hd, hL => by
    obtain rfl := List.eq_nil_of_length_eq_zero hd
    refine ev_from 0 fun k _ => ?_
    simp only [laws_toStringS.l0]
    rw [if_neg (by rw [hL]; simp)]
    rw [hL]
    simp
  | d + 1, P, S, hd, hL => by
    match S, hd, hL with
    | s :: S, hd, hL =>
      have hd : S.length = d := by simpa using hd
      have hlen : L.length = P.length + (d + 1) := by rw [hL, List.length_append, List.length_cons, hd]
      have hr : rdOf ByteArray.empty L (P.length : Int) = s := by rw [hL]; exact rds_mid P s S
      obtain ⟨K, ih⟩ := toS_l0 L hl d (P ++ [s]) S hd (by rw [hL]; simp)
      refine ev_from K fun k hk => ?_
      have e := ih k hk
      rw [List.length_append, List.length_singleton, show ((P.length + 1 : Nat) : Int) = (P.length : Int) + 1 from rfl] at e
      dsimp only at e
      simp only [laws_toStringS.l0]
      rw [if_pos (by omega), if_pos (by omega), if_pos (by rw [List.length_append, List.length_replicate]; omega), Int.toNat_natCast, List.replicate_succ, sets_mid, hr, wr (by omega) (by omega), e]
theorem toS_ev (L : List ByteArray) (hl : L.length ≤ 1048576) : Ev (fun k => laws_toStringS.f k L) L := by
  obtain ⟨K, e⟩ := toS_l0 L (by omega) L.length [] L rfl rfl
  refine ⟨K, fun k hk => ?_⟩
  have e := e k hk
  dsimp only at e ⊢
  unfold laws_toStringS.f
  rw [if_pos (by omega), if_pos (by omega), Int.toNat_natCast]
  exact e
theorem eqS_l0 : ∀ (d : Nat) (P R : List ByteArray), R.length = d → P.length + d < 9223372036854775807 → Ev (fun k => laws_eqStringS.l0 k (P ++ R) (P ++ R) (P.length : Int)) true
  | 0, P, R, hd, h2 => by
    obtain rfl := List.eq_nil_of_length_eq_zero hd
    refine ev_from 0 fun k _ => ?_
    simp only [laws_eqStringS.l0]
    rw [if_neg (by simp)]
  | d + 1, P, R, hd, h2 => by
    match R, hd with
    | r :: R, hd =>
      have hd : R.length = d := by simpa using hd
      obtain ⟨K, ih⟩ := eqS_l0 d (P ++ [r]) R hd (by rw [List.length_append, List.length_singleton]; omega)
      refine ev_from K fun k hk => ?_
      have e := ih k hk
      dsimp only at e
      rw [List.length_append, List.length_singleton, show ((P.length + 1 : Nat) : Int) = (P.length : Int) + 1 from rfl, List.append_assoc, List.singleton_append] at e
      simp only [laws_eqStringS.l0]
      rw [if_pos (by simp only [List.length_append, List.length_cons]; omega), if_pos (by omega), if_pos (by simp only [List.length_append, List.length_cons]; omega), if_pos trivial, wr (by omega) (by omega), e]
theorem eqS_ev (L : List ByteArray) (hl : L.length ≤ 1099511627776) : Ev (fun k => laws_eqStringS.f k L L) true := by
  obtain ⟨K, e⟩ := eqS_l0 L.length [] L rfl (by simp; omega)
  exact ⟨K, fun k hk => by have e := e k hk; dsimp only at e ⊢; unfold laws_eqStringS.f; rw [if_pos rfl]; simpa using e⟩
end Go.Proofs.YtclnjlnpconjmaaDoor.Pu
end

section
namespace Go.Proofs.YtclnjlnpconjmaaDoor.Pu
open Go.RowKit Go.Proofs.YtclnjlnpconjmaaDoor.P Go.Proofs.YtclnjlnpconjmaaDoorW.PrintWords Go.Proofs.YtclnjlnpconjmaaDoorW.PrintLast Go.Proofs.YtclnjlnpconjmaaDoorW.PrintMore
def shortB (s : ByteArray) : Bool := wordB s && decide (s.size ≤ 10)
theorem short_is (s : ByteArray) (hs : s.size ≤ 140737488351232) : impl_short.f s = some (shortB s) := by
  unfold impl_short.f shortB
  rw [isWord_is s hs, bsome]
  cases wordB s with
  | false => rfl
  | true => rw [if_pos rfl, Bool.true_and, decide_eq_decide.2 (show (s.size : Int) ≤ 10 ↔ s.size ≤ 10 by omega)]
theorem wdWord_ev (s : ByteArray) (hs : s.size ≤ 140737488351232) : Ev (fun k => spec_wdWord.f k s) (shortB s) := by
  obtain ⟨K, e⟩ := prWord_ev s hs
  refine ⟨K, fun k hk => ?_⟩
  have e := e k hk
  dsimp only at e ⊢
  unfold spec_wdWord.f shortB
  rw [e, bsome]
  cases wordB s with
  | false => rfl
  | true => rw [if_pos rfl, Bool.true_and, decide_eq_decide.2 (show (s.size : Int) ≤ 10 ↔ s.size ≤ 10 by omega)]
def lessB (s t : ByteArray) : Bool := Op.bytesLess s.toList t.toList
def goodN (L : List ByteArray) : Nat → Nat → Bool
  | 0, _ => true
  | d + 1, i => shortB (rdOf ByteArray.empty L i) && ((decide (i = 0) || lessB (rdOf ByteArray.empty L ((i : Int) - 1)) (rdOf ByteArray.empty L i)) && goodN L d (i + 1))
def lenL (L : List ByteArray) : Bool := decide (1 ≤ (L.length : Int)) && decide ((L.length : Int) ≤ 12)
theorem wdGood_l0 (L : List ByteArray) (hl : L.length ≤ 1099511627776) (hL : ∀ x ∈ L, x.size ≤ 140737488351232) : ∀ (d i : Nat), i + d = L.length → Ev (fun k => spec_wdGood.l0 k L L L.length i) (goodN L d i)
  | 0, i, hi => by
    obtain rfl : i = L.length := by omega
    refine ev_from 0 fun k _ => ?_
    simp only [spec_wdGood.l0]
    rw [if_neg (by omega)]
    rfl
  | d + 1, i, hi => by
    obtain ⟨K0, e0⟩ := wdWord_ev _ (hL _ (rds_mem L i (by omega)))
    obtain ⟨K, ih⟩ := wdGood_l0 L hl hL d (i + 1) (by omega)
    refine ev_from (K0 + K) fun k hk => ?_
    have e := ih k (by omega)
    have e0 := e0 k (by omega)
    rw [show ((i + 1 : Nat) : Int) = (i : Int) + 1 from rfl] at e
    dsimp only at e e0
    simp only [spec_wdGood.l0, goodN]
    rw [if_pos (by omega), if_pos (by omega), if_pos (by omega), e0, bsome, wr (x := (i : Int) + 1) (by omega) (by omega), wr (x := (i : Int) - 1) (by omega) (by omega)]
    cases hs : shortB (rdOf ByteArray.empty L i) with
    | false => rw [Bool.false_and]; rfl
    | true =>
      rw [if_pos rfl, Bool.true_and]
      by_cases h0 : i = 0
      · rw [if_neg (by omega), decide_eq_true h0, Bool.true_or, Bool.true_and, e]
      · rw [if_pos (by omega), if_pos (by omega), if_pos (by omega), decide_eq_false h0, Bool.false_or]
        unfold lessB
        cases Op.bytesLess (rdOf ByteArray.empty L ((i : Int) - 1)).toList (rdOf ByteArray.empty L i).toList with
        | false => rfl
        | true => rw [if_pos rfl, Bool.true_and, e]
theorem isDict_l0 (L : List ByteArray) (hl : L.length ≤ 1099511627776) (hL : ∀ x ∈ L, x.size ≤ 140737488351232) : ∀ (d i : Nat), i + d = L.length → Ev (fun k => impl_IsDictionary.l0 k L L L.length i) (goodN L d i && lenL L)
  | 0, i, hi => by
    obtain rfl : i = L.length := by omega
    refine ev_from 0 fun k _ => ?_
    simp only [impl_IsDictionary.l0]
    rw [if_neg (by omega), in_is, bsome]
    rfl
  | d + 1, i, hi => by
    have hs0 := hL _ (rds_mem L i (by omega))
    obtain ⟨K, ih⟩ := isDict_l0 L hl hL d (i + 1) (by omega)
    refine ev_from K fun k hk => ?_
    have e := ih k (by omega)
    rw [show ((i + 1 : Nat) : Int) = (i : Int) + 1 from rfl] at e
    dsimp only at e
    simp only [impl_IsDictionary.l0, goodN]
    rw [if_pos (by omega), if_pos (by omega), if_pos (by omega), short_is _ hs0, bsome, wr (x := (i : Int) + 1) (by omega) (by omega), wr (x := (i : Int) - 1) (by omega) (by omega)]
    cases hs : shortB (rdOf ByteArray.empty L i) with
    | false => rw [Bool.false_and, Bool.false_and]; rfl
    | true =>
      rw [if_pos rfl, Bool.true_and]
      by_cases h0 : i = 0
      · rw [if_neg (by omega), decide_eq_true h0, Bool.true_or, Bool.true_and, e]
      · rw [if_pos (by omega), if_pos (by omega), if_pos (by omega), decide_eq_false h0, Bool.false_or]
        unfold lessB
        cases Op.bytesLess (rdOf ByteArray.empty L ((i : Int) - 1)).toList (rdOf ByteArray.empty L i).toList with
        | false => rfl
        | true => rw [if_pos rfl, Bool.true_and, e]
def dictB (L : List ByteArray) : Bool := lenL L && goodN L L.length 0
theorem wdGood_ev (L : List ByteArray) (hl : L.length ≤ 1099511627776) (hL : ∀ x ∈ L, x.size ≤ 140737488351232) : Ev (fun k => spec_wdGood.f k L) (dictB L) := by
  obtain ⟨K, e⟩ := wdGood_l0 L hl hL L.length 0 (by omega)
  refine ⟨K, fun k hk => ?_⟩
  have e := e k hk
  dsimp only at e ⊢
  unfold spec_wdGood.f dictB
  rw [l1In_is, bsome]
  show (if lenL L = true then _ else _) = _
  cases lenL L with
  | false => rfl
  | true => rw [if_pos rfl, Bool.true_and]; exact e
theorem isDict_ev (L : List ByteArray) (hl : L.length ≤ 1099511627776) (hL : ∀ x ∈ L, x.size ≤ 140737488351232) : Ev (fun k => impl_IsDictionary.f k L) (dictB L) := by
  obtain ⟨K, e⟩ := isDict_l0 L hl hL L.length 0 (by omega)
  refine ⟨K, fun k hk => ?_⟩
  have e := e k hk
  dsimp only at e ⊢
  unfold impl_IsDictionary.f dictB
  rw [Bool.and_comm]
  exact e
end Go.Proofs.YtclnjlnpconjmaaDoor.Pu
end

section
namespace Go.Proofs.YtclnjlnpconjmaaDoor.Pu
open Go.RowKit Go.Proofs.YtclnjlnpconjmaaDoor.P Go.Proofs.YtclnjlnpconjmaaDoorW.PrintWords Go.Proofs.YtclnjlnpconjmaaDoorW.PrintLast Go.Proofs.YtclnjlnpconjmaaDoorW.PrintMore
def keyN (c : Int) : Int := if c ≤ 99 then 50 else if c ≤ 102 then 51 else if c ≤ 105 then 52 else if c ≤ 108 then 53 else if c ≤ 111 then 54 else if c ≤ 115 then 55 else if c ≤ 118 then 56 else 57
def posN (c : Int) : Int := if c ≤ 99 then c - 97 else if c ≤ 102 then c - 100 else if c ≤ 105 then c - 103 else if c ≤ 108 then c - 106 else if c ≤ 111 then c - 109 else if c ≤ 115 then c - 112 else if c ≤ 118 then c - 116 else c - 119
theorem keyN_range (c : Int) : 50 ≤ keyN c ∧ keyN c ≤ 57 := by unfold keyN; omega
theorem onPad_ev (c : Int) (h : 97 ≤ c ∧ c ≤ 122) : Ev (fun k => impl_onPad.f k c) (keyN c - 50, posN c) := by
  have key : ∀ n : Fin 26, impl_onPad.f 12 (97 + (n.val : Int)) = some (keyN (97 + (n.val : Int)) - 50, posN (97 + (n.val : Int))) := by decide +kernel
  have e := key ⟨(c - 97).toNat, by omega⟩
  rw [show (97 : Int) + (((c - 97).toNat : Nat) : Int) = c by omega] at e
  exact Ev.of (impl_onPad.mono c) e
theorem prKey_ev (c : Int) (h : 97 ≤ c ∧ c ≤ 122) : Ev (fun k => spec_prKey.f k c) (keyN c, posN c + 1) := by
  have key : ∀ n : Fin 26, spec_prKey.f 60 (97 + (n.val : Int)) = some (keyN (97 + (n.val : Int)), posN (97 + (n.val : Int)) + 1) := by decide +kernel
  have e := key ⟨(c - 97).toNat, by omega⟩
  rw [show (97 : Int) + (((c - 97).toNat : Nat) : Int) = c by omega] at e
  exact Ev.of (spec_prKey.mono c) e
end Go.Proofs.YtclnjlnpconjmaaDoor.Pu
end

section
namespace Go.Proofs.YtclnjlnpconjmaaDoor.Pu
open Go.RowKit Go.Proofs.YtclnjlnpconjmaaDoor.P Go.Proofs.YtclnjlnpconjmaaDoorW.PrintWords Go.Proofs.YtclnjlnpconjmaaDoorW.PrintLast Go.Proofs.YtclnjlnpconjmaaDoorW.PrintMore
theorem keyOf_ev (c : Int) (h : 97 ≤ c ∧ c ≤ 122) : Ev (fun k => impl_keyOf.f k c) (keyN c) := by
  obtain ⟨K, e⟩ := onPad_ev c h
  have hp := keyN_range c
  refine ⟨K, fun k hk => ?_⟩
  have e := e k hk
  dsimp only at e
  dsimp only
  unfold impl_keyOf.f
  rw [e]
  simp only [bsome, Option.some.injEq]
  omega
def keysN (s : ByteArray) : ByteArray := strOfNums ((bytesOf s).map keyN)
theorem keysN_bytes (s : ByteArray) : bytesOf (keysN s) = (bytesOf s).map keyN := by
  refine bytes_nums fun c hc => ?_
  obtain ⟨b, _, rfl⟩ := List.mem_map.1 hc
  have := keyN_range b
  omega
theorem keysN_size (s : ByteArray) : (keysN s).size = s.size := by rw [keysN, size_nums, List.length_map, bytesOf_length]
theorem keysOf_l0 (s : ByteArray) (hs : s.size ≤ 1000000) (hl : ∀ c ∈ bytesOf s, 97 ≤ c ∧ c ≤ 122) : ∀ (d i : Nat) (A : List Int), i + d = s.size → A.length ≤ i →
    Ev (fun k => impl_keysOf.l0 k s A s.size i) (strOfNums (A ++ ((bytesOf s).drop i).map keyN))
  | 0, i, A, h, hA => by
    obtain rfl : i = s.size := by omega
    rw [drop_end]
    refine ev_from 0 fun k _ => ?_
    simp only [impl_keysOf.l0]
    rw [if_neg (by omega)]
    simp
  | d + 1, i, A, h, hA => by
    obtain ⟨K, ih⟩ := keysOf_l0 s hs hl d (i + 1) (A ++ [keyN (bt s i)]) (by omega) (by simp; omega)
    obtain ⟨K', ek⟩ := keyOf_ev (bt s i) (hl _ (bt_mem s i (by omega)))
    rw [drop_bytes s i (by omega)]
    refine ev_from (K + K') fun k hk => ?_
    have e := ih k (by omega)
    have e' := ek k (by omega)
    rw [show ((i + 1 : Nat) : Int) = (i : Int) + 1 from rfl] at e
    dsimp only at e e'
    simp only [impl_keysOf.l0]
    rw [if_pos (by omega), if_pos (by omega), if_pos (by omega), e']
    simp only [bsome]
    rw [if_pos (by omega), wr (by omega) (by omega), e]
    simp
theorem keysOf_ev (s : ByteArray) (hs : s.size ≤ 1000000) (hl : ∀ c ∈ bytesOf s, 97 ≤ c ∧ c ≤ 122) : Ev (fun k => impl_keysOf.f k s) (keysN s) := by
  obtain ⟨K, e⟩ := keysOf_l0 s hs hl s.size 0 [] (by omega) (by simp)
  exact ⟨K, fun k hk => by have e := e k hk; dsimp only at e; unfold impl_keysOf.f; simpa [keysN] using e⟩
theorem prKeys_l0 (s : ByteArray) (hs : s.size ≤ 1000000) (hl : ∀ c ∈ bytesOf s, 97 ≤ c ∧ c ≤ 122) : ∀ (d i : Nat) (A : List Int), i + d = s.size → A.length ≤ i →
    Ev (fun k => spec_prKeys.l0 k s (strOfNums A) i) (strOfNums (A ++ ((bytesOf s).drop i).map keyN))
  | 0, i, A, h, hA => by
    obtain rfl : i = s.size := by omega
    rw [drop_end]
    refine ev_from 0 fun k _ => ?_
    simp only [spec_prKeys.l0]
    rw [if_neg (by omega)]
    simp
  | d + 1, i, A, h, hA => by
    obtain ⟨K, ih⟩ := prKeys_l0 s hs hl d (i + 1) (A ++ [keyN (bt s i)]) (by omega) (by simp; omega)
    obtain ⟨K', ek⟩ := prKey_ev (bt s i) (hl _ (bt_mem s i (by omega)))
    have hk := keyN_range (bt s i)
    rw [drop_bytes s i (by omega)]
    refine ev_from (K + K') fun k hk' => ?_
    have e := ih k (by omega)
    have e' := ek k (by omega)
    rw [show ((i + 1 : Nat) : Int) = (i : Int) + 1 from rfl] at e
    dsimp only at e e'
    simp only [spec_prKeys.l0]
    rw [if_pos (by omega), if_pos (by omega), e']
    simp only [bsome]
    rw [wr32 (by omega) (by omega), encode_small (by omega) (by omega), if_pos (by rw [size_nums, size_nums]; simp; omega), wr (by omega) (by omega), ← numsApp, e]
    simp
theorem prKeys_ev (s : ByteArray) (hs : s.size ≤ 1000000) (hl : ∀ c ∈ bytesOf s, 97 ≤ c ∧ c ≤ 122) : Ev (fun k => spec_prKeys.f k s) (keysN s) := by
  obtain ⟨K, e⟩ := prKeys_l0 s hs hl s.size 0 [] (by omega) (by simp)
  exact ⟨K, fun k hk => by have e := e k hk; dsimp only at e; unfold spec_prKeys.f; rw [show strOfNums [] = (⟨#[]⟩ : ByteArray) from rfl] at e; simpa [keysN] using e⟩
end Go.Proofs.YtclnjlnpconjmaaDoor.Pu
end

section
namespace Go.Proofs.YtclnjlnpconjmaaDoor.Pu
open Go.RowKit Go.Proofs.YtclnjlnpconjmaaDoor.P Go.Proofs.YtclnjlnpconjmaaDoorW.PrintWords Go.Proofs.YtclnjlnpconjmaaDoorW.PrintLast Go.Proofs.YtclnjlnpconjmaaDoorW.PrintMore Go.Proofs.YtclnjlnpconjmaaDoor.Pick
theorem goodN_short (L : List ByteArray) : ∀ (d i : Nat), i + d = L.length → goodN L d i = true → ∀ x ∈ L.drop i, shortB x = true
  | 0, i, h, _ => by
    obtain rfl : i = L.length := by omega
    simp
  | d + 1, i, h, hg => by
    rw [goodN, Bool.and_eq_true, Bool.and_eq_true] at hg
    intro x hx
    rw [rds_drop L i (by omega)] at hx
    rcases List.mem_cons.1 hx with rfl | hx
    · exact hg.1
    · exact goodN_short L d (i + 1) (by omega) hg.2.2 x hx
theorem dict_short {L : List ByteArray} (h : dictB L = true) : ∀ x ∈ L, shortB x = true := by
  unfold dictB at h
  rw [Bool.and_eq_true] at h
  have := goodN_short L L.length 0 (by omega) h.2
  rwa [List.drop_zero] at this
theorem dict_length {L : List ByteArray} (h : dictB L = true) : 1 ≤ L.length ∧ L.length ≤ 12 := by
  unfold dictB lenL at h
  simp only [Bool.and_eq_true, decide_eq_true_eq] at h
  omega
theorem short_size {x : ByteArray} (h : shortB x = true) : 1 ≤ x.size ∧ x.size ≤ 10 := by
  unfold shortB at h
  rw [Bool.and_eq_true, decide_eq_true_eq] at h
  exact ⟨(wordB_iff.1 h.1).1.1, h.2⟩
theorem short_low {x : ByteArray} (h : shortB x = true) : ∀ c ∈ bytesOf x, 97 ≤ c ∧ c ≤ 122 := by
  unfold shortB at h
  rw [Bool.and_eq_true] at h
  exact (wordB_iff.1 h.1).2
theorem isPrefix_take {α : Type} [BEq α] [LawfulBEq α] : ∀ (p l : List α), p.isPrefixOf l = (decide (p.length ≤ l.length) && (l.take p.length == p))
  | [], l => by simp
  | a :: p, [] => by simp
  | a :: p, b :: l => by
    rw [List.isPrefixOf, isPrefix_take p l]
    rw [Bool.eq_iff_iff]
    simp only [Bool.and_eq_true, beq_iff_eq, decide_eq_true_eq, List.length_cons, List.take_succ_cons, List.cons.injEq]
    constructor
    · rintro ⟨rfl, h1, h2⟩; exact ⟨by omega, rfl, h2⟩
    · rintro ⟨h1, rfl, h2⟩; exact ⟨rfl, by omega, h2⟩
theorem size_data (s : ByteArray) : s.data.toList.length = s.size := by rw [Array.length_toList]; rfl
end Go.Proofs.YtclnjlnpconjmaaDoor.Pu
end

section
namespace Go.Proofs.YtclnjlnpconjmaaDoor.Pu
open Go.RowKit Go.Proofs.YtclnjlnpconjmaaDoor.P Go.Proofs.YtclnjlnpconjmaaDoorW.PrintWords Go.Proofs.YtclnjlnpconjmaaDoorW.PrintLast Go.Proofs.YtclnjlnpconjmaaDoorW.PrintMore
theorem isKeys_is (s : ByteArray) (hs : s.size ≤ 140737488351232) : impl_isKeys.f s = some (keysB s) := by
  unfold impl_isKeys.f keysB
  rw [in_is, show (1 : Int) = ((1 : Nat) : Int) from rfl, show (40 : Int) = ((40 : Nat) : Int) from rfl, lenB_int, over_is s _ (by omega) (by decide) (by decide) isDig dig_contains]
  simp only [bsome]
  cases lenB s 1 40 <;> simp
theorem prGood_l0 (s : ByteArray) (hs : s.size ≤ 140737488351232) : ∀ (d i : Nat), i + d = s.size → Ev (fun k => spec_prGood.l0 k s i) (((bytesOf s).drop i).all isDig)
  | 0, i, h => by
    obtain rfl : i = s.size := by omega
    rw [drop_end]
    refine ev_from 0 fun k _ => ?_
    simp only [spec_prGood.l0]
    rw [if_neg (by omega)]
    rfl
  | d + 1, i, h => by
    obtain ⟨K, ih⟩ := prGood_l0 s hs d (i + 1) (by omega)
    rw [drop_bytes s i (by omega), List.all_cons]
    refine ev_from K fun k hk => ?_
    have e := ih k hk
    rw [show ((i + 1 : Nat) : Int) = (i : Int) + 1 from rfl] at e
    dsimp only at e
    simp only [spec_prGood.l0]
    rw [if_pos (by omega), if_pos (by omega), wr (by omega) (by omega), e]
    unfold isDig
    by_cases h1 : bt s i < 50
    · rw [if_pos h1, decide_eq_false (by omega)]; rfl
    · rw [if_neg h1, decide_eq_true (show 50 ≤ bt s i by omega)]
      by_cases h2 : bt s i > 57
      · rw [if_pos h2, decide_eq_false (by omega)]; rfl
      · rw [if_neg h2, decide_eq_true (by omega)]; rfl
theorem prGood_ev (s : ByteArray) (hs : s.size ≤ 140737488351232) : Ev (fun k => spec_prGood.f k s) (keysB s) := by
  obtain ⟨K, h⟩ := prGood_l0 s hs s.size 0 (by omega)
  refine ⟨K, fun k hk => ?_⟩
  have e := h k hk
  unfold spec_prGood.f keysB
  rw [l1In_is, show (1 : Int) = ((1 : Nat) : Int) from rfl, show (40 : Int) = ((40 : Nat) : Int) from rfl, lenB_int]
  simp only [bsome]
  cases lenB s 1 40
  · rfl
  · rw [if_pos rfl]; exact e
end Go.Proofs.YtclnjlnpconjmaaDoor.Pu
end

section
namespace Go.Proofs.YtclnjlnpconjmaaDoor.Pu
open Go.RowKit Go.Proofs.YtclnjlnpconjmaaDoor.P Go.Proofs.YtclnjlnpconjmaaDoorW.PrintWords Go.Proofs.YtclnjlnpconjmaaDoorW.PrintLast Go.Proofs.YtclnjlnpconjmaaDoorW.PrintMore Go.Proofs.YtclnjlnpconjmaaDoor.Pick
def askedB (L : List ByteArray) (keys : ByteArray) : Bool := dictB L && (keysB keys && decide (keys.size ≤ 20))
theorem wdAsked_ev (L : List ByteArray) (hl : L.length ≤ 1099511627776) (hL : ∀ x ∈ L, x.size ≤ 140737488351232) (keys : ByteArray) (hk : keys.size ≤ 140737488351232) : Ev (fun k => spec_wdAsked.f k L keys) (askedB L keys) := by
  obtain ⟨K1, e1⟩ := wdGood_ev L hl hL
  obtain ⟨K2, e2⟩ := prGood_ev keys hk
  refine ⟨K1 + K2, fun k hk => ?_⟩
  have e1 := e1 k (by omega)
  have e2 := e2 k (by omega)
  dsimp only at e1 e2 ⊢
  unfold spec_wdAsked.f spec_wdKeys.f askedB
  rw [e1, bsome]
  cases dictB L with
  | false => rfl
  | true =>
    rw [if_pos rfl, e2, bsome]
    cases keysB keys with
    | false => rfl
    | true => rw [if_pos rfl, bsome, Bool.true_and, Bool.true_and, decide_eq_decide.2 (show (keys.size : Int) ≤ 20 ↔ keys.size ≤ 20 by omega)]
theorem splitOk_ev (L : List ByteArray) (hl : L.length ≤ 1099511627776) (hL : ∀ x ∈ L, x.size ≤ 140737488351232) (keys : ByteArray) (hk : keys.size ≤ 140737488351232) : Ev (fun k => impl_splitOk.f k L keys) (askedB L keys) := by
  obtain ⟨K1, e1⟩ := isDict_ev L hl hL
  refine ⟨K1, fun k hk' => ?_⟩
  have e1 := e1 k (by omega)
  dsimp only at e1 ⊢
  unfold impl_splitOk.f askedB
  rw [e1, bsome]
  cases dictB L with
  | false => rfl
  | true =>
    rw [if_pos rfl, isKeys_is keys hk, bsome]
    cases keysB keys with
    | false => rfl
    | true => rw [if_pos rfl, Bool.true_and, Bool.true_and, decide_eq_decide.2 (show (keys.size : Int) ≤ 20 ↔ keys.size ≤ 20 by omega)]
theorem askedB_iff {L : List ByteArray} {keys : ByteArray} (h : askedB L keys = true) : dictB L = true ∧ keys.size ≤ 20 := by
  unfold askedB at h
  rw [Bool.and_eq_true, Bool.and_eq_true, decide_eq_true_eq] at h
  exact ⟨h.1, h.2.2⟩
end Go.Proofs.YtclnjlnpconjmaaDoor.Pu
end

section
namespace Go.Proofs.YtclnjlnpconjmaaDoor.Pu
open Go.RowKit Go.Proofs.YtclnjlnpconjmaaDoor.P Go.Proofs.YtclnjlnpconjmaaDoorW.PrintWords Go.Proofs.YtclnjlnpconjmaaDoorW.PrintLast Go.Proofs.YtclnjlnpconjmaaDoorW.PrintMore
theorem bl_trans : ∀ (x y z : List UInt8), Op.bytesLess x y = true → Op.bytesLess y z = true → Op.bytesLess x z = true
  | _, [], _, h, _ => by cases ‹List UInt8› <;> simp [Op.bytesLess] at h
  | _, _ :: _, [], _, h => by simp [Op.bytesLess] at h
  | [], _ :: _, _ :: _, _, _ => rfl
  | a :: x, b :: y, c :: z, h1, h2 => by
    simp only [Op.bytesLess, Bool.or_eq_true, Bool.and_eq_true, decide_eq_true_eq, beq_iff_eq] at h1 h2 ⊢
    rcases h1 with h1 | ⟨rfl, h1⟩
    · rcases h2 with h2 | ⟨rfl, _⟩
      · exact Or.inl (UInt8.lt_trans h1 h2)
      · exact Or.inl h1
    · rcases h2 with h2 | ⟨rfl, h2⟩
      · exact Or.inl h2
      · exact Or.inr ⟨rfl, bl_trans x y z h1 h2⟩
theorem lessB_trans {x y z : ByteArray} (h1 : lessB x y = true) (h2 : lessB y z = true) : lessB x z = true := bl_trans _ _ _ h1 h2
theorem goodN_iff (L : List ByteArray) : ∀ (d i : Nat), i + d = L.length → (goodN L d i = true ↔ ∀ j, i ≤ j → j < L.length → shortB (rdOf ByteArray.empty L j) = true ∧ (j = 0 ∨ lessB (rdOf ByteArray.empty L ((j : Int) - 1)) (rdOf ByteArray.empty L j) = true))
  | 0, i, h => ⟨fun _ j h1 h2 => by omega, fun _ => rfl⟩
  | d + 1, i, h => by
    rw [goodN, Bool.and_eq_true, Bool.and_eq_true, Bool.or_eq_true, decide_eq_true_eq, goodN_iff L d (i + 1) (by omega)]
    constructor
    · rintro ⟨h1, h2, h3⟩ j hj hl
      by_cases e : j = i
      · subst e; exact ⟨h1, h2⟩
      · exact h3 j (by omega) hl
    · intro h1
      exact ⟨(h1 i (Nat.le_refl _) (by omega)).1, (h1 i (Nat.le_refl _) (by omega)).2, fun j hj hl => h1 j (by omega) hl⟩
theorem rds_get (L : List ByteArray) (i : Nat) (h : i < L.length) : rdOf ByteArray.empty L i = L[i] := by
  rw [rdOf, Int.toNat_natCast, List.getD_eq_getElem?_getD, List.getElem?_eq_getElem h]
  rfl
theorem goodN_pairwise (L : List ByteArray) : goodN L L.length 0 = true ↔ (∀ x ∈ L, shortB x = true) ∧ L.Pairwise (fun x y => lessB x y = true) := by
  rw [goodN_iff L L.length 0 (by omega)]
  constructor
  · intro h
    refine ⟨fun x hx => ?_, ?_⟩
    · obtain ⟨i, hi, rfl⟩ := List.mem_iff_getElem.1 hx
      have := (h i (Nat.zero_le _) hi).1
      rwa [rds_get L i hi] at this
    · rw [List.pairwise_iff_getElem]
      intro i j hi hj hij
      induction j with
      | zero => omega
      | succ j ih =>
        have h1 := (h (j + 1) (Nat.zero_le _) hj).2
        rw [rds_get L (j + 1) hj, show ((j + 1 : Nat) : Int) - 1 = (j : Int) by omega, rds_get L j (by omega)] at h1
        have h1 := h1.resolve_left (by omega)
        by_cases e : i = j
        · subst e; exact h1
        · exact lessB_trans (ih (by omega) (by omega)) h1
  · rintro ⟨hs, hp⟩ j _ hj
    rw [List.pairwise_iff_getElem] at hp
    rw [rds_get L j hj]
    refine ⟨hs _ (List.getElem_mem hj), ?_⟩
    by_cases e : j = 0
    · exact Or.inl e
    · right
      rw [show (j : Int) - 1 = ((j - 1 : Nat) : Int) by omega, rds_get L (j - 1) (by omega)]
      exact hp (j - 1) j (by omega) hj (by omega)
theorem dictB_iff {L : List ByteArray} : dictB L = true ↔ (1 ≤ L.length ∧ L.length ≤ 12) ∧ (∀ x ∈ L, shortB x = true) ∧ L.Pairwise (fun x y => lessB x y = true) := by
  unfold dictB lenL
  rw [Bool.and_eq_true, goodN_pairwise]
  simp only [Bool.and_eq_true, decide_eq_true_eq]
  constructor
  · rintro ⟨h, h'⟩; exact ⟨by omega, h'⟩
  · rintro ⟨h, h'⟩; exact ⟨by omega, h'⟩
end Go.Proofs.YtclnjlnpconjmaaDoor.Pu
end

section
namespace Go.Proofs.YtclnjlnpconjmaaDoor.Pu
open Go.RowKit Go.Proofs.YtclnjlnpconjmaaDoor.P Go.Proofs.YtclnjlnpconjmaaDoorW.PrintWords Go.Proofs.YtclnjlnpconjmaaDoorW.PrintLast Go.Proofs.YtclnjlnpconjmaaDoorW.PrintMore
def okW (keys : ByteArray) (i : Nat) (w : ByteArray) : Bool := decide (i + w.size ≤ keys.size) && ((keysN w).toList == (keys.extract i (i + w.size)).toList)
def rowf (keys : ByteArray) (i : Nat) (tb : List (Int × Int)) : List ByteArray → Int → Int → Int × Int
  | [], a, b => (a, b)
  | w :: R, a, b =>
    if okW keys i w = true ∧ 0 < (tb.getD (w.size - 1) (0, -1)).1 then
      rowf keys i tb R (a + (tb.getD (w.size - 1) (0, -1)).1) (if b < 0 ∨ (tb.getD (w.size - 1) (0, -1)).2 + 1 < b then (tb.getD (w.size - 1) (0, -1)).2 + 1 else b)
    else rowf keys i tb R a b
def tbl (L : List ByteArray) (keys : ByteArray) : Nat → List (Int × Int)
  | 0 => [(1, 0)]
  | m + 1 => rowf keys (keys.size - (m + 1)) (tbl L keys m) L 0 (-1) :: tbl L keys m
theorem tbl_length (L : List ByteArray) (keys : ByteArray) : ∀ m, (tbl L keys m).length = m + 1
  | 0 => rfl
  | m + 1 => by rw [tbl, List.length_cons, tbl_length L keys m]
def goodE (p : Int × Int) (B : Int) (m : Int) : Prop := ((0 < p.1 ∧ 0 ≤ p.2) ∨ p = (0, -1)) ∧ p.1 ≤ B ∧ p.2 ≤ m
theorem rowf_good (keys : ByteArray) (i : Nat) (tb : List (Int × Int)) (m : Int) (hm : 0 ≤ m) : ∀ (R : List ByteArray) (a b : Int), (∀ w ∈ R, okW keys i w = true → ∃ B, goodE (tb.getD (w.size - 1) (0, -1)) B m) → ((0 < a ∧ 0 ≤ b) ∨ (a = 0 ∧ b = -1)) → b ≤ m + 1 →
    ((0 < (rowf keys i tb R a b).1 ∧ 0 ≤ (rowf keys i tb R a b).2) ∨ rowf keys i tb R a b = (0, -1)) ∧ (rowf keys i tb R a b).2 ≤ m + 1 ∧ a ≤ (rowf keys i tb R a b).1
  | [], a, b, _, h1, h2 => by
    rw [rowf]
    refine ⟨?_, h2, Int.le_refl _⟩
    rcases h1 with h | ⟨rfl, rfl⟩
    · exact Or.inl h
    · exact Or.inr rfl
  | w :: R, a, b, hR, h1, h2 => by
    rw [rowf]
    split
    · rename_i hc
      obtain ⟨B, hg, _, hm2⟩ := hR w List.mem_cons_self hc.1
      have hp : 0 ≤ (tb.getD (w.size - 1) (0, -1)).2 := by
        rcases hg with h | h
        · exact h.2
        · have := hc.2; rw [h] at this; simp at this
      have hpos := hc.2
      obtain ⟨c1, c2, c3⟩ := rowf_good keys i tb m hm R (a + (tb.getD (w.size - 1) (0, -1)).1) (if b < 0 ∨ (tb.getD (w.size - 1) (0, -1)).2 + 1 < b then (tb.getD (w.size - 1) (0, -1)).2 + 1 else b) (fun x hx => hR x (List.mem_cons_of_mem w hx))
        (Or.inl ⟨by rcases h1 with h | h <;> omega, by split <;> omega⟩) (by split <;> omega)
      exact ⟨c1, c2, by omega⟩
    · exact rowf_good keys i tb m hm R a b (fun x hx => hR x (List.mem_cons_of_mem w hx)) h1 h2
def oneW (keys : ByteArray) (i : Nat) (w : ByteArray) : Bool := okW keys i w && decide (w.size = 1)
theorem rowf_bound (keys : ByteArray) (i : Nat) (tb : List (Int × Int)) (B Q : Int) (hB0 : 0 ≤ B) (hQ0 : 0 ≤ Q) : ∀ (R : List ByteArray) (a b : Int), (∀ w ∈ R, okW keys i w = true → (w.size = 1 → (tb.getD (w.size - 1) (0, -1)).1 ≤ B) ∧ (w.size ≠ 1 → (tb.getD (w.size - 1) (0, -1)).1 ≤ Q)) →
    (rowf keys i tb R a b).1 ≤ a + ((R.filter (oneW keys i)).length : Int) * B + (R.length : Int) * Q
  | [], a, b, _ => by rw [rowf]; simp
  | w :: R, a, b, hR => by
    have hl : ((w :: R).length : Int) * Q = (R.length : Int) * Q + Q := by rw [List.length_cons, show ((R.length + 1 : Nat) : Int) = (R.length : Int) + 1 from rfl, Int.add_mul, Int.one_mul]
    have hnn : 0 ≤ ((R.filter (oneW keys i)).length : Int) * B := Int.mul_nonneg (by omega) hB0
    rw [rowf, hl, List.filter_cons]
    have ihs := fun a b => rowf_bound keys i tb B Q hB0 hQ0 R a b (fun x hx => hR x (List.mem_cons_of_mem w hx))
    by_cases h1 : oneW keys i w = true
    · rw [if_pos h1]
      have hl2 : (((w :: R.filter (oneW keys i)).length : Nat) : Int) * B = ((R.filter (oneW keys i)).length : Int) * B + B := by rw [List.length_cons, show (((R.filter (oneW keys i)).length + 1 : Nat) : Int) = ((R.filter (oneW keys i)).length : Int) + 1 from rfl, Int.add_mul, Int.one_mul]
      rw [hl2]
      unfold oneW at h1
      rw [Bool.and_eq_true, decide_eq_true_eq] at h1
      have hb := (hR w List.mem_cons_self h1.1).1 h1.2
      split
      · have := ihs (a + (tb.getD (w.size - 1) (0, -1)).1) (if b < 0 ∨ (tb.getD (w.size - 1) (0, -1)).2 + 1 < b then (tb.getD (w.size - 1) (0, -1)).2 + 1 else b)
        omega
      · have := ihs a b
        omega
    · rw [if_neg h1]
      split
      · rename_i hc
        have h2 : w.size ≠ 1 := fun e => h1 (by unfold oneW; rw [hc.1, decide_eq_true e]; rfl)
        have hb := (hR w List.mem_cons_self hc.1).2 h2
        have := ihs (a + (tb.getD (w.size - 1) (0, -1)).1) (if b < 0 ∨ (tb.getD (w.size - 1) (0, -1)).2 + 1 < b then (tb.getD (w.size - 1) (0, -1)).2 + 1 else b)
        omega
      · have := ihs a b
        omega
theorem rising_short : ∀ (l : List Int) (lo hi : Int), l.Pairwise (fun x y => x < y) → (∀ y ∈ l, lo ≤ y ∧ y ≤ hi) → l = [] ∨ (l.length : Int) ≤ hi - lo + 1
  | [], _, _, _, _ => Or.inl rfl
  | x :: xs, lo, hi, hp, h => by
    obtain ⟨h1, h2⟩ := List.pairwise_cons.1 hp
    have hx := h x List.mem_cons_self
    right
    rcases rising_short xs (x + 1) hi h2 (fun y hy => ⟨by have := h1 y hy; omega, (h y (List.mem_cons_of_mem x hy)).2⟩) with e | e
    · subst e; simp; omega
    · rw [List.length_cons]; omega
theorem keyN_near (c c' : Int) (h : 97 ≤ c ∧ c ≤ 122) (h' : 97 ≤ c' ∧ c' ≤ 122) (e : keyN c = keyN c') (hl : c ≤ c') : c' ≤ c + 3 := by
  unfold keyN at e
  repeat' split at e
  all_goals omega
theorem one_list {w : ByteArray} (h : w.size = 1) : bytesOf w = [bt w 0] := by
  have hl := bytesOf_length w
  have := drop_bytes w 0 (by omega)
  rw [List.drop_zero] at this
  rw [this, List.drop_of_length_le (by omega)]
  rfl
theorem one_less {w w' : ByteArray} (h : w.size = 1) (h' : w'.size = 1) (hl : lessB w w' = true) : bt w 0 < bt w' 0 := by
  have e1 := one_list h
  have e2 := one_list h'
  unfold lessB at hl
  rw [Lib.toList_data, Lib.toList_data] at hl
  unfold bytesOf at e1 e2
  match hd : w.data.toList, hd' : w'.data.toList with
  | [a], [b] =>
    rw [hd] at e1 hl
    rw [hd'] at e2 hl
    simp only [List.map_cons, List.map_nil, List.cons.injEq, and_true] at e1 e2
    simp only [Op.bytesLess, Bool.or_eq_true, decide_eq_true_eq, Bool.and_false, Bool.false_eq_true, or_false] at hl
    have := UInt8.lt_iff_toNat_lt.1 hl
    omega
  | [], _ => rw [hd] at e1; simp at e1
  | _ :: _ :: _, _ => rw [hd] at e1; simp at e1
  | [_], [] => rw [hd'] at e2; simp at e2
  | [_], _ :: _ :: _ => rw [hd'] at e2; simp at e2
theorem ones_few {L : List ByteArray} (hd : dictB L = true) (keys : ByteArray) (i : Nat) : (L.filter (oneW keys i)).length ≤ 4 := by
  obtain ⟨_, hs, hp⟩ := dictB_iff.1 hd
  have hw : ∀ w ∈ L.filter (oneW keys i), w.size = 1 ∧ (97 ≤ bt w 0 ∧ bt w 0 ≤ 122) ∧ [keyN (bt w 0)] = bytesOf (keys.extract i (i + 1)) := by
    intro w hw
    obtain ⟨hm, ho⟩ := List.mem_filter.1 hw
    unfold oneW okW at ho
    simp only [Bool.and_eq_true, decide_eq_true_eq, beq_iff_eq] at ho
    obtain ⟨⟨_, h2⟩, h3⟩ := ho
    have hl := short_low (hs w hm) (bt w 0) (bt_mem w 0 (by omega))
    refine ⟨h3, hl, ?_⟩
    rw [h3] at h2
    have h2 := toList_bytes.1 h2
    rw [← h2, keysN_bytes, one_list h3]
    rfl
  have hpw : ((L.filter (oneW keys i)).map fun w => bt w 0).Pairwise (fun x y => x < y) := by
    rw [List.pairwise_map]
    have := List.Pairwise.filter (oneW keys i) hp
    exact List.Pairwise.imp_of_mem (fun {a b} ha hb h => one_less (hw a ha).1 (hw b hb).1 h) this
  match hF : L.filter (oneW keys i) with
  | [] => simp
  | x :: xs =>
    rw [hF] at hw hpw
    have hx := hw x List.mem_cons_self
    have := rising_short _ (bt x 0) (bt x 0 + 3) hpw (fun y hy => by
      obtain ⟨w, hwm, rfl⟩ := List.mem_map.1 hy
      have h1 := hw w hwm
      have hle : bt x 0 ≤ bt w 0 := by
        rcases List.mem_cons.1 hwm with rfl | h
        · exact Int.le_refl _
        · have : bt x 0 < bt w 0 := (List.pairwise_cons.1 hpw).1 (bt w 0) (List.mem_map_of_mem h)
          omega
      have hk : keyN (bt x 0) = keyN (bt w 0) := by
        have := hx.2.2.trans h1.2.2.symm
        simpa using this
      exact ⟨hle, keyN_near _ _ hx.2.1 h1.2.1 hk hle⟩)
    rcases this with e | e
    · simp at e
    · rw [List.length_map] at e
      omega
theorem six_pow (m : Nat) : 4 * (6 : Int) ^ (m + 1) + 12 * (6 : Int) ^ m = 6 ^ (m + 2) := by
  rw [Int.pow_succ, Int.pow_succ, Int.pow_succ]
  omega
theorem six_mono (m k : Nat) : (6 : Int) ^ m ≤ 6 ^ (m + k) := by
  induction k with
  | zero => exact Int.le_refl _
  | succ k ih =>
    rw [← Nat.add_assoc, Int.pow_succ]
    have : (0 : Int) < 6 ^ (m + k) := Int.pow_pos (by decide)
    omega
theorem getD_lt {tb : List (Int × Int)} {j : Nat} (h : j < tb.length) : tb.getD j (0, -1) = tb[j] := by
  rw [List.getD_eq_getElem?_getD, List.getElem?_eq_getElem h]
  rfl
theorem okW_size {keys : ByteArray} {i : Nat} {w : ByteArray} (h : okW keys i w = true) : i + w.size ≤ keys.size ∧ keysN w = keys.extract i (i + w.size) := by
  unfold okW at h
  rw [Bool.and_eq_true, decide_eq_true_eq, beq_iff_eq] at h
  exact ⟨h.1, toList_bytes.1 h.2⟩
theorem tbl_good {L : List ByteArray} (hd : dictB L = true) (keys : ByteArray) : ∀ m, m ≤ keys.size → ∀ j (h : j < (tbl L keys m).length), goodE ((tbl L keys m)[j]) (6 ^ (m - j)) m
  | 0, _, j, h => by
    have : j = 0 := by rw [tbl_length] at h; omega
    subst this
    show goodE (1, 0) (6 ^ (0 - 0)) ((0 : Nat) : Int)
    exact ⟨Or.inl ⟨by decide, by decide⟩, by decide, by decide⟩
  | m + 1, hm, j, h => by
    have ih := tbl_good hd keys m (by omega)
    have hlen := tbl_length L keys m
    have hL := dict_length hd
    have hsz : ∀ w ∈ L, okW keys (keys.size - (m + 1)) w = true → 1 ≤ w.size ∧ w.size - 1 < (tbl L keys m).length := fun w hw ho => by
      have h1 := (okW_size ho).1
      have h2 := (short_size (dict_short hd w hw)).1
      rw [hlen]
      omega
    match j, h with
    | 0, _ =>
      show goodE (rowf keys (keys.size - (m + 1)) (tbl L keys m) L 0 (-1)) _ _
      obtain ⟨c1, c2, _⟩ := rowf_good keys (keys.size - (m + 1)) (tbl L keys m) m (by omega) L 0 (-1) (fun w hw ho => by
        have hz := hsz w hw ho
        rw [getD_lt hz.2]
        exact ⟨_, ih _ hz.2⟩) (Or.inr ⟨rfl, rfl⟩) (by omega)
      refine ⟨c1, ?_, by omega⟩
      have hfew := ones_few hd keys (keys.size - (m + 1))
      cases m with
      | zero =>
        have hb := rowf_bound keys (keys.size - 1) (tbl L keys 0) 1 0 (by decide) (by decide) L 0 (-1) (fun w hw ho => by
          have hz := hsz w hw ho
          have h1 : w.size = 1 := by rw [hlen] at hz; omega
          rw [getD_lt hz.2]
          exact ⟨fun _ => Int.le_trans (ih _ hz.2).2.1 (by rw [h1]; decide), fun h => absurd h1 h⟩)
        have h6 : (6 : Int) ^ 1 = 6 := by decide
        show (rowf keys (keys.size - 1) (tbl L keys 0) L 0 (-1)).1 ≤ (6 : Int) ^ 1
        rw [h6]
        rw [Int.mul_one, Int.mul_zero] at hb
        have hfew' : (L.filter (oneW keys (keys.size - 1))).length ≤ 4 := hfew
        omega
      | succ m =>
        have hp1 : (0 : Int) < 6 ^ (m + 1) := Int.pow_pos (by decide)
        have hp0 : (0 : Int) < 6 ^ m := Int.pow_pos (by decide)
        have hb := rowf_bound keys (keys.size - (m + 1 + 1)) (tbl L keys (m + 1)) (6 ^ (m + 1)) (6 ^ m) (by omega) (by omega) L 0 (-1) (fun w hw ho => by
          have hz := hsz w hw ho
          rw [getD_lt hz.2]
          have hg := (ih _ hz.2).2.1
          refine ⟨fun h1 => ?_, fun h1 => ?_⟩
          · have e : m + 1 - (w.size - 1) = m + 1 := by omega
            rw [e] at hg
            exact hg
          · refine Int.le_trans hg ?_
            rw [hlen] at hz
            have := six_mono (m + 1 - (w.size - 1)) (m - (m + 1 - (w.size - 1)))
            rwa [show m + 1 - (w.size - 1) + (m - (m + 1 - (w.size - 1))) = m by omega] at this)
        have h6 := six_pow m
        have g1 : ((L.filter (oneW keys (keys.size - (m + 1 + 1)))).length : Int) * 6 ^ (m + 1) ≤ 4 * 6 ^ (m + 1) := Int.mul_le_mul_of_nonneg_right (by omega) (by omega)
        have g2 : (L.length : Int) * 6 ^ m ≤ 12 * 6 ^ m := Int.mul_le_mul_of_nonneg_right (by omega) (by omega)
        show _ ≤ (6 : Int) ^ (m + 2)
        omega
    | j + 1, h =>
      have hj : j < (tbl L keys m).length := by rw [tbl, List.length_cons] at h; omega
      show goodE ((tbl L keys m)[j]) _ _
      obtain ⟨g1, g2, g3⟩ := ih j hj
      refine ⟨g1, ?_, by omega⟩
      rw [show m + 1 - (j + 1) = m - j by omega]
      exact g2
end Go.Proofs.YtclnjlnpconjmaaDoor.Pu
end

section
namespace Go.Proofs.YtclnjlnpconjmaaDoor.Pu
open Go.RowKit Go.Proofs.YtclnjlnpconjmaaDoor.P Go.Proofs.YtclnjlnpconjmaaDoorW.PrintWords Go.Proofs.YtclnjlnpconjmaaDoorW.PrintLast Go.Proofs.YtclnjlnpconjmaaDoorW.PrintMore
theorem rd_at (Z : List Int) (a : Int) (T : List Int) (i : Nat) (hZ : Z.length = i) : rd (Z ++ a :: T) (i : Int) = a := by
  subst hZ
  unfold rd
  rw [Int.toNat_natCast]
  simp
theorem rd_behind (Z : List Int) (a : Int) (T : List Int) (i s : Nat) (hs : 1 ≤ s) (hZ : Z.length = i) : rd (Z ++ a :: T) ((i : Int) + (s : Int)) = T.getD (s - 1) 0 := by
  subst hZ
  obtain ⟨s, rfl⟩ : ∃ t, s = t + 1 := ⟨s - 1, by omega⟩
  unfold rd
  rw [show (((Z.length : Nat) : Int) + ((s + 1 : Nat) : Int)).toNat = Z.length + (s + 1) by omega, List.getD_eq_getElem?_getD, List.getElem?_append_right (by omega)]
  rw [show Z.length + (s + 1) - Z.length = s + 1 by omega, List.getElem?_cons_succ, List.getD_eq_getElem?_getD]
  rfl
theorem set_at (Z : List Int) (a v : Int) (T : List Int) (i : Nat) (hZ : Z.length = i) : (Z ++ a :: T).set i v = Z ++ v :: T := by
  subst hZ
  simp
theorem fst_getD (tb : List (Int × Int)) (j : Nat) (h : j < tb.length) : (tb.map Prod.fst).getD j 0 = (tb.getD j (0, -1)).1 := by
  rw [List.getD_eq_getElem?_getD, List.getElem?_map, List.getElem?_eq_getElem h, getD_lt h]
  rfl
theorem snd_getD (tb : List (Int × Int)) (j : Nat) (h : j < tb.length) : (tb.map Prod.snd).getD j 0 = (tb.getD j (0, -1)).2 := by
  rw [List.getD_eq_getElem?_getD, List.getElem?_map, List.getElem?_eq_getElem h, getD_lt h]
  rfl
structure RowOk (L : List ByteArray) (keys : ByteArray) (i : Nat) (tb : List (Int × Int)) : Prop where
  len : tb.length = keys.size - i
  good : ∀ j (h : j < tb.length), ((0 < tb[j].1 ∧ 0 ≤ tb[j].2) ∨ tb[j] = (0, -1)) ∧ tb[j].1 ≤ 4000000000000000 ∧ tb[j].2 ≤ 20
theorem row_step {keys : ByteArray} {i : Nat} {tb : List (Int × Int)} {L : List ByteArray} (h : RowOk L keys i tb) (w : ByteArray) (hw : 1 ≤ w.size) (R : List ByteArray) (a b : Int) :
    rowf keys i tb (w :: R) a b = if okW keys i w = true ∧ 0 < (tb.getD (w.size - 1) (0, -1)).1 then
      rowf keys i tb R (a + (tb.getD (w.size - 1) (0, -1)).1) (if b < 0 ∨ (tb.getD (w.size - 1) (0, -1)).2 + 1 < b then (tb.getD (w.size - 1) (0, -1)).2 + 1 else b) else rowf keys i tb R a b := rfl
theorem pre_ok (keys : ByteArray) (i : Nat) (hi : i ≤ keys.size) (w : ByteArray) : Lib.hasPrefix (keys.extract i keys.size).data.toList (keysN w).data.toList = (decide (i + w.size ≤ keys.size) && ((keysN w).toList == (keys.extract i (i + w.size)).toList)) := by
  unfold Lib.hasPrefix
  rw [isPrefix_take, size_data, size_data, ByteArray.size_extract, keysN_size, Lib.toList_data, Lib.toList_data, ByteArray.data_extract, Array.toList_extract, List.extract_eq_take_drop, ByteArray.data_extract, Array.toList_extract, List.extract_eq_take_drop]
  have hn : Min.min keys.size keys.size = keys.size := Nat.min_self _
  rw [hn, decide_eq_decide.2 (show w.size ≤ keys.size - i ↔ i + w.size ≤ keys.size by omega)]
  by_cases h : i + w.size ≤ keys.size
  · rw [decide_eq_true h, Bool.true_and, Bool.true_and, List.take_take, Nat.min_eq_left (by omega), show i + w.size - i = w.size by omega]
    rw [Bool.eq_iff_iff, beq_iff_eq, beq_iff_eq]
    exact eq_comm
  · rw [decide_eq_false h, Bool.false_and, Bool.false_and]
theorem hasPre_is (s p : ByteArray) : strings_HasPrefix.f s p = some (Lib.hasPrefix s.data.toList p.data.toList) := by
  unfold strings_HasPrefix.f stringslite_HasPrefix.f Lib.hasPrefix
  rw [isPrefix_take, size_data, size_data]
  by_cases h : p.size ≤ s.size
  · rw [if_pos (by omega), if_pos (by omega), if_pos (by omega), bsome, decide_eq_true h, Bool.true_and, Int.toNat_natCast, Lib.toList_data, Lib.toList_data, ByteArray.data_extract, Array.toList_extract, List.extract_eq_take_drop, List.drop_zero, Nat.sub_zero]
  · rw [if_neg (by omega), bsome, decide_eq_false h, Bool.false_and]
theorem splits_l1 (L : List ByteArray) (hd : dictB L = true) (keys : ByteArray) (hk : keys.size ≤ 20) (i : Nat) (hi : i < keys.size) (tb : List (Int × Int)) (hT : RowOk L keys i tb) (Z Z' : List Int) (hZ : Z.length = i) (hZ' : Z'.length = i) (r : List Int × List Int)
    (hr : Ev (fun k => impl_splits.l0 k L keys (Z ++ (rowf keys i tb L 0 (-1)).1 :: tb.map Prod.fst) (Z' ++ (rowf keys i tb L 0 (-1)).2 :: tb.map Prod.snd) ((i : Int) - 1)) r) (hB : (rowf keys i tb L 0 (-1)).1 ≤ 4000000000000000) :
    ∀ (d t : Nat) (a b : Int), t + d = L.length → rowf keys i tb (L.drop t) a b = rowf keys i tb L 0 (-1) → 0 ≤ a → a ≤ 4000000000000000 → -1 ≤ b → b ≤ 21 →
      Ev (fun k => impl_splits.l1 k L keys (Z ++ a :: tb.map Prod.fst) (Z' ++ b :: tb.map Prod.snd) i L L.length t) r
  | 0, t, a, b, ht, he, ha0, ha1, hb0, hb1 => by
    obtain rfl : t = L.length := by omega
    rw [List.drop_length, rowf] at he
    rw [← he] at hr
    obtain ⟨K, hr⟩ := hr
    refine ev_from K fun k hk' => ?_
    have hr := hr k hk'
    dsimp only at hr
    simp only [impl_splits.l1]
    rw [if_neg (by omega), wr (by omega) (by omega)]
    exact hr
  | d + 1, t, a, b, ht, he, ha0, ha1, hb0, hb1 => by
    have hl := dict_length hd
    have hs := dict_short hd _ (rds_mem L t (by omega))
    have hz := short_size hs
    have hlen := hT.len
    generalize hw : rdOf ByteArray.empty L (t : Int) = w at *
    have he' := he
    rw [rds_drop L t (by omega), hw, row_step hT w hz.1] at he'
    have hks := keysN_size w
    obtain ⟨K0, e0⟩ := keysOf_ev w (by omega) (short_low hs)
    have hWl : (Z ++ a :: tb.map Prod.fst).length = keys.size + 1 := by rw [List.length_append, List.length_cons, List.length_map]; omega
    have hFl : (Z' ++ b :: tb.map Prod.snd).length = keys.size + 1 := by rw [List.length_append, List.length_cons, List.length_map]; omega
    by_cases hfit : i + w.size ≤ keys.size
    · have hj : w.size - 1 < tb.length := by omega
      by_cases heq : (keysN w).toList = (keys.extract i (i + w.size)).toList
      · have hpre : Lib.hasPrefix (keys.extract i keys.size).data.toList (keysN w).data.toList = true := by rw [pre_ok keys i (by omega) w, decide_eq_true hfit, heq, beq_self_eq_true]; rfl
        have hok : okW keys i w = true := by
          unfold okW
          rw [decide_eq_true hfit, heq, beq_self_eq_true]
          rfl
        obtain ⟨hg, hg1, hg2⟩ := hT.good (w.size - 1) hj
        rw [getD_lt hj, hok] at he'
        have hrw : rd (Z ++ a :: tb.map Prod.fst) ((i : Int) + (w.size : Int)) = tb[w.size - 1].1 := by rw [rd_behind Z a _ i w.size hz.1 hZ, fst_getD tb _ hj, getD_lt hj]
        have hrf : rd (Z' ++ b :: tb.map Prod.snd) ((i : Int) + (w.size : Int)) = tb[w.size - 1].2 := by rw [rd_behind Z' b _ i w.size hz.1 hZ', snd_getD tb _ hj, getD_lt hj]
        generalize tb[w.size - 1] = p at *
        by_cases hp : 0 < p.1
        · rw [if_pos ⟨rfl, hp⟩] at he'
          have hmono := (rowf_good keys i tb 20 (by decide) (L.drop (t + 1)) (a + p.1) (if b < 0 ∨ p.2 + 1 < b then p.2 + 1 else b) (fun x hx hok => ⟨4000000000000000, by
            have hx' := short_size (dict_short hd x (List.mem_of_mem_drop hx))
            have := (okW_size hok).1
            have hjx : x.size - 1 < tb.length := by omega
            rw [getD_lt hjx]
            exact hT.good _ hjx⟩) (Or.inl ⟨by omega, by rcases hg with h | h
                                                        · split <;> omega
                                                        · rw [h] at hp; simp at hp⟩) (by split <;> omega)).2.2
          rw [he'] at hmono
          have hp2 : 0 ≤ p.2 := by
            rcases hg with h | h
            · exact h.2
            · rw [h] at hp; simp at hp
          obtain ⟨K1, e1⟩ := splits_l1 L hd keys hk i hi tb hT Z Z' hZ hZ' r hr hB d (t + 1) (a + p.1) (if b < 0 ∨ p.2 + 1 < b then p.2 + 1 else b) (by omega) he' (by omega) (by omega) (by split <;> omega) (by split <;> omega)
          refine ev_from (K0 + K1 + 1) fun k hk' => ?_
          obtain ⟨k, rfl⟩ : ∃ m, k = m + 1 := ⟨k - 1, by omega⟩
          have e0 := e0 (k + 1) (by omega)
          have e1 := e1 k (by omega)
          rw [show ((t + 1 : Nat) : Int) = (t : Int) + 1 from rfl] at e1
          dsimp only at e0 e1
          simp only [impl_splits.l1]
          rw [if_pos (by omega), if_pos (by omega), if_pos (by omega), hw, if_pos (by omega), if_pos (by omega), Int.toNat_natCast, e0, bsome, hasPre_is, bsome, hpre, wr (x := (i : Int) + (w.size : Int)) (by omega) (by omega), if_pos rfl, if_pos (by omega), if_pos (by omega), hrf]
          simp only [impl_splits.j2]
          rw [if_pos (decide_eq_true hp2), if_pos (by omega), if_pos (by omega), if_pos (by omega), if_pos (by omega), hrw, rd_at Z a _ i hZ, Int.toNat_natCast, set_at Z a _ _ i hZ, wr (x := a + p.1) (by omega) (by omega), bsome, if_pos (by omega), rd_at Z' b _ i hZ', hrf, wr (x := p.2 + 1) (by omega) (by omega), set_at Z' b _ _ i hZ', wr (x := (t : Int) + 1) (by omega) (by omega)]
          by_cases h1 : b < 0
          · rw [if_pos h1, if_pos (by omega)]
            rw [if_pos (Or.inl h1)] at e1
            exact e1
          · rw [if_neg h1, if_pos (by omega)]
            by_cases h2 : p.2 + 1 < b
            · rw [if_pos h2]
              rw [if_pos (Or.inr h2)] at e1
              exact e1
            · rw [if_neg h2]
              rw [if_neg (fun h => h.elim h1 h2)] at e1
              exact e1
        · rw [if_neg (fun h => hp h.2)] at he'
          have hp1 : p.2 = -1 := by
            rcases hg with h | h
            · exact absurd h.1 hp
            · rw [h]
          obtain ⟨K1, e1⟩ := splits_l1 L hd keys hk i hi tb hT Z Z' hZ hZ' r hr hB d (t + 1) a b (by omega) he' ha0 ha1 hb0 hb1
          refine ev_from (K0 + K1 + 1) fun k hk' => ?_
          obtain ⟨k, rfl⟩ : ∃ m, k = m + 1 := ⟨k - 1, by omega⟩
          have e0 := e0 (k + 1) (by omega)
          have e1 := e1 k (by omega)
          rw [show ((t + 1 : Nat) : Int) = (t : Int) + 1 from rfl] at e1
          dsimp only at e0 e1
          simp only [impl_splits.l1]
          rw [if_pos (by omega), if_pos (by omega), if_pos (by omega), hw, if_pos (by omega), if_pos (by omega), Int.toNat_natCast, e0, bsome, hasPre_is, bsome, hpre, wr (x := (i : Int) + (w.size : Int)) (by omega) (by omega), if_pos rfl, if_pos (by omega), if_pos (by omega), hrf]
          simp only [impl_splits.j2]
          rw [if_neg (by rw [decide_eq_false (show ¬ p.2 ≥ 0 by rw [hp1]; decide)]; simp), wr (by omega) (by omega)]
          exact e1
      · have hpre : Lib.hasPrefix (keys.extract i keys.size).data.toList (keysN w).data.toList = false := by rw [pre_ok keys i (by omega) w, beq_eq_false_iff_ne.2 heq, Bool.and_false]
        have hok : ¬ (okW keys i w = true ∧ 0 < (tb.getD (w.size - 1) (0, -1)).1) := by
          rintro ⟨h, _⟩
          unfold okW at h
          rw [Bool.and_eq_true, beq_iff_eq] at h
          exact heq h.2
        rw [if_neg hok] at he'
        obtain ⟨K1, e1⟩ := splits_l1 L hd keys hk i hi tb hT Z Z' hZ hZ' r hr hB d (t + 1) a b (by omega) he' ha0 ha1 hb0 hb1
        refine ev_from (K0 + K1 + 1) fun k hk' => ?_
        obtain ⟨k, rfl⟩ : ∃ m, k = m + 1 := ⟨k - 1, by omega⟩
        have e0 := e0 (k + 1) (by omega)
        have e1 := e1 k (by omega)
        rw [show ((t + 1 : Nat) : Int) = (t : Int) + 1 from rfl] at e1
        dsimp only at e0 e1
        simp only [impl_splits.l1]
        rw [if_pos (by omega), if_pos (by omega), if_pos (by omega), hw, if_pos (by omega), if_pos (by omega), Int.toNat_natCast, e0, bsome, hasPre_is, bsome, hpre, wr (x := (i : Int) + (w.size : Int)) (by omega) (by omega), if_neg (by simp)]
        simp only [impl_splits.j2]
        rw [if_neg (by simp), wr (by omega) (by omega)]
        exact e1
    · have hok : ¬ (okW keys i w = true ∧ 0 < (tb.getD (w.size - 1) (0, -1)).1) := fun h => hfit (okW_size h.1).1
      have hpre : Lib.hasPrefix (keys.extract i keys.size).data.toList (keysN w).data.toList = false := by rw [pre_ok keys i (by omega) w, decide_eq_false hfit, Bool.false_and]
      rw [if_neg hok] at he'
      obtain ⟨K1, e1⟩ := splits_l1 L hd keys hk i hi tb hT Z Z' hZ hZ' r hr hB d (t + 1) a b (by omega) he' ha0 ha1 hb0 hb1
      refine ev_from (K0 + K1 + 1) fun k hk' => ?_
      obtain ⟨k, rfl⟩ : ∃ m, k = m + 1 := ⟨k - 1, by omega⟩
      have e0 := e0 (k + 1) (by omega)
      have e1 := e1 k (by omega)
      rw [show ((t + 1 : Nat) : Int) = (t : Int) + 1 from rfl] at e1
      dsimp only at e0 e1
      simp only [impl_splits.l1]
      rw [if_pos (by omega), if_pos (by omega), if_pos (by omega), hw, if_pos (by omega), if_pos (by omega), Int.toNat_natCast, e0, bsome, hasPre_is, bsome, hpre, wr (x := (i : Int) + (w.size : Int)) (by omega) (by omega), if_neg (by simp)]
      simp only [impl_splits.j2]
      rw [if_neg (by simp), wr (by omega) (by omega)]
      exact e1
theorem pow_small (m : Nat) (h : m ≤ 20) : (6 : Int) ^ m ≤ 4000000000000000 := by
  have h1 := six_mono m (20 - m)
  rw [show m + (20 - m) = 20 by omega] at h1
  have h2 : (6 : Int) ^ 20 = 3656158440062976 := by decide
  omega
theorem row_ok {L : List ByteArray} (hd : dictB L = true) (keys : ByteArray) (hk : keys.size ≤ 20) (m d : Nat) (h : m + (d + 1) = keys.size) : RowOk L keys d (tbl L keys m) := by
  refine ⟨by rw [tbl_length]; omega, fun j hj => ?_⟩
  obtain ⟨g1, g2, g3⟩ := tbl_good hd keys m (by omega) j hj
  exact ⟨g1, Int.le_trans g2 (pow_small _ (by omega)), by omega⟩
theorem row_small {L : List ByteArray} (hd : dictB L = true) (keys : ByteArray) (hk : keys.size ≤ 20) (m d : Nat) (h : m + (d + 1) = keys.size) : (rowf keys d (tbl L keys m) L 0 (-1)).1 ≤ 4000000000000000 := by
  have := (tbl_good hd keys (m + 1) (by omega) 0 (by rw [tbl_length]; omega)).2.1
  have e : (tbl L keys (m + 1))[0]'(by rw [tbl_length]; omega) = rowf keys (keys.size - (m + 1)) (tbl L keys m) L 0 (-1) := rfl
  rw [e, show keys.size - (m + 1) = d by omega] at this
  exact Int.le_trans this (pow_small _ (by omega))
theorem rep_last (d : Nat) (x : Int) (T : List Int) : List.replicate (d + 1) x ++ T = List.replicate d x ++ x :: T := by
  rw [List.replicate_succ', List.append_assoc, List.singleton_append]
theorem splits_l0 (L : List ByteArray) (hd : dictB L = true) (keys : ByteArray) (hk : keys.size ≤ 20) : ∀ (d m : Nat), m + d = keys.size →
    Ev (fun k => impl_splits.l0 k L keys (List.replicate d 0 ++ (tbl L keys m).map Prod.fst) (List.replicate d (-1) ++ (tbl L keys m).map Prod.snd) ((d : Int) - 1)) ((tbl L keys keys.size).map Prod.fst, (tbl L keys keys.size).map Prod.snd)
  | 0, m, h => by
    obtain rfl : m = keys.size := by omega
    refine ev_from 0 fun k _ => ?_
    simp only [impl_splits.l0]
    rw [if_neg (by omega)]
    rfl
  | d + 1, m, h => by
    have hr := splits_l0 L hd keys hk d (m + 1) (by omega)
    rw [tbl, show keys.size - (m + 1) = d by omega, List.map_cons, List.map_cons] at hr
    have hl := dict_length hd
    have hT := row_ok hd keys hk m d h
    obtain ⟨K, e⟩ := splits_l1 L hd keys hk d (by omega) (tbl L keys m) hT (List.replicate d 0) (List.replicate d (-1)) (by simp) (by simp) _ hr (row_small hd keys hk m d h) L.length 0 0 (-1) (by omega) (by rw [List.drop_zero]) (by omega) (by omega) (by omega) (by omega)
    refine ev_from K fun k hk' => ?_
    have e := e k hk'
    dsimp only at e
    simp only [impl_splits.l0]
    rw [show ((d + 1 : Nat) : Int) - 1 = (d : Int) by omega, if_pos (by omega), rep_last, rep_last]
    exact e
theorem splits_ev (L : List ByteArray) (hd : dictB L = true) (keys : ByteArray) (hk : keys.size ≤ 20) : Ev (fun k => impl_splits.f k L keys) ((tbl L keys keys.size).map Prod.fst, (tbl L keys keys.size).map Prod.snd) := by
  obtain ⟨K, e⟩ := splits_l0 L hd keys hk keys.size 0 (by omega)
  refine ⟨K, fun k hk' => ?_⟩
  have e := e k hk'
  dsimp only at e ⊢
  unfold impl_splits.f slices_Repeat_int_int.f
  have hs : List.replicate (keys.size + 1) (0 : Int) = List.replicate keys.size 0 ++ 0 :: [] := by rw [← rep_last, List.append_nil]
  have hs' : List.replicate (keys.size + 1) (-1 : Int) = List.replicate keys.size (-1) ++ (-1) :: [] := by rw [← rep_last, List.append_nil]
  have hrd : rd ([(-1)] : List Int) 0 = -1 := rfl
  rw [wr (x := (keys.size : Int) + 1) (by omega) (by omega), if_pos (by omega), show ((keys.size : Int) + 1).toNat = keys.size + 1 by omega, if_pos (by omega), bsome, if_pos (show ([(-1)] : List Int).length = 1 from rfl), if_pos (by omega), if_pos (by omega), hrd, bsome, if_pos (by omega), if_pos (by rw [List.length_replicate]; omega), if_pos (by rw [List.length_replicate]; omega), Int.toNat_natCast, hs, hs', set_at _ _ _ _ keys.size (by simp), set_at _ _ _ _ keys.size (by simp), wr (by omega) (by omega)]
  exact e
def headT (L : List ByteArray) (keys : ByteArray) : Int × Int := (tbl L keys keys.size).getD 0 (0, -1)
theorem head_good {L : List ByteArray} (hd : dictB L = true) (keys : ByteArray) : (0 < (headT L keys).1 ∧ 0 ≤ (headT L keys).2) ∨ headT L keys = (0, -1) := by
  have h0 : 0 < (tbl L keys keys.size).length := by rw [tbl_length]; omega
  unfold headT
  rw [getD_lt h0]
  exact (tbl_good hd keys keys.size (Nat.le_refl _) 0 h0).1
theorem head_snd (L : List ByteArray) (keys : ByteArray) : rd ((tbl L keys keys.size).map Prod.snd) 0 = (headT L keys).2 := snd_getD _ 0 (by rw [tbl_length]; omega)
end Go.Proofs.YtclnjlnpconjmaaDoor.Pu
end

section
namespace Go.Proofs.YtclnjlnpconjmaaDoor.Pu
open Go.RowKit Go.Proofs.YtclnjlnpconjmaaDoor.P Go.Proofs.YtclnjlnpconjmaaDoorW.PrintWords Go.Proofs.YtclnjlnpconjmaaDoorW.PrintLast Go.Proofs.YtclnjlnpconjmaaDoorW.PrintMore
def entT (L : List ByteArray) (keys : ByteArray) (i : Nat) : Int × Int := (tbl L keys keys.size).getD i (0, -1)
theorem tbl_shift (L : List ByteArray) (keys : ByteArray) : ∀ (d m j : Nat), (tbl L keys (m + d)).getD (d + j) (0, -1) = (tbl L keys m).getD j (0, -1)
  | 0, m, j => by rw [Nat.add_zero, Nat.zero_add]
  | d + 1, m, j => by
    rw [show m + (d + 1) = (m + d) + 1 from rfl, tbl, show d + 1 + j = (d + j) + 1 by omega, List.getD_cons_succ]
    exact tbl_shift L keys d m j
theorem ent_row (L : List ByteArray) (keys : ByteArray) (i : Nat) (hi : i < keys.size) : entT L keys i = rowf keys i (tbl L keys (keys.size - (i + 1))) L 0 (-1) := by
  unfold entT
  have h := tbl_shift L keys i (keys.size - i) 0
  rw [show keys.size - i + i = keys.size by omega, Nat.add_zero] at h
  rw [h, show keys.size - i = (keys.size - (i + 1)) + 1 by omega, tbl, List.getD_cons_zero, show keys.size - (keys.size - (i + 1) + 1) = i by omega]
theorem ent_behind (L : List ByteArray) (keys : ByteArray) (i s : Nat) (hs : 1 ≤ s) (h : i + s ≤ keys.size) : (tbl L keys (keys.size - (i + 1))).getD (s - 1) (0, -1) = entT L keys (i + s) := by
  unfold entT
  have h := tbl_shift L keys (i + 1) (keys.size - (i + 1)) (s - 1)
  rw [show keys.size - (i + 1) + (i + 1) = keys.size by omega, show i + 1 + (s - 1) = i + s by omega] at h
  exact h.symm
theorem ent_good {L : List ByteArray} (hd : dictB L = true) (keys : ByteArray) (hk : keys.size ≤ 20) (i : Nat) (hi : i ≤ keys.size) :
    ((0 < (entT L keys i).1 ∧ 0 ≤ (entT L keys i).2) ∨ entT L keys i = (0, -1)) ∧ (entT L keys i).1 ≤ 4000000000000000 ∧ (entT L keys i).2 ≤ 20 := by
  have hl : i < (tbl L keys keys.size).length := by rw [tbl_length]; omega
  obtain ⟨g1, g2, g3⟩ := tbl_good hd keys keys.size (Nat.le_refl _) i hl
  unfold entT
  rw [getD_lt hl]
  exact ⟨g1, Int.le_trans g2 (pow_small _ (by omega)), by omega⟩
theorem rowf_pick (keys : ByteArray) (i : Nat) (tb : List (Int × Int)) : ∀ (R : List ByteArray) (a b : Int), (∀ w ∈ R, okW keys i w = true → 0 < (tb.getD (w.size - 1) (0, -1)).1 → 0 ≤ (tb.getD (w.size - 1) (0, -1)).2) →
    rowf keys i tb R a b = (a, b) ∨ ((rowf keys i tb R a b).2 = b ∧ 0 ≤ b) ∨ ∃ w ∈ R, okW keys i w = true ∧ 0 < (tb.getD (w.size - 1) (0, -1)).1 ∧ (tb.getD (w.size - 1) (0, -1)).2 + 1 = (rowf keys i tb R a b).2
  | [], a, b, _ => Or.inl rfl
  | w :: R, a, b, h => by
    rw [rowf]
    split
    · rename_i hc
      have hp := h w List.mem_cons_self hc.1 hc.2
      have ih := rowf_pick keys i tb R (a + (tb.getD (w.size - 1) (0, -1)).1) (if b < 0 ∨ (tb.getD (w.size - 1) (0, -1)).2 + 1 < b then (tb.getD (w.size - 1) (0, -1)).2 + 1 else b) (fun x hx => h x (List.mem_cons_of_mem w hx))
      generalize rowf keys i tb R (a + (tb.getD (w.size - 1) (0, -1)).1) (if b < 0 ∨ (tb.getD (w.size - 1) (0, -1)).2 + 1 < b then (tb.getD (w.size - 1) (0, -1)).2 + 1 else b) = r at *
      have key : r.2 = (if b < 0 ∨ (tb.getD (w.size - 1) (0, -1)).2 + 1 < b then (tb.getD (w.size - 1) (0, -1)).2 + 1 else b) → (r.2 = b ∧ 0 ≤ b) ∨ ∃ x ∈ w :: R, okW keys i x = true ∧ 0 < (tb.getD (x.size - 1) (0, -1)).1 ∧ (tb.getD (x.size - 1) (0, -1)).2 + 1 = r.2 := by
        intro hr
        by_cases hb : b < 0 ∨ (tb.getD (w.size - 1) (0, -1)).2 + 1 < b
        · rw [if_pos hb] at hr
          exact Or.inr ⟨w, List.mem_cons_self, hc.1, hc.2, hr.symm⟩
        · rw [if_neg hb] at hr
          exact Or.inl ⟨hr, by omega⟩
      rcases ih with e | ⟨e, _⟩ | ⟨x, hx, h1, h2, h3⟩
      · exact Or.inr (key (by rw [e]))
      · exact Or.inr (key e)
      · exact Or.inr (Or.inr ⟨x, List.mem_cons_of_mem w hx, h1, h2, h3⟩)
    · rcases rowf_pick keys i tb R a b (fun x hx => h x (List.mem_cons_of_mem w hx)) with e | e | ⟨x, hx, h1⟩
      · exact Or.inl e
      · exact Or.inr (Or.inl e)
      · exact Or.inr (Or.inr ⟨x, List.mem_cons_of_mem w hx, h1⟩)
def goodW (L : List ByteArray) (keys : ByteArray) (few : Bool) (i : Nat) (w : ByteArray) : Bool := okW keys i w && (decide (0 < (entT L keys (i + w.size)).1) && (!few || decide ((entT L keys (i + w.size)).2 + 1 = (entT L keys i).2)))
theorem find_good {L : List ByteArray} (hd : dictB L = true) (keys : ByteArray) (hk : keys.size ≤ 20) (few : Bool) (i : Nat) (hi : i < keys.size) (hp : 0 < (entT L keys i).1) : ∃ w, L.find? (goodW L keys few i) = some w := by
  have hb : ∀ w ∈ L, okW keys i w = true → 1 ≤ w.size ∧ (tbl L keys (keys.size - (i + 1))).getD (w.size - 1) (0, -1) = entT L keys (i + w.size) := fun w hw ho => by
    have h1 := (okW_size ho).1
    have h2 := (short_size (dict_short hd w hw)).1
    exact ⟨h2, ent_behind L keys i w.size h2 h1⟩
  have hpk := rowf_pick keys i (tbl L keys (keys.size - (i + 1))) L 0 (-1) (fun w hw ho hpos => by
    have h1 := (okW_size ho).1
    rw [(hb w hw ho).2] at hpos ⊢
    rcases (ent_good hd keys hk (i + w.size) h1).1 with h | h
    · exact h.2
    · rw [h] at hpos; simp at hpos)
  rw [← ent_row L keys i hi] at hpk
  have hex : ∃ w ∈ L, goodW L keys few i w = true := by
    rcases hpk with e | ⟨_, e⟩ | ⟨w, hw, h1, h2, h3⟩
    · rw [e] at hp; simp at hp
    · omega
    · rw [(hb w hw h1).2] at h2 h3
      refine ⟨w, hw, ?_⟩
      unfold goodW
      rw [h1, decide_eq_true h2, decide_eq_true h3, Bool.or_true]
      rfl
  cases hf : L.find? (goodW L keys few i) with
  | some w => exact ⟨w, rfl⟩
  | none =>
    obtain ⟨w, hw, h⟩ := hex
    exact absurd h (by simpa using List.find?_eq_none.1 hf w hw)
theorem good_of {L : List ByteArray} {keys : ByteArray} {few : Bool} {i : Nat} {w : ByteArray} (h : L.find? (goodW L keys few i) = some w) : w ∈ L ∧ okW keys i w = true ∧ 0 < (entT L keys (i + w.size)).1 := by
  have h1 := List.find?_some h
  unfold goodW at h1
  simp only [Bool.and_eq_true, decide_eq_true_eq] at h1
  exact ⟨List.mem_of_find?_eq_some h, h1.1, h1.2.1⟩
end Go.Proofs.YtclnjlnpconjmaaDoor.Pu
end

section
namespace Go.Proofs.YtclnjlnpconjmaaDoor.Pu
open Go.RowKit Go.Proofs.YtclnjlnpconjmaaDoor.P Go.Proofs.YtclnjlnpconjmaaDoorW.PrintWords Go.Proofs.YtclnjlnpconjmaaDoorW.PrintLast Go.Proofs.YtclnjlnpconjmaaDoorW.PrintMore
inductive RT (L : List ByteArray) (keys : ByteArray) : Nat → Prop
  | zero : RT L keys 0
  | step (i : Nat) (w : ByteArray) : RT L keys i → w ∈ L → okW keys i w = true → RT L keys (i + w.size)
theorem RT_cases {L : List ByteArray} {keys : ByteArray} {j : Nat} (h : RT L keys j) : j = 0 ∨ ∃ i w, RT L keys i ∧ w ∈ L ∧ okW keys i w = true ∧ i + w.size = j := by
  cases h with
  | zero => exact Or.inl rfl
  | step i w h1 h2 h3 => exact Or.inr ⟨i, w, h1, h2, h3, rfl⟩
theorem rowf_ge (keys : ByteArray) (i : Nat) (tb : List (Int × Int)) : ∀ (R : List ByteArray) (a b : Int), a ≤ (rowf keys i tb R a b).1
  | [], a, b => Int.le_refl _
  | w :: R, a, b => by
    rw [rowf]
    split
    · rename_i hc
      have h1 := hc.2
      have h2 := rowf_ge keys i tb R (a + (tb.getD (w.size - 1) (0, -1)).1) (if b < 0 ∨ (tb.getD (w.size - 1) (0, -1)).2 + 1 < b then (tb.getD (w.size - 1) (0, -1)).2 + 1 else b)
      omega
    · exact rowf_ge keys i tb R a b
theorem rowf_pos (keys : ByteArray) (i : Nat) (tb : List (Int × Int)) : ∀ (R : List ByteArray) (a b : Int), 0 ≤ a → (∃ w ∈ R, okW keys i w = true ∧ 0 < (tb.getD (w.size - 1) (0, -1)).1) → 0 < (rowf keys i tb R a b).1
  | [], a, b, _, h => by obtain ⟨w, hw, _⟩ := h; cases hw
  | x :: R, a, b, ha, ⟨w, hw, h1, h2⟩ => by
    rw [rowf]
    split
    · rename_i hc
      have h3 := hc.2
      have h4 := rowf_ge keys i tb R (a + (tb.getD (x.size - 1) (0, -1)).1) (if b < 0 ∨ (tb.getD (x.size - 1) (0, -1)).2 + 1 < b then (tb.getD (x.size - 1) (0, -1)).2 + 1 else b)
      omega
    · rename_i hc
      rcases List.mem_cons.1 hw with rfl | hw
      · exact absurd ⟨h1, h2⟩ hc
      · exact rowf_pos keys i tb R a b ha ⟨w, hw, h1, h2⟩
theorem ent_end (L : List ByteArray) (keys : ByteArray) : 0 < (entT L keys keys.size).1 := by
  unfold entT
  have h := tbl_shift L keys keys.size 0 0
  rw [Nat.zero_add, Nat.add_zero] at h
  rw [h]
  show (0 : Int) < 1
  decide
theorem ent_step {L : List ByteArray} (hd : dictB L = true) (keys : ByteArray) (i : Nat) (w : ByteArray) (hw : w ∈ L) (ho : okW keys i w = true) (hp : 0 < (entT L keys (i + w.size)).1) : 0 < (entT L keys i).1 := by
  have h1 := (okW_size ho).1
  have h2 := (short_size (dict_short hd w hw)).1
  rw [ent_row L keys i (by omega)]
  exact rowf_pos keys i _ L 0 (-1) (by decide) ⟨w, hw, ho, by rw [ent_behind L keys i w.size h2 h1]; exact hp⟩
theorem extract_pre (keys : ByteArray) (m i s : Nat) (h : i + s ≤ m) : (keys.extract 0 m).extract i (i + s) = keys.extract i (i + s) := by
  apply ByteArray.ext
  rw [ByteArray.data_extract, ByteArray.data_extract, ByteArray.data_extract, Array.extract_extract]
  congr 1 <;> omega
theorem size_pre (keys : ByteArray) (m : Nat) (h : m ≤ keys.size) : (keys.extract 0 m).size = m := by
  rw [ByteArray.size_extract]
  omega
theorem ok_pre (keys : ByteArray) (m : Nat) (h : m ≤ keys.size) (i : Nat) (w : ByteArray) : okW (keys.extract 0 m) i w = true ↔ (i + w.size ≤ m ∧ okW keys i w = true) := by
  unfold okW
  rw [size_pre keys m h]
  by_cases hf : i + w.size ≤ m
  · rw [extract_pre keys m i w.size hf, decide_eq_true hf, decide_eq_true (show i + w.size ≤ keys.size by omega)]
    simp [hf]
  · rw [decide_eq_false hf]
    simp [hf]
def G (L : List ByteArray) (keys : ByteArray) (m : Nat) : Bool := decide (0 < (headT L (keys.extract 0 m)).1)
theorem reach_fwd {L : List ByteArray} (hd : dictB L = true) (keys : ByteArray) (hk : keys.size ≤ 20) (m : Nat) (hm : m ≤ keys.size) : ∀ (d i : Nat), i + d = m → 0 < (entT L (keys.extract 0 m) i).1 → RT L keys i → RT L keys m := by
  intro d
  induction d using Nat.strongRecOn with
  | _ d ih =>
    intro i hi hp hr
    by_cases hlt : i < m
    · obtain ⟨w, hw⟩ := find_good hd (keys.extract 0 m) (by rw [size_pre keys m hm]; omega) false i (by rw [size_pre keys m hm]; exact hlt) hp
      obtain ⟨g1, g2, g3⟩ := good_of hw
      have hz := short_size (dict_short hd w g1)
      obtain ⟨hf, ho⟩ := (ok_pre keys m hm i w).1 g2
      exact ih (m - (i + w.size)) (by omega) (i + w.size) (by omega) g3 (RT.step i w hr g1 ho)
    · obtain rfl : i = m := by omega
      exact hr
theorem reach_back {L : List ByteArray} (hd : dictB L = true) (keys : ByteArray) (m : Nat) (hm : m ≤ keys.size) : ∀ (j : Nat), RT L keys j → j ≤ m → 0 < (entT L (keys.extract 0 m) j).1 → 0 < (entT L (keys.extract 0 m) 0).1 := by
  intro j h
  induction h with
  | zero => intro _ hp; exact hp
  | step i w hr hw ho ih =>
    intro hj hp
    have hz := short_size (dict_short hd w hw)
    exact ih (by omega) (ent_step hd _ i w hw ((ok_pre keys m hm i w).2 ⟨hj, ho⟩) hp)
theorem G_iff {L : List ByteArray} (hd : dictB L = true) (keys : ByteArray) (hk : keys.size ≤ 20) (m : Nat) (hm : m ≤ keys.size) : G L keys m = true ↔ RT L keys m := by
  unfold G
  rw [decide_eq_true_eq]
  constructor
  · intro h
    exact reach_fwd hd keys hk m hm m 0 (by omega) h RT.zero
  · intro h
    refine reach_back hd keys m hm m h (Nat.le_refl _) ?_
    have := ent_end L (keys.extract 0 m)
    rwa [size_pre keys m hm] at this
def lgZ (L : List ByteArray) (keys : ByteArray) : Nat → Int
  | 0 => 0
  | t + 1 => if G L keys t = true then (t : Int) else lgZ L keys t
theorem G_zero {L : List ByteArray} (hd : dictB L = true) (keys : ByteArray) (hk : keys.size ≤ 20) : G L keys 0 = true := (G_iff hd keys hk 0 (Nat.zero_le _)).2 RT.zero
theorem longI_l0 (L : List ByteArray) (hd : dictB L = true) (keys : ByteArray) (hk : keys.size ≤ 20) : ∀ (m : Nat), m ≤ keys.size → Ev (fun k => impl_LongestSplit.l0 k L keys (m : Int)) (lgZ L keys (m + 1), true) := by
  intro m
  induction m with
  | zero =>
    intro hm
    obtain ⟨K, e⟩ := splits_ev L hd (keys.extract 0 0) (by rw [size_pre keys 0 hm]; omega)
    refine ev_from K fun k hk' => ?_
    have e := e k hk'
    dsimp only at e
    have hg := G_zero hd keys hk
    have hp := hg
    unfold G at hp
    rw [decide_eq_true_eq] at hp
    simp only [impl_LongestSplit.l0]
    rw [if_pos (by omega), if_pos (by omega), Int.toNat_natCast, e, bsome, if_pos (by rw [List.length_map, tbl_length]; omega), head_snd]
    rcases head_good hd (keys.extract 0 0) with h | h
    · rw [if_pos (by omega), lgZ, if_pos hg]
    · rw [h] at hp; simp at hp
  | succ m ih =>
    intro hm
    obtain ⟨K1, e1⟩ := splits_ev L hd (keys.extract 0 (m + 1)) (by rw [size_pre keys (m + 1) hm]; omega)
    obtain ⟨K2, e2⟩ := ih (by omega)
    refine ev_from (K1 + K2) fun k hk' => ?_
    have e1 := e1 k (by omega)
    have e2 := e2 k (by omega)
    dsimp only at e1 e2
    simp only [impl_LongestSplit.l0]
    rw [if_pos (by omega), if_pos (by omega), Int.toNat_natCast, e1, bsome, if_pos (by rw [List.length_map, tbl_length]; omega), head_snd, lgZ]
    rcases head_good hd (keys.extract 0 (m + 1)) with h | h
    · have hg : G L keys (m + 1) = true := decide_eq_true h.1
      rw [if_pos (by omega), if_pos hg]
    · have hg : G L keys (m + 1) = false := decide_eq_false (by rw [h]; decide)
      rw [h, if_neg (by decide), hg, if_neg (by simp), show ((m + 1 : Nat) : Int) - 1 = (m : Int) by omega, wr (by omega) (by omega)]
      exact e2
def stF (keys : ByteArray) (i : Nat) (can : List Bool) (x : ByteArray) : List Bool := if rdOf false can (i : Int) = true ∧ okW keys i x = true then can.set (i + x.size) true else can
theorem stF_length (keys : ByteArray) (i : Nat) (can : List Bool) (x : ByteArray) : (stF keys i can x).length = can.length := by
  unfold stF
  split
  · rw [List.length_set]
  · rfl
theorem fold_length (keys : ByteArray) (i : Nat) : ∀ (R : List ByteArray) (can : List Bool), (R.foldl (stF keys i) can).length = can.length
  | [], _ => rfl
  | x :: R, can => by rw [List.foldl_cons, fold_length keys i R, stF_length]
theorem st_ev (L : List ByteArray) (hd : dictB L = true) (keys : ByteArray) (hk : keys.size ≤ 20) (i : Nat) (hi : i < keys.size) (can : List Bool) (hc : can.length = keys.size + 1) (x : ByteArray) (hx : x ∈ L) : Ev (fun k => spec_LongestSplit.st k keys i can x) (stF keys i can x) := by
  have hs := dict_short hd x hx
  have hz := short_size hs
  obtain ⟨K0, e0⟩ := prKeys_ev x (by omega) (short_low hs)
  refine ⟨K0, fun k hk' => ?_⟩
  have e0 := e0 k hk'
  dsimp only at e0 ⊢
  unfold spec_LongestSplit.st stF
  by_cases hb : rdOf false can (i : Int) = true
  · rw [if_pos hb, wr (x := (i : Int) + (x.size : Int)) (by omega) (by omega)]
    by_cases hf : i + x.size ≤ keys.size
    · rw [if_pos (by omega), e0, bsome, if_pos (by omega), if_pos (by omega), show ((i : Int) + (x.size : Int)).toNat = i + x.size by omega]
      by_cases he : (keysN x).toList = (keys.extract i (i + x.size)).toList
      · have ho : okW keys i x = true := by
          unfold okW
          rw [decide_eq_true hf, he, beq_self_eq_true]
          rfl
        rw [if_pos he, if_pos ⟨hb, ho⟩]
      · have ho : okW keys i x = false := by
          unfold okW
          rw [beq_eq_false_iff_ne.2 he, Bool.and_false]
        rw [if_neg he, if_neg (fun h => by rw [ho] at h; cases h.2)]
    · have ho : okW keys i x = false := by
        unfold okW
        rw [decide_eq_false hf, Bool.false_and]
      rw [if_neg (by omega), if_neg (fun h => by rw [ho] at h; cases h.2)]
  · rw [if_neg hb, if_neg (fun h => hb h.1)]
theorem stL_ev (L : List ByteArray) (hd : dictB L = true) (keys : ByteArray) (hk : keys.size ≤ 20) (i : Nat) (hi : i < keys.size) : ∀ (R : List ByteArray), (∀ x ∈ R, x ∈ L) → ∀ (can : List Bool), can.length = keys.size + 1 → Ev (fun k => spec_LongestSplit.stL k keys i R can) (R.foldl (stF keys i) can)
  | [], _, can, _ => ⟨0, fun k _ => rfl⟩
  | x :: R, h, can, hc => by
    obtain ⟨K1, e1⟩ := st_ev L hd keys hk i hi can hc x (h x List.mem_cons_self)
    obtain ⟨K2, e2⟩ := stL_ev L hd keys hk i hi R (fun y hy => h y (List.mem_cons_of_mem x hy)) (stF keys i can x) (by rw [stF_length]; exact hc)
    refine ⟨K1 + K2, fun k hk' => ?_⟩
    have e1 := e1 k (by omega)
    have e2 := e2 k (by omega)
    dsimp only at e1 e2 ⊢
    rw [spec_LongestSplit.stL, e1, bsome, e2, List.foldl_cons]
def ouF (L : List ByteArray) (keys : ByteArray) : Nat → Nat → List Bool → List Bool
  | 0, _, can => can
  | d + 1, i, can => ouF L keys d (i + 1) (L.foldl (stF keys i) can)
theorem ouL_ev (L : List ByteArray) (hd : dictB L = true) (keys : ByteArray) (hk : keys.size ≤ 20) : ∀ (d i : Nat) (can : List Bool), i + d = keys.size → can.length = keys.size + 1 → Ev (fun k => spec_LongestSplit.ouL k L keys d i can) (ouF L keys d i can)
  | 0, i, can, _, _ => ⟨0, fun k _ => rfl⟩
  | d + 1, i, can, hi, hc => by
    obtain ⟨K1, e1⟩ := stL_ev L hd keys hk i (by omega) L (fun x hx => hx) can hc
    obtain ⟨K2, e2⟩ := ouL_ev L hd keys hk d (i + 1) (L.foldl (stF keys i) can) (by omega) (by rw [fold_length]; exact hc)
    refine ⟨K1 + K2, fun k hk' => ?_⟩
    have e1 := e1 k (by omega)
    have e2 := e2 k (by omega)
    dsimp only at e1 e2 ⊢
    rw [spec_LongestSplit.ouL, e1, bsome, e2, ouF]
theorem rdb_set (l : List Bool) (m j : Nat) (hm : m < l.length) : rdOf false (l.set m true) (j : Int) = if j = m then true else rdOf false l (j : Int) := by
  unfold rdOf
  rw [Int.toNat_natCast, List.getD_eq_getElem?_getD, List.getD_eq_getElem?_getD, List.getElem?_set]
  by_cases h : j = m
  · subst h
    rw [if_pos rfl, if_pos rfl, if_pos hm]
    rfl
  · rw [if_neg (fun e => h e.symm), if_neg h]
theorem stF_iff {keys : ByteArray} {i : Nat} {can : List Bool} {x : ByteArray} (hc : can.length = keys.size + 1) (hx : 1 ≤ x.size) (j : Nat) :
    (rdOf false (stF keys i can x) (j : Int) = true ↔ rdOf false can (j : Int) = true ∨ (rdOf false can (i : Int) = true ∧ okW keys i x = true ∧ i + x.size = j)) := by
  unfold stF
  by_cases h : rdOf false can (i : Int) = true ∧ okW keys i x = true
  · rw [if_pos h, rdb_set can _ j (by have := (okW_size h.2).1; omega)]
    by_cases hj : j = i + x.size
    · rw [if_pos hj]
      exact ⟨fun _ => Or.inr ⟨h.1, h.2, hj.symm⟩, fun _ => rfl⟩
    · rw [if_neg hj]
      exact ⟨Or.inl, fun h' => h'.elim id (fun h' => absurd h'.2.2.symm hj)⟩
  · rw [if_neg h]
    exact ⟨Or.inl, fun h' => h'.elim id (fun h' => absurd ⟨h'.1, h'.2.1⟩ h)⟩
theorem fold_iff {keys : ByteArray} {i : Nat} : ∀ (R : List ByteArray) (can : List Bool), can.length = keys.size + 1 → (∀ x ∈ R, 1 ≤ x.size) → ∀ (j : Nat),
    (rdOf false (R.foldl (stF keys i) can) (j : Int) = true ↔ rdOf false can (j : Int) = true ∨ (rdOf false can (i : Int) = true ∧ ∃ w ∈ R, okW keys i w = true ∧ i + w.size = j))
  | [], can, _, _, j => by simp
  | x :: R, can, hc, hx, j => by
    have h1 := hx x List.mem_cons_self
    have ih := fold_iff (keys := keys) (i := i) R (stF keys i can x) (by rw [stF_length]; exact hc) (fun y hy => hx y (List.mem_cons_of_mem x hy)) j
    have hi := stF_iff (keys := keys) (i := i) hc h1 i
    have hj := stF_iff (keys := keys) (i := i) hc h1 j
    rw [List.foldl_cons, ih, hj, hi]
    constructor
    · rintro ((h | ⟨a, b, c⟩) | ⟨h, w, hw, b, c⟩)
      · exact Or.inl h
      · exact Or.inr ⟨a, x, List.mem_cons_self, b, c⟩
      · rcases h with h | ⟨_, _, h⟩
        · exact Or.inr ⟨h, w, List.mem_cons_of_mem x hw, b, c⟩
        · omega
    · rintro (h | ⟨a, w, hw, b, c⟩)
      · exact Or.inl (Or.inl h)
      · rcases List.mem_cons.1 hw with rfl | hw
        · exact Or.inl (Or.inr ⟨a, b, c⟩)
        · exact Or.inr ⟨Or.inl a, w, hw, b, c⟩
theorem ouF_iff {L : List ByteArray} (hd : dictB L = true) (keys : ByteArray) : ∀ (d i : Nat) (can : List Bool), i + d = keys.size → can.length = keys.size + 1 →
    (∀ j, j ≤ keys.size → (rdOf false can (j : Int) = true ↔ j = 0 ∨ ∃ a w, a < i ∧ RT L keys a ∧ w ∈ L ∧ okW keys a w = true ∧ a + w.size = j)) →
    (ouF L keys d i can).length = keys.size + 1 ∧ ∀ j, j ≤ keys.size → (rdOf false (ouF L keys d i can) (j : Int) = true ↔ RT L keys j)
  | 0, i, can, hi, hc, h => by
    refine ⟨hc, fun j hj => ?_⟩
    rw [ouF, h j hj]
    constructor
    · rintro (rfl | ⟨a, w, _, h1, h2, h3, rfl⟩)
      · exact RT.zero
      · exact RT.step a w h1 h2 h3
    · intro hr
      rcases RT_cases hr with h0 | ⟨a, w, h1, h2, h3, h4⟩
      · exact Or.inl h0
      · have := (short_size (dict_short hd w h2)).1
        exact Or.inr ⟨a, w, by omega, h1, h2, h3, h4⟩
  | d + 1, i, can, hi, hc, h => by
    rw [ouF]
    refine ouF_iff hd keys d (i + 1) _ (by omega) (by rw [fold_length]; exact hc) (fun j hj => ?_)
    have hI : rdOf false can (i : Int) = true ↔ RT L keys i := by
      rw [h i (by omega)]
      constructor
      · rintro (rfl | ⟨a, w, _, h1, h2, h3, rfl⟩)
        · exact RT.zero
        · exact RT.step a w h1 h2 h3
      · intro hr
        rcases RT_cases hr with h0 | ⟨a, w, h1, h2, h3, h4⟩
        · exact Or.inl h0
        · have := (short_size (dict_short hd w h2)).1
          exact Or.inr ⟨a, w, by omega, h1, h2, h3, h4⟩
    rw [fold_iff L can hc (fun x hx => (short_size (dict_short hd x hx)).1) j, h j hj, hI]
    constructor
    · rintro ((h0 | ⟨a, w, h0, h1, h2, h3, h4⟩) | ⟨h1, w, h2, h3, h4⟩)
      · exact Or.inl h0
      · exact Or.inr ⟨a, w, by omega, h1, h2, h3, h4⟩
      · exact Or.inr ⟨i, w, by omega, h1, h2, h3, h4⟩
    · rintro (h0 | ⟨a, w, h0, h1, h2, h3, h4⟩)
      · exact Or.inl (Or.inl h0)
      · by_cases ha : a < i
        · exact Or.inl (Or.inr ⟨a, w, ha, h1, h2, h3, h4⟩)
        · obtain rfl : a = i := by omega
          exact Or.inr ⟨h1, w, h2, h3, h4⟩
theorem lastT_lgZ {L : List ByteArray} {keys : ByteArray} {can : List Bool} (h : ∀ j, j < can.length → rdOf false can (j : Int) = G L keys j) : ∀ (d t : Nat), t + d = can.length → spec_LongestSplit.lastT (can.drop t) t (lgZ L keys t) = lgZ L keys can.length
  | 0, t, ht => by
    obtain rfl : t = can.length := by omega
    rw [List.drop_length]
    rfl
  | d + 1, t, ht => by
    have ih := lastT_lgZ h d (t + 1) (by omega)
    rw [spec_LongestSplit.drop_rdb can t (by omega), spec_LongestSplit.lastT, h t (by omega)]
    rw [lgZ] at ih
    exact ih
theorem ascii_keys {keys : ByteArray} (h : ∀ c ∈ bytesOf keys, 50 ≤ c ∧ c ≤ 57) : spec_LongestSplit.ascii keys = true := by
  unfold spec_LongestSplit.ascii
  rw [List.all_eq_true]
  intro b hb
  have := h (b.toNat : Int) (by unfold bytesOf; exact List.mem_map_of_mem hb)
  rw [decide_eq_true_eq]
  omega
theorem asked_bytes {L : List ByteArray} {keys : ByteArray} (h : askedB L keys = true) : ∀ c ∈ bytesOf keys, 50 ≤ c ∧ c ≤ 57 := by
  unfold askedB at h
  rw [Bool.and_eq_true, Bool.and_eq_true] at h
  exact (keysB_iff.1 h.2.1).2
def longT (L : List ByteArray) (keys : ByteArray) : Int × Bool := if askedB L keys = true then (lgZ L keys (keys.size + 1), true) else (0, false)
theorem longI_ev (L : List ByteArray) (hl : L.length ≤ 1099511627776) (hL : ∀ x ∈ L, x.size ≤ 140737488351232) (keys : ByteArray) (hk : keys.size ≤ 140737488351232) : Ev (fun k => impl_LongestSplit.f k L keys) (longT L keys) := by
  obtain ⟨K1, e1⟩ := splitOk_ev L hl hL keys hk
  unfold longT
  cases hb : askedB L keys with
  | false => exact ⟨K1, fun k hk' => by have e1 := e1 k hk'; rw [hb] at e1; dsimp only at e1 ⊢; unfold impl_LongestSplit.f; rw [e1, bsome]; rfl⟩
  | true =>
    obtain ⟨hd, hz⟩ := askedB_iff hb
    obtain ⟨K2, e2⟩ := longI_l0 L hd keys hz keys.size (Nat.le_refl _)
    refine ⟨K1 + K2, fun k hk' => ?_⟩
    have e1 := e1 k (by omega)
    have e2 := e2 k (by omega)
    rw [hb] at e1
    dsimp only at e1 e2 ⊢
    unfold impl_LongestSplit.f
    rw [e1, bsome, if_pos rfl, if_pos rfl]
    exact e2
theorem longS_ev (L : List ByteArray) (hl : L.length ≤ 1099511627776) (hL : ∀ x ∈ L, x.size ≤ 140737488351232) (keys : ByteArray) (hk : keys.size ≤ 140737488351232) : Ev (fun k => spec_LongestSplit.f k L keys) (longT L keys) := by
  obtain ⟨K1, e1⟩ := wdAsked_ev L hl hL keys hk
  unfold longT
  cases hb : askedB L keys with
  | false => exact ⟨K1, fun k hk' => by have e1 := e1 k hk'; rw [hb] at e1; dsimp only at e1 ⊢; unfold spec_LongestSplit.f; rw [e1, bsome]; rfl⟩
  | true =>
    obtain ⟨hd, hz⟩ := askedB_iff hb
    have hdl := dict_length hd
    have hcl : (true :: List.replicate keys.size false).length = keys.size + 1 := by rw [List.length_cons, List.length_replicate]
    obtain ⟨K2, e2⟩ := ouL_ev L hd keys hz keys.size 0 (true :: List.replicate keys.size false) (by omega) hcl
    obtain ⟨g1, g2⟩ := ouF_iff hd keys keys.size 0 (true :: List.replicate keys.size false) (by omega) hcl (fun j hj => by
      constructor
      · intro h
        cases j with
        | zero => exact Or.inl rfl
        | succ j =>
          exfalso
          unfold rdOf at h
          rw [Int.toNat_natCast, List.getD_cons_succ, List.getD_eq_getElem?_getD, List.getElem?_replicate] at h
          split at h <;> simp at h
      · rintro (rfl | ⟨a, w, h0, _⟩)
        · rfl
        · omega)
    have hlast := lastT_lgZ (L := L) (keys := keys) (can := ouF L keys keys.size 0 (true :: List.replicate keys.size false)) (fun j hj => by
      rw [g1] at hj
      rw [Bool.eq_iff_iff, g2 j (by omega), G_iff hd keys hz j (by omega)]) (keys.size + 1) 0 (by rw [g1]; omega)
    rw [List.drop_zero, g1, show lgZ L keys 0 = 0 from rfl] at hlast
    refine ⟨K1 + K2, fun k hk' => ?_⟩
    have e1 := e1 k (by omega)
    have e2 := e2 k (by omega)
    rw [hb] at e1
    dsimp only at e1 e2 ⊢
    unfold spec_LongestSplit.f
    rw [e1, bsome, if_pos rfl, if_pos (ascii_keys (asked_bytes hb)), if_pos (by omega), if_pos (by omega), if_pos (by omega), e2, bsome, hlast, if_pos rfl]
end Go.Proofs.YtclnjlnpconjmaaDoor.Pu
end

section
namespace Go.Proofs.YtclnjlnpconjmaaDoor.Pure
open Go.RowKit Go.Proofs.YtclnjlnpconjmaaDoor.P Go.Proofs.YtclnjlnpconjmaaDoor.Pu Go.Proofs.YtclnjlnpconjmaaDoorW.PrintWords Go.Proofs.YtclnjlnpconjmaaDoorW.PrintLast
theorem FnExactLongestSplit : laws_FnExactLongestSplit.Pure := by
  intro L keys _ hl hL _
  by_cases hz : (keys.size : Int) > 1048576
  · exact ⟨0, by unfold laws_FnExactLongestSplit.f; rw [if_pos hz]⟩
  obtain ⟨r, ⟨K1, h1⟩, hr⟩ := szS_ev L (by omega) hL
  rcases hr with hr | ⟨hn, hx⟩
  · refine ⟨K1, ?_⟩
    have e1 := h1 K1 (Nat.le_refl _)
    dsimp only at e1
    unfold laws_FnExactLongestSplit.f
    rw [if_neg hz, e1, bsome, if_pos hr]
  · have hx' : ∀ x ∈ L, x.size ≤ 140737488351232 := fun x h => by have := hx x h; omega
    obtain ⟨K2, h2⟩ := toS_ev L hn
    obtain ⟨K3, h3⟩ := longS_ev L (by omega) hx' keys (by omega)
    obtain ⟨K4, h4⟩ := longI_ev L (by omega) hx' keys (by omega)
    obtain ⟨K5, h5⟩ := eqS_ev L (by omega)
    generalize hK : K1 + K2 + K3 + K4 + K5 = K
    refine ⟨K + 1, ?_⟩
    have a1 := h1 (K + 1) (by omega)
    have a2 := h2 (K + 1) (by omega)
    have b2 := h2 K (by omega)
    have a3 := h3 (K + 1) (by omega)
    have a4 := h4 (K + 1) (by omega)
    have b5 := h5 K (by omega)
    dsimp only at a1 a2 b2 a3 a4 b5
    unfold laws_FnExactLongestSplit.f
    rw [if_neg hz, a1, bsome]
    by_cases h0 : r < 0
    · rw [if_pos h0]
    · rw [if_neg h0, a2, bsome, a3, bsome, bsome, a4, bsome, if_pos rfl]
      simp only [laws_FnExactLongestSplit.j0]
      rw [if_neg (by simp), b2, bsome, b5, bsome, if_pos rfl]
end Go.Proofs.YtclnjlnpconjmaaDoor.Pure
end

