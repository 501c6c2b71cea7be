/- Parts of the proof (printed walks, lemmas of our own, contracts of the library laid for this program), merged into one text by wip/mclaim.py. Conditions: each theorem's own. -/
import Derived.Test.YthnjmokaiiajmaaDoorM0
import Derived.Test.YthnjmokaiiajmaaDoorM2
import Derived.Test.YthnjmokaiiajmaaDoorM1
import Derived.Lib.SlTrimSet
namespace Go.Proofs.YthnjmokaiiajmaaDoor.P
open Go.RowKit Go.Proofs.YthnjmokaiiajmaaDoorW.PrintWords Go.Proofs.YthnjmokaiiajmaaDoorW.PrintLast Go.Proofs.YthnjmokaiiajmaaDoorW.PrintMore
attribute [local go_sem] max2_int min2_int max_two min_two max_three min_three max_four min_four   -- for this text's walks alone
set_option linter.unusedVariables false
set_option linter.unusedSimpArgs false

/-! ### impl_thumbsOk: function 21 -/
def impl_thumbsOk.j0 : Nat → ByteArray → ByteArray → Bool → Option (Int × Int × Bool)
  | 0, _, _, _ => none
  | k + 1, x1, x2, x20 => if x20 = true then (some (0, 0, false)) else (if 0 < (x1.size : Int) then ((impl_place.f (bt x1 0)).bind fun t132 => (if 0 < (x2.size : Int) then ((impl_place.f (bt x2 0)).bind fun t133 => (some (t132, t133, true))) else (none))) else (none))
def impl_thumbsOk.f (k : Nat) (a0 : ByteArray) (a1 : ByteArray) (a2 : ByteArray) : Option (Int × Int × Bool) := (impl_IsDialed.f a0).bind fun t129 => (if t129 = true then ((impl_isKey.f a1).bind fun t130 => (if t130 = true then ((impl_isKey.f a2).bind fun t131 => (impl_thumbsOk.j0 k a1 a2 (!t131))) else (impl_thumbsOk.j0 k a1 a2 true))) else (impl_thumbsOk.j0 k a1 a2 true))
theorem impl_thumbsOk.mono_l : ∀ k, (∀ y0 y1 y2, LeO (impl_thumbsOk.j0 k y0 y1 y2) (impl_thumbsOk.j0 (k + 1) y0 y1 y2))
  | 0 => fun _ _ _ r h => by simp [impl_thumbsOk.j0] at h
  | k + 1 => by
    have ih0 := impl_thumbsOk.mono_l k
    · intro y0 y1 y2
      unfold impl_thumbsOk.j0
      repeat' first
      | (with_reducible exact ih0 _ _ _)
      | (with_reducible exact LeO.refl _)
      | (with_reducible exact LeO.none _)
      | (with_reducible refine LeO.ite ?_ ?_)
      | (with_reducible refine LeO.bind ?_ (fun _ => ?_))
      | exact ih0 _ _ _
      | exact LeO.none _
      | refine LeO.ite ?_ ?_
      | refine LeO.bind ?_ (fun _ => ?_)
theorem impl_thumbsOk.mono : ∀ a0 a1 a2 k, LeO (impl_thumbsOk.f k a0 a1 a2) (impl_thumbsOk.f (k + 1) a0 a1 a2) := by
  intro a0 a1 a2 k
  have ih0 := impl_thumbsOk.mono_l k
  unfold impl_thumbsOk.f
  repeat' first
      | (with_reducible exact ih0 _ _ _)
      | (with_reducible exact LeO.refl _)
      | (with_reducible exact LeO.none _)
      | (with_reducible refine LeO.ite ?_ ?_)
      | (with_reducible refine LeO.bind ?_ (fun _ => ?_))
      | exact ih0 _ _ _
      | exact LeO.none _
      | refine LeO.ite ?_ ?_
      | refine LeO.bind ?_ (fun _ => ?_)
def impl_thumbsOk.T3 : Bool × List (List Nat × List Nat) := (true, [([], []), ([0], [0]), ([1], [1]), ([], []), ([3], [3]), ([4, 2], [4]), ([2, 5], [2, 5]), ([6, 5, 0, 1, 2, 3, 4, 5, 6], [6]), ([7, 0, 1, 2, 3, 4, 5, 6, 7], [])])
def impl_thumbsOk.B3 : List Nat := [0, 1, 3, 0, 8, 31, 63, 127, 255]
theorem impl_thumbsOk.tab3 : rtab .any (opsOf Tryd.f21 3) = impl_thumbsOk.T3 := by kernel_rfl
theorem impl_thumbsOk.bits3 : waitsOk impl_thumbsOk.T3.2 impl_thumbsOk.B3 = true := by kernel_rfl
set_option maxHeartbeats 8000000 in
set_option maxRecDepth 100000 in
theorem impl_thumbsOk.calls (k : Nat) (a0 : ByteArray) (a1 : ByteArray) (a2 : ByteArray) (r1 : Int) (r2 : Int) (r3 : Bool) (w : World) (h : impl_thumbsOk.f k a0 a1 a2 = some (r1, r2, r3)) :
    Calls Tryd.prog 21 #[.string a0, .string a1, .string a2] w fun e w' => e = .returned (.tuple #[.agg #[.int .i64 r1, .int .i64 r2], .bool r3]) ∧ Below w.heap.size w w' := by
  have hu39 := Tryd.underlying39
  have HB := Aside0.mk (Below.refl w.heap.size w)
  have H : ((impl_IsDialed.f a0).bind fun t129 => (if t129 = true then ((impl_isKey.f a1).bind fun t130 => (if t130 = true then ((impl_isKey.f a2).bind fun t131 => (impl_thumbsOk.j0 k a1 a2 (!t131))) else (impl_thumbsOk.j0 k a1 a2 true))) else (impl_thumbsOk.j0 k a1 a2 true))) = some (r1, r2, r3) := h
  clear h
  have HC4 := Aside0.mk H
  clear H
  go_enter Tryd.func21, Tryd.ntmps21
  go_upto_region 1 with (first | ((with_reducible refine gate_dst (N := 6) rfl ?_); refine box_event ?hg (N := 6) ?hd (cs := #[.int .i64 0, .int .i64 0]) (t := 39) ?hr ?_; (case hd => rfl); (case hg => rfl); (case hr => first | (go_simp; done) | (go_simp; rfl)); intro gb128 hg w5 hbox hb; have n0_ := Aside0.mk (below_step (by repeat (first | (with_reducible first | exact HB.out | apply below_alloc | apply pw_below_drewN | apply below_drew1) | exact HB.out)) hb); have n1_ := Aside0.mk (hbox); have n2_ := Aside0.mk ((by rw [hg]; exact (below_size (by repeat (first | (with_reducible first | exact HB.out | apply below_alloc | apply pw_below_drewN | apply below_drew1) | exact HB.out))) : w.heap.size ≤ gb128)); have n3_ := Aside0.mk ((by rw [hg]; exact (below_size (by repeat (first | (with_reducible first | exact HB.out | apply below_alloc | apply pw_below_drewN | apply below_drew1) | exact HB.out))) : w.heap.size ≤ gb128)); clear HB; have HB := n0_; have BK128 := n1_; have GW128 := n2_; have GE128 := n3_; clear n0_ n1_ n2_ n3_; clear hb hbox hg))
  (try simp only [Act.put, List.setIfInBounds_toArray, List.set_cons_zero, List.set_cons_succ])
  go_cut [20] (fun v20 wc => ∃ (kq : Nat) (x20_3 : Bool), v20 = .bool x20_3 ∧ Aside0 (impl_thumbsOk.j0 kq a1 a2 x20_3 = some (r1, r2, r3)) ∧ Aside0 (kq ≤ k) ∧ Aside0 (wc.heap[gb128]? = some (.cells #[.int .i64 0, .int .i64 0] 39 (0, 0))) ∧ Aside0 (Below w.heap.size w wc))
  case first =>
    have H := HC4.out
    clear HC4
    replace H := Option.bind_eq_some_iff.mp H
    obtain ⟨t129, A60, H⟩ := H
    replace H : (if t129 = true then ((impl_isKey.f a1).bind fun t130 => (if t130 = true then ((impl_isKey.f a2).bind fun t131 => (impl_thumbsOk.j0 k a1 a2 (!t131))) else (impl_thumbsOk.j0 k a1 a2 true))) else (impl_thumbsOk.j0 k a1 a2 true)) = some (r1, r2, r3) := H
    have A6 := Aside0.mk A60
    clear A60
    by_cases c7 : t129 = true
    · subst c7
      have H1 : ((impl_isKey.f a1).bind fun t130 => (if t130 = true then ((impl_isKey.f a2).bind fun t131 => (impl_thumbsOk.j0 k a1 a2 (!t131))) else (impl_thumbsOk.j0 k a1 a2 true))) = some (r1, r2, r3) := by rw [if_pos rfl] at H; exact H
      clear H
      have H := H1
      clear H1
      replace H := Option.bind_eq_some_iff.mp H
      obtain ⟨t130, A80, H⟩ := H
      replace H : (if t130 = true then ((impl_isKey.f a2).bind fun t131 => (impl_thumbsOk.j0 k a1 a2 (!t131))) else (impl_thumbsOk.j0 k a1 a2 true)) = some (r1, r2, r3) := H
      have A8 := Aside0.mk A80
      clear A80
      by_cases c9 : t130 = true
      · subst c9
        have H1 : ((impl_isKey.f a2).bind fun t131 => (impl_thumbsOk.j0 k a1 a2 (!t131))) = some (r1, r2, r3) := by rw [if_pos rfl] at H; exact H
        clear H
        have H := H1
        clear H1
        replace H := Option.bind_eq_some_iff.mp H
        obtain ⟨t131, A100, H⟩ := H
        replace H : (impl_thumbsOk.j0 k a1 a2 (!t131)) = some (r1, r2, r3) := H
        have A10 := Aside0.mk A100
        clear A100
        have H' := Aside0.mk H
        clear H
        go_wp2_with (first | ((with_reducible refine gate_callee (f := 25) rfl ?_); refine goesL_ (some 9) rfl rfl Tryd.func25 (by kernel_rfl) rfl #[.string a0] rfl (by (try simp only [List.map_toArray, List.map_cons, List.map_nil]); first | done | rfl | (simp only [List.length_drop, List.length_take]; rfl)) ?_; (with_reducible refine (impl_IsDialed.calls a0 true _ A6.out).mono ?_); rintro e w11 ⟨rfl, hb⟩; refine ⟨_, rfl, ?_⟩; have n0_ := Aside0.mk (blk_below (g := gb128) (o := .cells #[.int .i64 0, .int .i64 0] 39 (0, 0)) (by (with_reducible repeat (first | refine blk_drewN ?_ _ | refine blk_drew ?_ | refine blk_alloc ?_ _)); exact BK128.out) hb); have n1_ := Aside0.mk (below_step (by repeat (first | (with_reducible first | exact HB.out | apply below_alloc | apply pw_below_drewN | apply below_drew1 | refine below_set ?_ GE128.out) | exact HB.out)) hb); clear BK128; clear HB; have BK128 := n0_; have HB := n1_; clear n0_ n1_; (try clear hb); (try clear hb2); (try clear hk); (try clear hi)) | (go_at_call 31; (with_reducible refine (impl_isKey.calls a1 true _ A8.out).mono ?_); rintro e w12 ⟨rfl, hb⟩; have n0_ := Aside0.mk (blk_below (g := gb128) (o := .cells #[.int .i64 0, .int .i64 0] 39 (0, 0)) (by (with_reducible repeat (first | refine blk_drewN ?_ _ | refine blk_drew ?_ | refine blk_alloc ?_ _)); exact BK128.out) hb); have n1_ := Aside0.mk (below_step (by repeat (first | (with_reducible first | exact HB.out | apply below_alloc | apply pw_below_drewN | apply below_drew1 | refine below_set ?_ GE128.out) | exact HB.out)) hb); clear BK128; clear HB; have BK128 := n0_; have HB := n1_; clear n0_ n1_; (try clear hb); (try clear hb2); (try clear hk); (try clear hi)) | (go_at_call 31; (with_reducible refine (impl_isKey.calls a2 t131 _ A10.out).mono ?_); rintro e w13 ⟨rfl, hb⟩; have n0_ := Aside0.mk (blk_below (g := gb128) (o := .cells #[.int .i64 0, .int .i64 0] 39 (0, 0)) (by (with_reducible repeat (first | refine blk_drewN ?_ _ | refine blk_drew ?_ | refine blk_alloc ?_ _)); exact BK128.out) hb); have n1_ := Aside0.mk (below_step (by repeat (first | (with_reducible first | exact HB.out | apply below_alloc | apply pw_below_drewN | apply below_drew1 | refine below_set ?_ GE128.out) | exact HB.out)) hb); clear BK128; clear HB; have BK128 := n0_; have HB := n1_; clear n0_ n1_; (try clear hb); (try clear hb2); (try clear hk); (try clear hi)))
        go_meet
        case rel => exact ⟨_, (!t131), (by first | rfl | (simp; done) | (simp [*]; done)), H', ⟨by first | omega | exact Nat.le_refl _⟩, ⟨by (with_reducible repeat (first | refine blk_drewN ?_ _ | refine blk_drew ?_ | refine blk_alloc ?_ _)); exact BK128.out⟩, ⟨by repeat (first | (with_reducible first | exact HB.out | apply below_alloc | apply pw_below_drewN | apply below_drew1 | refine below_set ?_ GE128.out) | exact HB.out)⟩⟩
      · replace c9 := Bool.eq_false_iff.mpr c9
        subst c9
        have H1 : (impl_thumbsOk.j0 k a1 a2 true) = some (r1, r2, r3) := by rw [if_neg (show ¬ (false = true) by decide)] at H; exact H
        clear H
        have H := H1
        clear H1
        have H' := Aside0.mk H
        clear H
        go_wp2_with (first | ((with_reducible refine gate_callee (f := 25) rfl ?_); refine goesL_ (some 9) rfl rfl Tryd.func25 (by kernel_rfl) rfl #[.string a0] rfl (by (try simp only [List.map_toArray, List.map_cons, List.map_nil]); first | done | rfl | (simp only [List.length_drop, List.length_take]; rfl)) ?_; (with_reducible refine (impl_IsDialed.calls a0 true _ A6.out).mono ?_); rintro e w14 ⟨rfl, hb⟩; refine ⟨_, rfl, ?_⟩; have n0_ := Aside0.mk (blk_below (g := gb128) (o := .cells #[.int .i64 0, .int .i64 0] 39 (0, 0)) (by (with_reducible repeat (first | refine blk_drewN ?_ _ | refine blk_drew ?_ | refine blk_alloc ?_ _)); exact BK128.out) hb); have n1_ := Aside0.mk (below_step (by repeat (first | (with_reducible first | exact HB.out | apply below_alloc | apply pw_below_drewN | apply below_drew1 | refine below_set ?_ GE128.out) | exact HB.out)) hb); clear BK128; clear HB; have BK128 := n0_; have HB := n1_; clear n0_ n1_; (try clear hb); (try clear hb2); (try clear hk); (try clear hi)) | (go_at_call 31; (with_reducible refine (impl_isKey.calls a1 false _ A8.out).mono ?_); rintro e w15 ⟨rfl, hb⟩; have n0_ := Aside0.mk (blk_below (g := gb128) (o := .cells #[.int .i64 0, .int .i64 0] 39 (0, 0)) (by (with_reducible repeat (first | refine blk_drewN ?_ _ | refine blk_drew ?_ | refine blk_alloc ?_ _)); exact BK128.out) hb); have n1_ := Aside0.mk (below_step (by repeat (first | (with_reducible first | exact HB.out | apply below_alloc | apply pw_below_drewN | apply below_drew1 | refine below_set ?_ GE128.out) | exact HB.out)) hb); clear BK128; clear HB; have BK128 := n0_; have HB := n1_; clear n0_ n1_; (try clear hb); (try clear hb2); (try clear hk); (try clear hi)))
        go_meet
        case rel => exact ⟨_, (true), (by first | rfl | (simp; done) | (simp [*]; done)), H', ⟨by first | omega | exact Nat.le_refl _⟩, ⟨by (with_reducible repeat (first | refine blk_drewN ?_ _ | refine blk_drew ?_ | refine blk_alloc ?_ _)); exact BK128.out⟩, ⟨by repeat (first | (with_reducible first | exact HB.out | apply below_alloc | apply pw_below_drewN | apply below_drew1 | refine below_set ?_ GE128.out) | exact HB.out)⟩⟩
    · replace c7 := Bool.eq_false_iff.mpr c7
      subst c7
      have H1 : (impl_thumbsOk.j0 k a1 a2 true) = some (r1, r2, r3) := by rw [if_neg (show ¬ (false = true) by decide)] at H; exact H
      clear H
      have H := H1
      clear H1
      have H' := Aside0.mk H
      clear H
      go_wp2_with (first | ((with_reducible refine gate_callee (f := 25) rfl ?_); refine goesL_ (some 9) rfl rfl Tryd.func25 (by kernel_rfl) rfl #[.string a0] rfl (by (try simp only [List.map_toArray, List.map_cons, List.map_nil]); first | done | rfl | (simp only [List.length_drop, List.length_take]; rfl)) ?_; (with_reducible refine (impl_IsDialed.calls a0 false _ A6.out).mono ?_); rintro e w16 ⟨rfl, hb⟩; refine ⟨_, rfl, ?_⟩; have n0_ := Aside0.mk (blk_below (g := gb128) (o := .cells #[.int .i64 0, .int .i64 0] 39 (0, 0)) (by (with_reducible repeat (first | refine blk_drewN ?_ _ | refine blk_drew ?_ | refine blk_alloc ?_ _)); exact BK128.out) hb); have n1_ := Aside0.mk (below_step (by repeat (first | (with_reducible first | exact HB.out | apply below_alloc | apply pw_below_drewN | apply below_drew1 | refine below_set ?_ GE128.out) | exact HB.out)) hb); clear BK128; clear HB; have BK128 := n0_; have HB := n1_; clear n0_ n1_; (try clear hb); (try clear hb2); (try clear hk); (try clear hi)))
      go_meet
      case rel => exact ⟨_, (true), (by first | rfl | (simp; done) | (simp [*]; done)), H', ⟨by first | omega | exact Nat.le_refl _⟩, ⟨by (with_reducible repeat (first | refine blk_drewN ?_ _ | refine blk_drew ?_ | refine blk_alloc ?_ _)); exact BK128.out⟩, ⟨by repeat (first | (with_reducible first | exact HB.out | apply below_alloc | apply pw_below_drewN | apply below_drew1 | refine below_set ?_ GE128.out) | exact HB.out)⟩⟩
  case rest =>
    clear HC4
    try clear c2
    try clear p2
    try clear c7
    try clear c9
    obtain ⟨kq, x20_3, rfl, HA, HJ3, BK128, HB⟩ := hcut
    cases kq with
    | zero => exact absurd HA.out (by simp [impl_thumbsOk.j0])
    | succ kj3 =>
      have H := HA.out
      clear HA
      simp only [impl_thumbsOk.j0] at H
      by_cases c17 : x20_3 = true
      · subst c17
        have H1 : (some (0, 0, false)) = some (r1, r2, r3) := by rw [if_pos rfl] at H; exact H
        clear H
        have H := H1
        clear H1
        simp only [Option.some.injEq, Prod.mk.injEq] at H
        obtain ⟨rfl, rfl, rfl⟩ := H
        have hcz18_0 : wc.cell? ⟨gb128, 0, none⟩ = some (.int .i64 0) := (blk_cell BK128.out 0).trans rfl
        have hcz18_1 : wc.cell? ⟨gb128, 1, none⟩ = some (.int .i64 0) := (blk_cell BK128.out 1).trans rfl
        have hfz18_0 := blk_frozen BK128.out 0
        have hfz18_1 := blk_frozen BK128.out 1
        go_wp2
        refine bodyPost_ret (results_ct rfl _ _ gb128 39 #[.int .i64 0, .int .i64 0] (0, 0) _ rfl (by (with_reducible repeat (first | refine blk_drewN ?_ _ | refine blk_drew ?_ | refine blk_alloc ?_ _)); refine blk_put (cs := #[.int .i64 0, .int .i64 0]) ?_ 1 _ rfl; (with_reducible repeat (first | refine blk_drewN ?_ _ | refine blk_drew ?_ | refine blk_alloc ?_ _)); refine blk_put (cs := #[.int .i64 0, .int .i64 0]) ?_ 0 _ rfl; (with_reducible repeat (first | refine blk_drewN ?_ _ | refine blk_drew ?_ | refine blk_alloc ?_ _)); exact BK128.out) Tryd.underlying39 rfl (by kernel_rfl)) rfl ?_
        exact ⟨by first | rfl | (simp [errW_none, errW_some] <;> rfl) | (simp [*, errW_none, errW_some] <;> rfl), by repeat (first | (with_reducible first | exact HB.out | apply below_alloc | apply pw_below_drewN | apply below_drew1 | refine below_set ?_ GE128.out) | exact HB.out)⟩
      · replace c17 := Bool.eq_false_iff.mpr c17
        subst c17
        have H1 : (if 0 < (a1.size : Int) then ((impl_place.f (bt a1 0)).bind fun t132 => (if 0 < (a2.size : Int) then ((impl_place.f (bt a2 0)).bind fun t133 => (some (t132, t133, true))) else (none))) else (none)) = some (r1, r2, r3) := by rw [if_neg (show ¬ (false = true) by decide)] at H; exact H
        clear H
        have H := H1
        clear H1
        by_cases c19 : 0 < (a1.size : Int)
        · rw [if_pos c19] at H
          have c19b0 : decide (0 < (a1.size : Int)) = true := decide_eq_true c19
          have c19b1 : decide (0 < a1.size) = true := decide_eq_true (by omega)
          clear c19
          replace H := Option.bind_eq_some_iff.mp H
          obtain ⟨t132, A210, H⟩ := H
          replace H : (if 0 < (a2.size : Int) then ((impl_place.f (bt a2 0)).bind fun t133 => (some (t132, t133, true))) else (none)) = some (r1, r2, r3) := H
          have A21 := Aside0.mk A210
          clear A210
          by_cases c22 : 0 < (a2.size : Int)
          · rw [if_pos c22] at H
            have c22b0 : decide (0 < (a2.size : Int)) = true := decide_eq_true c22
            have c22b1 : decide (0 < a2.size) = true := decide_eq_true (by omega)
            clear c22
            replace H := Option.bind_eq_some_iff.mp H
            obtain ⟨t133, A240, H⟩ := H
            replace H : (some (t132, t133, true)) = some (r1, r2, r3) := H
            have A24 := Aside0.mk A240
            clear A240
            simp only [Option.some.injEq, Prod.mk.injEq] at H
            obtain ⟨rfl, rfl, rfl⟩ := H
            try go_wp2
            have n0_ := Aside0.mk (blk_drew BK128.out)
            have n1_ := Aside0.mk (below_drew1 HB.out)
            clear BK128
            clear HB
            have BK128 := n0_
            have HB := n1_
            clear n0_ n1_
            have p20 : 0 ≤ (0 : Int) := (by omega)
            have q20 : 0 < a1.size := (by have : (0 : Int) < (a1.size : Int) := of_decide_eq_true (by first | (with_reducible assumption) | assumption); omega)
            have hx20 : ∀ h : 0 < a1.size, ((a1[0]'h).toNat : Int) = bt a1 0 := bt_at a1 0
            clear p20
            have qi20 : (0 < (a1.size : Int)) = True := eq_true (of_decide_eq_true (by first | (with_reducible assumption) | assumption))
            replace q20 := eq_true q20
            have p23 : 0 ≤ (0 : Int) := (by omega)
            have q23 : 0 < a2.size := (by have : (0 : Int) < (a2.size : Int) := of_decide_eq_true (by first | (with_reducible assumption) | assumption); omega)
            have hx23 : ∀ h : 0 < a2.size, ((a2[0]'h).toNat : Int) = bt a2 0 := bt_at a2 0
            clear p23
            have qi23 : (0 < (a2.size : Int)) = True := eq_true (of_decide_eq_true (by first | (with_reducible assumption) | assumption))
            replace q23 := eq_true q23
            refine start_ (n := 9) (S := fun w' => True) (ds := []) #[false, false, false, false, false, false, false, false, false] (by kernel_rfl) rfl rfl trivial (fun hHeld => ?_); refine with_tabW impl_thumbsOk.tab3 impl_thumbsOk.bits3 (fun HT_ HW_ => ?_)
            generalize wc.drew = w25 at BK128 HB hHeld ⊢
            refine pure_ (i := 0) (N := some 22) (v := ?_) (a' := ?_) #[true, false, false, false, false, false, false, false, false] rfl rfl (any_of HT_.out (by kernel_rfl)) (fun _ _ _ h => h) (Or.inl ⟨by rfl, ?_⟩) ?_ ?_
            rotate_left
            · intro w'
              go_simp
              with_reducible rfl
            rotate_left
            · simp only [Act.put, List.setIfInBounds_toArray, List.set_cons_zero, List.set_cons_succ, i64_w, i32_w]
              rfl
            refine pure_ (i := 3) (N := some 25) (v := ?_) (a' := ?_) #[true, false, false, true, false, false, false, false, false] rfl rfl (any_of HT_.out (by kernel_rfl)) (fun _ _ _ h => h) (Or.inl ⟨by rfl, ?_⟩) ?_ ?_
            rotate_left
            · intro w'
              go_simp
              with_reducible rfl
            rotate_left
            · simp only [Act.put, List.setIfInBounds_toArray, List.set_cons_zero, List.set_cons_succ, i64_w, i32_w]
              rfl
            refine take_ (i := 1) (N := some 23) (v := ?_) (a' := ?_) #[true, true, false, true, false, false, false, false, false] rfl rfl (take_ofW HT_.out HW_.out (by kernel_rfl)) (fun _ _ _ h => h) (Or.inl ⟨by rfl, ?_⟩) hHeld ?_ ?_
            rotate_left
            · intro w' _
              go_simp
              with_reducible rfl
            rotate_left
            · simp only [Act.put, List.setIfInBounds_toArray, List.set_cons_zero, List.set_cons_succ, i64_w, i32_w]
              rfl
            refine take_ (i := 4) (N := some 26) (v := ?_) (a' := ?_) #[true, true, false, true, true, false, false, false, false] rfl rfl (take_ofW HT_.out HW_.out (by kernel_rfl)) (fun _ _ _ h => h) (Or.inl ⟨by rfl, ?_⟩) hHeld ?_ ?_
            rotate_left
            · intro w' _
              go_simp
              with_reducible rfl
            rotate_left
            · simp only [Act.put, List.setIfInBounds_toArray, List.set_cons_zero, List.set_cons_succ, i64_w, i32_w]
              rfl
            refine one_ (i := 2) (N := some 24) #[true, true, true, true, true, false, false, false, false] rfl rfl (one_of HT_.out (by kernel_rfl)) (by decide) (fun K hK => ?_)
            refine goes_ Tryd.func32 (by kernel_rfl) rfl #[.int .u8 (bt a1 0)] (by rfl) rfl rfl (by (try simp only [List.map_toArray, List.map_cons, List.map_nil]); first | done | rfl | (simp only [List.length_drop, List.length_take]; rfl)) ?_
            with_reducible refine (impl_place.calls (bt a1 0) t132 _ A21.out).mono ?_
            rintro e w' ⟨rfl, ⟨nd, rfl⟩⟩
            refine ⟨_, rfl, ?_⟩
            refine hK.out _ _ trivial (fun hHeld => ?_)
            clear hK K
            refine norm_ (a' := ?_) ?_ ?_
            rotate_left
            · show Act.put _ (some 24) _ = _
              simp only [Act.put, List.setIfInBounds_toArray, List.set_cons_zero, List.set_cons_succ, i64_w, i32_w]
              rfl
            refine one_ (i := 5) (N := some 27) #[true, true, true, true, true, true, false, false, false] rfl rfl (one_of HT_.out (by kernel_rfl)) (by decide) (fun K hK => ?_)
            refine goes_ Tryd.func32 (by kernel_rfl) rfl #[.int .u8 (bt a2 0)] (by rfl) rfl rfl (by (try simp only [List.map_toArray, List.map_cons, List.map_nil]); first | done | rfl | (simp only [List.length_drop, List.length_take]; rfl)) ?_
            with_reducible refine (impl_place.calls (bt a2 0) t133 _ A24.out).mono ?_
            rintro e w' ⟨rfl, ⟨nd, rfl⟩⟩
            refine ⟨_, rfl, ?_⟩
            refine hK.out _ _ trivial (fun hHeld => ?_)
            clear hK K
            refine norm_ (a' := ?_) ?_ ?_
            rotate_left
            · show Act.put _ (some 27) _ = _
              simp only [Act.put, List.setIfInBounds_toArray, List.set_cons_zero, List.set_cons_succ, i64_w, i32_w]
              rfl
            refine pure_ (i := 6) (N := some 28) (v := ?_) (a' := ?_) #[true, true, true, true, true, true, true, false, false] rfl rfl (any_of HT_.out (by kernel_rfl)) (fun _ _ _ h => h) (Or.inl ⟨by rfl, ?_⟩) ?_ ?_
            rotate_left
            · intro w'
              go_simp
              with_reducible rfl
            rotate_left
            · simp only [Act.put, List.setIfInBounds_toArray, List.set_cons_zero, List.set_cons_succ, i64_w, i32_w]
              rfl
            refine one_ (i := 7) (N := none) #[true, true, true, true, true, true, true, true, false] rfl rfl (one_of HT_.out (by kernel_rfl)) (by decide) (fun K hK => ?_)
            have hs26 : w25.cell? ⟨gb128, 0, none⟩ = some (.int .i64 0) := (blk_cell BK128.out 0).trans rfl
            have hfs26 := blk_frozen BK128.out 0
            have hs27 : w25.cell? ⟨gb128, 1, none⟩ = some (.int .i64 0) := (blk_cell BK128.out 1).trans rfl
            have hfs27 := blk_frozen BK128.out 1
            refine skip_ (w1 := ?_) (by rfl) rfl ?_ ?_
            rotate_left
            · go_simp
              rfl
            refine hK.out _ _ trivial (fun hHeld => ?_)
            clear hK K
            refine pure_ (i := 8) (N := some 7) (v := ?_) (a' := ?_) #[true, true, true, true, true, true, true, true, true] rfl rfl (any_of HT_.out (by kernel_rfl)) (fun _ _ _ h => h) (Or.inl ⟨by rfl, ?_⟩) ?_ ?_
            rotate_left
            · intro w'
              go_simp
              with_reducible rfl
            rotate_left
            · simp only [Act.put, List.setIfInBounds_toArray, List.set_cons_zero, List.set_cons_succ, i64_w, i32_w]
              rfl
            refine done_ (done_of HT_.out (by kernel_rfl)) ?_
            try go_wp2
            refine bodyPost_ret (results_ct rfl _ _ gb128 39 #[.int .i64 t132, .int .i64 t133] (0, 0) _ rfl (by (with_reducible repeat (first | refine blk_drewN ?_ _ | refine blk_drew ?_ | refine blk_alloc ?_ _)); refine blk_put (cs := #[.int .i64 t132, .int .i64 0]) ?_ 1 _ rfl; (with_reducible repeat (first | refine blk_drewN ?_ _ | refine blk_drew ?_ | refine blk_alloc ?_ _)); refine blk_put (cs := #[.int .i64 0, .int .i64 0]) ?_ 0 _ rfl; (with_reducible repeat (first | refine blk_drewN ?_ _ | refine blk_drew ?_ | refine blk_alloc ?_ _)); exact BK128.out) Tryd.underlying39 rfl (by kernel_rfl)) rfl ?_
            exact ⟨by first | rfl | (simp [errW_none, errW_some] <;> rfl) | (simp [*, errW_none, errW_some] <;> rfl), by repeat (first | (with_reducible first | exact HB.out | apply below_alloc | apply pw_below_drewN | apply below_drew1 | refine below_set ?_ GE128.out) | exact HB.out)⟩
          · rw [if_neg c22] at H
            exact absurd H (by simp)
        · rw [if_neg c19] at H
          exact absurd H (by simp)

end Go.Proofs.YthnjmokaiiajmaaDoor.P

namespace Go.Proofs.YthnjmokaiiajmaaDoor.P
open Go.RowKit Go.Proofs.YthnjmokaiiajmaaDoorW.PrintWords Go.Proofs.YthnjmokaiiajmaaDoorW.PrintLast Go.Proofs.YthnjmokaiiajmaaDoorW.PrintMore
attribute [local go_sem] max2_int min2_int max_two min_two max_three min_three max_four min_four   -- for this text's walks alone
set_option linter.unusedVariables false
set_option linter.unusedSimpArgs false

/-! ### impl_TwoThumbs: function 8 -/
def impl_TwoThumbs.f (k : Nat) (a0 a1 a2 : ByteArray) (a3 : Bool) : Option (Int × Bool) := (impl_thumbsOk.f k a0 a1 a2).bind fun bt => (if bt.2.2 = true then ((impl_newLooker.f k a0 a3).bind fun t => ((impl_looker_from.f k t 0 bt.1 bt.2.1).bind fun o => (some (o.1, true)))) else (some (0, false)))
theorem impl_TwoThumbs.mono : ∀ a0 a1 a2 a3 k, LeO (impl_TwoThumbs.f k a0 a1 a2 a3) (impl_TwoThumbs.f (k + 1) a0 a1 a2 a3) := by
  intro a0 a1 a2 a3 k
  unfold impl_TwoThumbs.f
  refine LeO.bind (impl_thumbsOk.mono _ _ _ _) (fun _ => ?_)
  refine LeO.ite ?_ (LeO.refl _)
  exact LeO.bind (impl_newLooker.mono _ _ _) (fun _ => LeO.bind (impl_looker_from.mono _ _ _ _ _) (fun _ => LeO.refl _))
set_option maxHeartbeats 8000000 in
set_option maxRecDepth 100000 in
theorem impl_TwoThumbs.calls (k : Nat) (a0 a1 a2 : ByteArray) (a3 : Bool) (r1 : Int) (r2 : Bool) (w : World) (h : impl_TwoThumbs.f k a0 a1 a2 a3 = some (r1, r2)) :
    Calls Tryd.prog 8 #[.string a0, .string a1, .string a2, .bool a3] w fun e w' => e = .returned (.tuple #[.int .i64 r1, .bool r2]) ∧ Below w.heap.size w w' := by
  unfold impl_TwoThumbs.f at h
  obtain ⟨⟨tl, tr, ok⟩, h1, h⟩ := Option.bind_eq_some_iff.1 h
  have H1 := Aside0.mk h1
  have hu39 := Tryd.underlying39
  have hu43 := Tryd.underlying43
  clear h1
  cases ok with
  | false =>
    rw [if_neg (by simp)] at h
    obtain ⟨rfl, rfl⟩ := Prod.mk.inj (Option.some.inj h)
    go_enter Tryd.func8, Tryd.ntmps8
    go_wp2_with (first | (go_at_call 21; refine (impl_thumbsOk.calls k a0 a1 a2 tl tr false _ H1.out).mono ?_; rintro e w1 ⟨rfl, hb⟩))
    go_ret2
    exact ⟨rfl, below_alloc hb _⟩
  | true =>
    rw [if_pos rfl] at h
    obtain ⟨t, h2, h⟩ := Option.bind_eq_some_iff.1 h
    obtain ⟨⟨s, p⟩, h3, h⟩ := Option.bind_eq_some_iff.1 h
    have H2 := Aside0.mk h2
    have H3 : Aside0 (impl_looker_from.f k t 0 tl tr = some (s, p)) := ⟨h3⟩
    have H4 := Aside0.mk h
    clear h2 h3 h
    go_enter Tryd.func8, Tryd.ntmps8
    go_upto_region 4 with (first | (go_at_call 21; refine (impl_thumbsOk.calls k a0 a1 a2 tl tr true _ H1.out).mono ?_; rintro e w1 ⟨rfl, hb⟩))
    have HB1 : Aside0 (Below w.heap.size w (w1.alloc (.cells #[.int .i64 tl, .int .i64 tr] 39))) := ⟨below_alloc hb _⟩
    have h10 := blk_new w1 (.cells #[.int .i64 tl, .int .i64 tr] 39)
    have hlt := blk_lt h10
    clear hb H1
    generalize w1.alloc (.cells #[.int .i64 tl, .int .i64 tr] 39) = W1 at *
    generalize w1.heap.size = b10 at *
    have c0 : W1.cell? ⟨b10, 0, none⟩ = some (.int .i64 tl) := (blk_cell h10 0).trans rfl
    have c1 : W1.cell? ⟨b10, 1, none⟩ = some (.int .i64 tr) := (blk_cell h10 1).trans rfl
    have H10 := Aside0.mk h10
    clear h10
    have hfl : ∀ W : World, (Instr.field 43 (.agg #[.int .i64 s, .int .i64 p]) 0).run Tryd.prog W = .ok (.int .i64 s) W := fun W => by kernel_rfl
    go_region_held3 (fun w' => w'.cell? ⟨b10, 0, none⟩ = some (.int .i64 tl) ∧ w'.cell? ⟨b10, 1, none⟩ = some (.int .i64 tr)) (first | go_keep | exact ⟨(blk_cell hk3 0).trans rfl, (blk_cell hk3 1).trans rfl⟩ | exact ⟨(blk_cell hk2 0).trans rfl, (blk_cell hk2 1).trans rfl⟩) (first | (go_at_call 22; refine (impl_newLooker.calls k a0 a3 t _ H2.out).mono ?_; rintro e w2 ⟨D, rfl, hDL, hDc, hlim, hms, hLk, hb2⟩; have hk2 := blk_below H10.out (((Below.refl _ _).drew).trans hb2)) | (go_at_call 23; refine (impl_looker_from.calls k t 0 tl tr s p _ H3.out D hDL hDc hLk hlim).mono ?_; rintro e w3 ⟨rfl, hLk3, hMK⟩; have hk3 := hMK.blk hLk hk2))
    all_goals
      have hbw : Below w.heap.size w w3 := hMK.below (below_step HB1.out (((Below.refl _ _).drew).trans hb2)) (by have := HB1.out.size; have := hb2.size; exact Nat.le_trans ‹_› ‹_›) (fun m hm => Nat.le_trans HB1.out.size (hms.ms m hm))
      have HBW := Aside0.mk hbw
      clear hbw hMK hLk hLk3 hms hlim hDL hDc hb2 hk2 hk3

      have H5 := H4.out
      simp only [Option.some.injEq, Prod.mk.injEq] at H5
      obtain ⟨rfl, rfl⟩ := H5
      go_wp2
      go_ret2
      exact ⟨rfl, HBW.out⟩

end Go.Proofs.YthnjmokaiiajmaaDoor.P

namespace Go.Proofs.YthnjmokaiiajmaaDoor.P
open Go.RowKit Go.Proofs.YthnjmokaiiajmaaDoorW.PrintWords Go.Proofs.YthnjmokaiiajmaaDoorW.PrintLast Go.Proofs.YthnjmokaiiajmaaDoorW.PrintMore
attribute [local go_sem] max2_int min2_int max_two min_two max_three min_three max_four min_four   -- for this text's walks alone
set_option linter.unusedVariables false
set_option linter.unusedSimpArgs false

/-! ### spec_CountThumbs: function 9 -/
def spec_CountThumbs.f (k : Nat) (a0 : ByteArray) (a1 : ByteArray) (a2 : ByteArray) (a3 : Bool) : Option (Int × Bool) := (spec_thBoth.f k a0 a1 a2).bind fun t151 => (if t151 = true then ((spec_thTable.f k a0 a3).bind fun bt152 => (if 0 < (bt152.2.length : Int) then ((spec_thAt.f k a1 a2).bind fun t159 => (if 0 ≤ t159 then (if t159 < ((rd_L1 bt152.2 0).length : Int) then (if (rd (rd_L1 bt152.2 0) t159) ≤ 1000000000000000 then (some (rd (rd_L1 bt152.2 0) t159, true)) else (some (0, false))) else (none)) else (none))) else (none))) else (some (0, false)))
theorem spec_CountThumbs.mono : ∀ a0 a1 a2 a3 k, LeO (spec_CountThumbs.f k a0 a1 a2 a3) (spec_CountThumbs.f (k + 1) a0 a1 a2 a3) := by
  intro a0 a1 a2 a3 k
  unfold spec_CountThumbs.f
  repeat' first
      | (with_reducible exact spec_thAt.mono _ _ _)
      | (with_reducible exact spec_thBoth.mono _ _ _ _)
      | (with_reducible exact spec_thTable.mono _ _ _)
      | (with_reducible exact LeO.refl _)
      | (with_reducible exact LeO.none _)
      | (with_reducible refine LeO.ite ?_ ?_)
      | (with_reducible refine LeO.bind ?_ (fun _ => ?_))
      | exact spec_thAt.mono _ _ _
      | exact spec_thBoth.mono _ _ _ _
      | exact spec_thTable.mono _ _ _
      | exact LeO.none _
      | refine LeO.ite ?_ ?_
      | refine LeO.bind ?_ (fun _ => ?_)
set_option maxHeartbeats 8000000 in
set_option maxRecDepth 100000 in
theorem spec_CountThumbs.calls (k : Nat) (a0 : ByteArray) (a1 : ByteArray) (a2 : ByteArray) (a3 : Bool) (r1 : Int) (r2 : Bool) (w : World) (h : spec_CountThumbs.f k a0 a1 a2 a3 = some (r1, r2)) :
    Calls Tryd.prog 9 #[.string a0, .string a1, .string a2, .bool a3] w fun e w' => e = .returned (.tuple #[.int .i64 r1, .bool r2]) ∧ Below w.heap.size w w' := by
  have HB := Aside0.mk (Below.refl w.heap.size w)
  have H : ((spec_thBoth.f k a0 a1 a2).bind fun t151 => (if t151 = true then ((spec_thTable.f k a0 a3).bind fun bt152 => (if 0 < (bt152.2.length : Int) then ((spec_thAt.f k a1 a2).bind fun t159 => (if 0 ≤ t159 then (if t159 < ((rd_L1 bt152.2 0).length : Int) then (if (rd (rd_L1 bt152.2 0) t159) ≤ 1000000000000000 then (some (rd (rd_L1 bt152.2 0) t159, true)) else (some (0, false))) else (none)) else (none))) else (none))) else (some (0, false)))) = some (r1, r2) := h
  clear h
  replace H := Option.bind_eq_some_iff.mp H
  obtain ⟨t151, A50, H⟩ := H
  replace H : (if t151 = true then ((spec_thTable.f k a0 a3).bind fun bt152 => (if 0 < (bt152.2.length : Int) then ((spec_thAt.f k a1 a2).bind fun t159 => (if 0 ≤ t159 then (if t159 < ((rd_L1 bt152.2 0).length : Int) then (if (rd (rd_L1 bt152.2 0) t159) ≤ 1000000000000000 then (some (rd (rd_L1 bt152.2 0) t159, true)) else (some (0, false))) else (none)) else (none))) else (none))) else (some (0, false))) = some (r1, r2) := H
  have A5 := Aside0.mk A50
  clear A50
  by_cases c6 : t151 = true
  · subst c6
    have H1 : ((spec_thTable.f k a0 a3).bind fun bt152 => (if 0 < (bt152.2.length : Int) then ((spec_thAt.f k a1 a2).bind fun t159 => (if 0 ≤ t159 then (if t159 < ((rd_L1 bt152.2 0).length : Int) then (if (rd (rd_L1 bt152.2 0) t159) ≤ 1000000000000000 then (some (rd (rd_L1 bt152.2 0) t159, true)) else (some (0, false))) else (none)) else (none))) else (none))) = some (r1, r2) := by rw [if_pos rfl] at H; exact H
    clear H
    have H := H1
    clear H1
    replace H := Option.bind_eq_some_iff.mp H
    obtain ⟨⟨t152, t153⟩, A70, H⟩ := H
    replace H : (if 0 < (t153.length : Int) then ((spec_thAt.f k a1 a2).bind fun t159 => (if 0 ≤ t159 then (if t159 < ((rd_L1 t153 0).length : Int) then (if (rd (rd_L1 t153 0) t159) ≤ 1000000000000000 then (some (rd (rd_L1 t153 0) t159, true)) else (some (0, false))) else (none)) else (none))) else (none)) = some (r1, r2) := H
    have A7 := Aside0.mk A70
    clear A70
    by_cases c8 : 0 < (t153.length : Int)
    · rw [if_pos c8] at H
      have c8b0 : decide (0 < (t153.length : Int)) = true := decide_eq_true c8
      have c8b1 : decide (0 < t153.length) = true := decide_eq_true (by omega)
      clear c8
      replace H := Option.bind_eq_some_iff.mp H
      obtain ⟨t159, A90, H⟩ := H
      replace H : (if 0 ≤ t159 then (if t159 < ((rd_L1 t153 0).length : Int) then (if (rd (rd_L1 t153 0) t159) ≤ 1000000000000000 then (some (rd (rd_L1 t153 0) t159, true)) else (some (0, false))) else (none)) else (none)) = some (r1, r2) := H
      have A9 := Aside0.mk A90
      clear A90
      by_cases c10 : 0 ≤ t159
      · rw [if_pos c10] at H
        have c10b0 : decide (0 ≤ t159) = true := decide_eq_true c10
        clear c10
        by_cases c11 : t159 < ((rd_L1 t153 0).length : Int)
        · rw [if_pos c11] at H
          have c11b0 : decide (t159 < ((rd_L1 t153 0).length : Int)) = true := decide_eq_true c11
          clear c11
          by_cases c12 : (rd (rd_L1 t153 0) t159) ≤ 1000000000000000
          · rw [if_pos c12] at H
            have c12b0 : decide ((rd (rd_L1 t153 0) t159) ≤ 1000000000000000) = true := decide_eq_true c12
            clear c12
            simp only [Option.some.injEq, Prod.mk.injEq] at H
            obtain ⟨rfl, rfl⟩ := H
            go_enter Tryd.func9, Tryd.ntmps9
            go_wp2_with (first | (go_at_call 18; (with_reducible refine (spec_thBoth.calls k a0 a1 a2 true _ A5.out).mono ?_); rintro e w' ⟨rfl, ⟨nd, rfl⟩⟩; (try first | exact ⟨rfl, _, World.drewN_drewN _ _ _⟩ | exact ⟨rfl, _, Eq.trans (World.drewN_drewN _ _ _) (congrArg (World.drewN _) (Nat.add_assoc _ _ _))⟩)) | (go_at_call 19; (with_reducible refine (spec_thTable.calls k a0 a3 t152 t153 _ A7.out).mono ?_); rintro e w13 ⟨v154, v156, rfl, ho0, ho1, hb⟩; have n0_ := Aside0.mk (Kd.S_lower ho0 (below_size (by repeat (first | (with_reducible first | exact HB.out | apply below_alloc | apply pw_below_drewN | apply below_drew1) | exact HB.out)))); have n1_ := Aside0.mk (Kd.S_lower ho1 (below_size (by repeat (first | (with_reducible first | exact HB.out | apply below_alloc | apply pw_below_drewN | apply below_drew1) | exact HB.out)))); have n2_ := Aside0.mk (below_step (by repeat (first | (with_reducible first | exact HB.out | apply below_alloc | apply pw_below_drewN | apply below_drew1) | exact HB.out)) hb); clear HB; have HO155 := n0_; have HO157 := n1_; have HB := n2_; clear n0_ n1_ n2_; (try clear hb); (try clear hb2); (try clear hk); (try clear hi); (try clear ho0); (try clear ho1); obtain ⟨Ao14, co14, eo14⟩ := Kd.S_slice HO157.out; subst eo14; have p158 : 0 ≤ (0 : Int) := (by omega); have q158 : 0 < (t153.length : Int) := of_decide_eq_true (by first | (with_reducible assumption) | assumption); obtain ⟨ad158, A158_0, c158_0, e158, hx158_0, hl158_0, hi158_0⟩ := at_L1 (Kd.S_reads' HO157.out).2.2 0 p158 q158; cases e158; obtain ⟨ce158, hce158, hMe158, hcc158⟩ := Kd.S_get HO157.out [] 0 p158 (by first | exact q158 | exact of_decide_eq_true (by first | (with_reducible assumption) | assumption) | (have e_ := (Kd.S_reads' HO157.out).1; omega)); obtain ⟨ve158_0, rfl, ge158_0⟩ := hMe158; have hv158_0 := hcc158 0 _ rfl; rw [Nat.add_zero, show ((Kd.slice 3 (Kd.int .i64))).sz = 1 from rfl, Nat.mul_one] at hv158_0; replace hv158_0 := Option.some.inj (hv158_0.symm.trans hx158_0); rw [hv158_0] at ge158_0; have HL158_0 := Aside0.mk (show Kd.R (Kd.int .i64) 3 _ _ _ _ (rd_L1 t153 0) from ge158_0); clear hv158_0 ge158_0; clear hcc158 hce158; have qi158 : (0 < t153.length) = True := eq_true (by omega); (try rw [show ((0 : Int)).toNat = 0 from rfl] at hx158_0); (try rw [Addr.add_zero'] at hx158_0); have HR158_0 := Aside0.mk hi158_0; have HC158_0 := Aside0.mk hl158_0; clear hi158_0 hl158_0; replace p158 := eq_true p158; replace q158 := eq_true q158) | (go_at_call 20; (with_reducible refine (spec_thAt.calls k a1 a2 t159 _ A9.out).mono ?_); rintro e w' ⟨rfl, ⟨nd, rfl⟩⟩; (try first | exact ⟨rfl, _, World.drewN_drewN _ _ _⟩ | exact ⟨rfl, _, Eq.trans (World.drewN_drewN _ _ _) (congrArg (World.drewN _) (Nat.add_assoc _ _ _))⟩); have p160 : 0 ≤ (t159 : Int) := of_decide_eq_true (by first | (with_reducible assumption) | assumption); have q160 : t159 < ((rd_L1 t153 0).length : Int) := of_decide_eq_true (by first | (with_reducible assumption) | assumption); obtain ⟨ad160, e160, hx160_0⟩ := Kd.at_int (by repeat (first | (with_reducible exact HR158_0.out) | (with_reducible refine Kd.C_alloc ?_ _) | (with_reducible refine Kd.C_drewN ?_ _) | (with_reducible refine Kd.C_drew ?_) | exact HR158_0.out)) t159 p160 q160; cases e160; replace p160 := eq_true p160; replace q160 := eq_true q160))
            repeat (go_quiet (first | (go_at_call 18; (with_reducible refine (spec_thBoth.calls k a0 a1 a2 true _ A5.out).mono ?_); rintro e w' ⟨rfl, ⟨nd, rfl⟩⟩; (try first | exact ⟨rfl, _, World.drewN_drewN _ _ _⟩ | exact ⟨rfl, _, Eq.trans (World.drewN_drewN _ _ _) (congrArg (World.drewN _) (Nat.add_assoc _ _ _))⟩)) | (go_at_call 19; (with_reducible refine (spec_thTable.calls k a0 a3 t152 t153 _ A7.out).mono ?_); rintro e w13 ⟨v154, v156, rfl, ho0, ho1, hb⟩; have n0_ := Aside0.mk (Kd.S_lower ho0 (below_size (by repeat (first | (with_reducible first | exact HB.out | apply below_alloc | apply pw_below_drewN | apply below_drew1) | exact HB.out)))); have n1_ := Aside0.mk (Kd.S_lower ho1 (below_size (by repeat (first | (with_reducible first | exact HB.out | apply below_alloc | apply pw_below_drewN | apply below_drew1) | exact HB.out)))); have n2_ := Aside0.mk (below_step (by repeat (first | (with_reducible first | exact HB.out | apply below_alloc | apply pw_below_drewN | apply below_drew1) | exact HB.out)) hb); clear HB; have HO155 := n0_; have HO157 := n1_; have HB := n2_; clear n0_ n1_ n2_; (try clear hb); (try clear hb2); (try clear hk); (try clear hi); (try clear ho0); (try clear ho1); obtain ⟨Ao14, co14, eo14⟩ := Kd.S_slice HO157.out; subst eo14; have p158 : 0 ≤ (0 : Int) := (by omega); have q158 : 0 < (t153.length : Int) := of_decide_eq_true (by first | (with_reducible assumption) | assumption); obtain ⟨ad158, A158_0, c158_0, e158, hx158_0, hl158_0, hi158_0⟩ := at_L1 (Kd.S_reads' HO157.out).2.2 0 p158 q158; cases e158; obtain ⟨ce158, hce158, hMe158, hcc158⟩ := Kd.S_get HO157.out [] 0 p158 (by first | exact q158 | exact of_decide_eq_true (by first | (with_reducible assumption) | assumption) | (have e_ := (Kd.S_reads' HO157.out).1; omega)); obtain ⟨ve158_0, rfl, ge158_0⟩ := hMe158; have hv158_0 := hcc158 0 _ rfl; rw [Nat.add_zero, show ((Kd.slice 3 (Kd.int .i64))).sz = 1 from rfl, Nat.mul_one] at hv158_0; replace hv158_0 := Option.some.inj (hv158_0.symm.trans hx158_0); rw [hv158_0] at ge158_0; have HL158_0 := Aside0.mk (show Kd.R (Kd.int .i64) 3 _ _ _ _ (rd_L1 t153 0) from ge158_0); clear hv158_0 ge158_0; clear hcc158 hce158; have qi158 : (0 < t153.length) = True := eq_true (by omega); (try rw [show ((0 : Int)).toNat = 0 from rfl] at hx158_0); (try rw [Addr.add_zero'] at hx158_0); have HR158_0 := Aside0.mk hi158_0; have HC158_0 := Aside0.mk hl158_0; clear hi158_0 hl158_0; replace p158 := eq_true p158; replace q158 := eq_true q158) | (go_at_call 20; (with_reducible refine (spec_thAt.calls k a1 a2 t159 _ A9.out).mono ?_); rintro e w' ⟨rfl, ⟨nd, rfl⟩⟩; (try first | exact ⟨rfl, _, World.drewN_drewN _ _ _⟩ | exact ⟨rfl, _, Eq.trans (World.drewN_drewN _ _ _) (congrArg (World.drewN _) (Nat.add_assoc _ _ _))⟩); have p160 : 0 ≤ (t159 : Int) := of_decide_eq_true (by first | (with_reducible assumption) | assumption); have q160 : t159 < ((rd_L1 t153 0).length : Int) := of_decide_eq_true (by first | (with_reducible assumption) | assumption); obtain ⟨ad160, e160, hx160_0⟩ := Kd.at_int (by repeat (first | (with_reducible exact HR158_0.out) | (with_reducible refine Kd.C_alloc ?_ _) | (with_reducible refine Kd.C_drewN ?_ _) | (with_reducible refine Kd.C_drew ?_) | exact HR158_0.out)) t159 p160 q160; cases e160; replace p160 := eq_true p160; replace q160 := eq_true q160)); try go_wp2_with (first | (go_at_call 18; (with_reducible refine (spec_thBoth.calls k a0 a1 a2 true _ A5.out).mono ?_); rintro e w' ⟨rfl, ⟨nd, rfl⟩⟩; (try first | exact ⟨rfl, _, World.drewN_drewN _ _ _⟩ | exact ⟨rfl, _, Eq.trans (World.drewN_drewN _ _ _) (congrArg (World.drewN _) (Nat.add_assoc _ _ _))⟩)) | (go_at_call 19; (with_reducible refine (spec_thTable.calls k a0 a3 t152 t153 _ A7.out).mono ?_); rintro e w13 ⟨v154, v156, rfl, ho0, ho1, hb⟩; have n0_ := Aside0.mk (Kd.S_lower ho0 (below_size (by repeat (first | (with_reducible first | exact HB.out | apply below_alloc | apply pw_below_drewN | apply below_drew1) | exact HB.out)))); have n1_ := Aside0.mk (Kd.S_lower ho1 (below_size (by repeat (first | (with_reducible first | exact HB.out | apply below_alloc | apply pw_below_drewN | apply below_drew1) | exact HB.out)))); have n2_ := Aside0.mk (below_step (by repeat (first | (with_reducible first | exact HB.out | apply below_alloc | apply pw_below_drewN | apply below_drew1) | exact HB.out)) hb); clear HB; have HO155 := n0_; have HO157 := n1_; have HB := n2_; clear n0_ n1_ n2_; (try clear hb); (try clear hb2); (try clear hk); (try clear hi); (try clear ho0); (try clear ho1); obtain ⟨Ao14, co14, eo14⟩ := Kd.S_slice HO157.out; subst eo14; have p158 : 0 ≤ (0 : Int) := (by omega); have q158 : 0 < (t153.length : Int) := of_decide_eq_true (by first | (with_reducible assumption) | assumption); obtain ⟨ad158, A158_0, c158_0, e158, hx158_0, hl158_0, hi158_0⟩ := at_L1 (Kd.S_reads' HO157.out).2.2 0 p158 q158; cases e158; obtain ⟨ce158, hce158, hMe158, hcc158⟩ := Kd.S_get HO157.out [] 0 p158 (by first | exact q158 | exact of_decide_eq_true (by first | (with_reducible assumption) | assumption) | (have e_ := (Kd.S_reads' HO157.out).1; omega)); obtain ⟨ve158_0, rfl, ge158_0⟩ := hMe158; have hv158_0 := hcc158 0 _ rfl; rw [Nat.add_zero, show ((Kd.slice 3 (Kd.int .i64))).sz = 1 from rfl, Nat.mul_one] at hv158_0; replace hv158_0 := Option.some.inj (hv158_0.symm.trans hx158_0); rw [hv158_0] at ge158_0; have HL158_0 := Aside0.mk (show Kd.R (Kd.int .i64) 3 _ _ _ _ (rd_L1 t153 0) from ge158_0); clear hv158_0 ge158_0; clear hcc158 hce158; have qi158 : (0 < t153.length) = True := eq_true (by omega); (try rw [show ((0 : Int)).toNat = 0 from rfl] at hx158_0); (try rw [Addr.add_zero'] at hx158_0); have HR158_0 := Aside0.mk hi158_0; have HC158_0 := Aside0.mk hl158_0; clear hi158_0 hl158_0; replace p158 := eq_true p158; replace q158 := eq_true q158) | (go_at_call 20; (with_reducible refine (spec_thAt.calls k a1 a2 t159 _ A9.out).mono ?_); rintro e w' ⟨rfl, ⟨nd, rfl⟩⟩; (try first | exact ⟨rfl, _, World.drewN_drewN _ _ _⟩ | exact ⟨rfl, _, Eq.trans (World.drewN_drewN _ _ _) (congrArg (World.drewN _) (Nat.add_assoc _ _ _))⟩); have p160 : 0 ≤ (t159 : Int) := of_decide_eq_true (by first | (with_reducible assumption) | assumption); have q160 : t159 < ((rd_L1 t153 0).length : Int) := of_decide_eq_true (by first | (with_reducible assumption) | assumption); obtain ⟨ad160, e160, hx160_0⟩ := Kd.at_int (by repeat (first | (with_reducible exact HR158_0.out) | (with_reducible refine Kd.C_alloc ?_ _) | (with_reducible refine Kd.C_drewN ?_ _) | (with_reducible refine Kd.C_drew ?_) | exact HR158_0.out)) t159 p160 q160; cases e160; replace p160 := eq_true p160; replace q160 := eq_true q160)))
            go_ret2
            exact ⟨by first | rfl | (simp [errW_none, errW_some] <;> rfl) | (simp [*, errW_none, errW_some] <;> rfl), by repeat (first | (with_reducible first | exact HB.out | apply below_alloc | apply pw_below_drewN | apply below_drew1) | exact HB.out)⟩
          · rw [if_neg c12] at H
            have c12b0 : decide ((rd (rd_L1 t153 0) t159) ≤ 1000000000000000) = false := decide_eq_false c12
            clear c12
            simp only [Option.some.injEq, Prod.mk.injEq] at H
            obtain ⟨rfl, rfl⟩ := H
            go_enter Tryd.func9, Tryd.ntmps9
            go_wp2_with (first | (go_at_call 18; (with_reducible refine (spec_thBoth.calls k a0 a1 a2 true _ A5.out).mono ?_); rintro e w' ⟨rfl, ⟨nd, rfl⟩⟩; (try first | exact ⟨rfl, _, World.drewN_drewN _ _ _⟩ | exact ⟨rfl, _, Eq.trans (World.drewN_drewN _ _ _) (congrArg (World.drewN _) (Nat.add_assoc _ _ _))⟩)) | (go_at_call 19; (with_reducible refine (spec_thTable.calls k a0 a3 t152 t153 _ A7.out).mono ?_); rintro e w15 ⟨v154, v156, rfl, ho0, ho1, hb⟩; have n0_ := Aside0.mk (Kd.S_lower ho0 (below_size (by repeat (first | (with_reducible first | exact HB.out | apply below_alloc | apply pw_below_drewN | apply below_drew1) | exact HB.out)))); have n1_ := Aside0.mk (Kd.S_lower ho1 (below_size (by repeat (first | (with_reducible first | exact HB.out | apply below_alloc | apply pw_below_drewN | apply below_drew1) | exact HB.out)))); have n2_ := Aside0.mk (below_step (by repeat (first | (with_reducible first | exact HB.out | apply below_alloc | apply pw_below_drewN | apply below_drew1) | exact HB.out)) hb); clear HB; have HO155 := n0_; have HO157 := n1_; have HB := n2_; clear n0_ n1_ n2_; (try clear hb); (try clear hb2); (try clear hk); (try clear hi); (try clear ho0); (try clear ho1); obtain ⟨Ao16, co16, eo16⟩ := Kd.S_slice HO157.out; subst eo16; have p158 : 0 ≤ (0 : Int) := (by omega); have q158 : 0 < (t153.length : Int) := of_decide_eq_true (by first | (with_reducible assumption) | assumption); obtain ⟨ad158, A158_0, c158_0, e158, hx158_0, hl158_0, hi158_0⟩ := at_L1 (Kd.S_reads' HO157.out).2.2 0 p158 q158; cases e158; obtain ⟨ce158, hce158, hMe158, hcc158⟩ := Kd.S_get HO157.out [] 0 p158 (by first | exact q158 | exact of_decide_eq_true (by first | (with_reducible assumption) | assumption) | (have e_ := (Kd.S_reads' HO157.out).1; omega)); obtain ⟨ve158_0, rfl, ge158_0⟩ := hMe158; have hv158_0 := hcc158 0 _ rfl; rw [Nat.add_zero, show ((Kd.slice 3 (Kd.int .i64))).sz = 1 from rfl, Nat.mul_one] at hv158_0; replace hv158_0 := Option.some.inj (hv158_0.symm.trans hx158_0); rw [hv158_0] at ge158_0; have HL158_0 := Aside0.mk (show Kd.R (Kd.int .i64) 3 _ _ _ _ (rd_L1 t153 0) from ge158_0); clear hv158_0 ge158_0; clear hcc158 hce158; have qi158 : (0 < t153.length) = True := eq_true (by omega); (try rw [show ((0 : Int)).toNat = 0 from rfl] at hx158_0); (try rw [Addr.add_zero'] at hx158_0); have HR158_0 := Aside0.mk hi158_0; have HC158_0 := Aside0.mk hl158_0; clear hi158_0 hl158_0; replace p158 := eq_true p158; replace q158 := eq_true q158) | (go_at_call 20; (with_reducible refine (spec_thAt.calls k a1 a2 t159 _ A9.out).mono ?_); rintro e w' ⟨rfl, ⟨nd, rfl⟩⟩; (try first | exact ⟨rfl, _, World.drewN_drewN _ _ _⟩ | exact ⟨rfl, _, Eq.trans (World.drewN_drewN _ _ _) (congrArg (World.drewN _) (Nat.add_assoc _ _ _))⟩); have p160 : 0 ≤ (t159 : Int) := of_decide_eq_true (by first | (with_reducible assumption) | assumption); have q160 : t159 < ((rd_L1 t153 0).length : Int) := of_decide_eq_true (by first | (with_reducible assumption) | assumption); obtain ⟨ad160, e160, hx160_0⟩ := Kd.at_int (by repeat (first | (with_reducible exact HR158_0.out) | (with_reducible refine Kd.C_alloc ?_ _) | (with_reducible refine Kd.C_drewN ?_ _) | (with_reducible refine Kd.C_drew ?_) | exact HR158_0.out)) t159 p160 q160; cases e160; replace p160 := eq_true p160; replace q160 := eq_true q160))
            repeat (go_quiet (first | (go_at_call 18; (with_reducible refine (spec_thBoth.calls k a0 a1 a2 true _ A5.out).mono ?_); rintro e w' ⟨rfl, ⟨nd, rfl⟩⟩; (try first | exact ⟨rfl, _, World.drewN_drewN _ _ _⟩ | exact ⟨rfl, _, Eq.trans (World.drewN_drewN _ _ _) (congrArg (World.drewN _) (Nat.add_assoc _ _ _))⟩)) | (go_at_call 19; (with_reducible refine (spec_thTable.calls k a0 a3 t152 t153 _ A7.out).mono ?_); rintro e w15 ⟨v154, v156, rfl, ho0, ho1, hb⟩; have n0_ := Aside0.mk (Kd.S_lower ho0 (below_size (by repeat (first | (with_reducible first | exact HB.out | apply below_alloc | apply pw_below_drewN | apply below_drew1) | exact HB.out)))); have n1_ := Aside0.mk (Kd.S_lower ho1 (below_size (by repeat (first | (with_reducible first | exact HB.out | apply below_alloc | apply pw_below_drewN | apply below_drew1) | exact HB.out)))); have n2_ := Aside0.mk (below_step (by repeat (first | (with_reducible first | exact HB.out | apply below_alloc | apply pw_below_drewN | apply below_drew1) | exact HB.out)) hb); clear HB; have HO155 := n0_; have HO157 := n1_; have HB := n2_; clear n0_ n1_ n2_; (try clear hb); (try clear hb2); (try clear hk); (try clear hi); (try clear ho0); (try clear ho1); obtain ⟨Ao16, co16, eo16⟩ := Kd.S_slice HO157.out; subst eo16; have p158 : 0 ≤ (0 : Int) := (by omega); have q158 : 0 < (t153.length : Int) := of_decide_eq_true (by first | (with_reducible assumption) | assumption); obtain ⟨ad158, A158_0, c158_0, e158, hx158_0, hl158_0, hi158_0⟩ := at_L1 (Kd.S_reads' HO157.out).2.2 0 p158 q158; cases e158; obtain ⟨ce158, hce158, hMe158, hcc158⟩ := Kd.S_get HO157.out [] 0 p158 (by first | exact q158 | exact of_decide_eq_true (by first | (with_reducible assumption) | assumption) | (have e_ := (Kd.S_reads' HO157.out).1; omega)); obtain ⟨ve158_0, rfl, ge158_0⟩ := hMe158; have hv158_0 := hcc158 0 _ rfl; rw [Nat.add_zero, show ((Kd.slice 3 (Kd.int .i64))).sz = 1 from rfl, Nat.mul_one] at hv158_0; replace hv158_0 := Option.some.inj (hv158_0.symm.trans hx158_0); rw [hv158_0] at ge158_0; have HL158_0 := Aside0.mk (show Kd.R (Kd.int .i64) 3 _ _ _ _ (rd_L1 t153 0) from ge158_0); clear hv158_0 ge158_0; clear hcc158 hce158; have qi158 : (0 < t153.length) = True := eq_true (by omega); (try rw [show ((0 : Int)).toNat = 0 from rfl] at hx158_0); (try rw [Addr.add_zero'] at hx158_0); have HR158_0 := Aside0.mk hi158_0; have HC158_0 := Aside0.mk hl158_0; clear hi158_0 hl158_0; replace p158 := eq_true p158; replace q158 := eq_true q158) | (go_at_call 20; (with_reducible refine (spec_thAt.calls k a1 a2 t159 _ A9.out).mono ?_); rintro e w' ⟨rfl, ⟨nd, rfl⟩⟩; (try first | exact ⟨rfl, _, World.drewN_drewN _ _ _⟩ | exact ⟨rfl, _, Eq.trans (World.drewN_drewN _ _ _) (congrArg (World.drewN _) (Nat.add_assoc _ _ _))⟩); have p160 : 0 ≤ (t159 : Int) := of_decide_eq_true (by first | (with_reducible assumption) | assumption); have q160 : t159 < ((rd_L1 t153 0).length : Int) := of_decide_eq_true (by first | (with_reducible assumption) | assumption); obtain ⟨ad160, e160, hx160_0⟩ := Kd.at_int (by repeat (first | (with_reducible exact HR158_0.out) | (with_reducible refine Kd.C_alloc ?_ _) | (with_reducible refine Kd.C_drewN ?_ _) | (with_reducible refine Kd.C_drew ?_) | exact HR158_0.out)) t159 p160 q160; cases e160; replace p160 := eq_true p160; replace q160 := eq_true q160)); try go_wp2_with (first | (go_at_call 18; (with_reducible refine (spec_thBoth.calls k a0 a1 a2 true _ A5.out).mono ?_); rintro e w' ⟨rfl, ⟨nd, rfl⟩⟩; (try first | exact ⟨rfl, _, World.drewN_drewN _ _ _⟩ | exact ⟨rfl, _, Eq.trans (World.drewN_drewN _ _ _) (congrArg (World.drewN _) (Nat.add_assoc _ _ _))⟩)) | (go_at_call 19; (with_reducible refine (spec_thTable.calls k a0 a3 t152 t153 _ A7.out).mono ?_); rintro e w15 ⟨v154, v156, rfl, ho0, ho1, hb⟩; have n0_ := Aside0.mk (Kd.S_lower ho0 (below_size (by repeat (first | (with_reducible first | exact HB.out | apply below_alloc | apply pw_below_drewN | apply below_drew1) | exact HB.out)))); have n1_ := Aside0.mk (Kd.S_lower ho1 (below_size (by repeat (first | (with_reducible first | exact HB.out | apply below_alloc | apply pw_below_drewN | apply below_drew1) | exact HB.out)))); have n2_ := Aside0.mk (below_step (by repeat (first | (with_reducible first | exact HB.out | apply below_alloc | apply pw_below_drewN | apply below_drew1) | exact HB.out)) hb); clear HB; have HO155 := n0_; have HO157 := n1_; have HB := n2_; clear n0_ n1_ n2_; (try clear hb); (try clear hb2); (try clear hk); (try clear hi); (try clear ho0); (try clear ho1); obtain ⟨Ao16, co16, eo16⟩ := Kd.S_slice HO157.out; subst eo16; have p158 : 0 ≤ (0 : Int) := (by omega); have q158 : 0 < (t153.length : Int) := of_decide_eq_true (by first | (with_reducible assumption) | assumption); obtain ⟨ad158, A158_0, c158_0, e158, hx158_0, hl158_0, hi158_0⟩ := at_L1 (Kd.S_reads' HO157.out).2.2 0 p158 q158; cases e158; obtain ⟨ce158, hce158, hMe158, hcc158⟩ := Kd.S_get HO157.out [] 0 p158 (by first | exact q158 | exact of_decide_eq_true (by first | (with_reducible assumption) | assumption) | (have e_ := (Kd.S_reads' HO157.out).1; omega)); obtain ⟨ve158_0, rfl, ge158_0⟩ := hMe158; have hv158_0 := hcc158 0 _ rfl; rw [Nat.add_zero, show ((Kd.slice 3 (Kd.int .i64))).sz = 1 from rfl, Nat.mul_one] at hv158_0; replace hv158_0 := Option.some.inj (hv158_0.symm.trans hx158_0); rw [hv158_0] at ge158_0; have HL158_0 := Aside0.mk (show Kd.R (Kd.int .i64) 3 _ _ _ _ (rd_L1 t153 0) from ge158_0); clear hv158_0 ge158_0; clear hcc158 hce158; have qi158 : (0 < t153.length) = True := eq_true (by omega); (try rw [show ((0 : Int)).toNat = 0 from rfl] at hx158_0); (try rw [Addr.add_zero'] at hx158_0); have HR158_0 := Aside0.mk hi158_0; have HC158_0 := Aside0.mk hl158_0; clear hi158_0 hl158_0; replace p158 := eq_true p158; replace q158 := eq_true q158) | (go_at_call 20; (with_reducible refine (spec_thAt.calls k a1 a2 t159 _ A9.out).mono ?_); rintro e w' ⟨rfl, ⟨nd, rfl⟩⟩; (try first | exact ⟨rfl, _, World.drewN_drewN _ _ _⟩ | exact ⟨rfl, _, Eq.trans (World.drewN_drewN _ _ _) (congrArg (World.drewN _) (Nat.add_assoc _ _ _))⟩); have p160 : 0 ≤ (t159 : Int) := of_decide_eq_true (by first | (with_reducible assumption) | assumption); have q160 : t159 < ((rd_L1 t153 0).length : Int) := of_decide_eq_true (by first | (with_reducible assumption) | assumption); obtain ⟨ad160, e160, hx160_0⟩ := Kd.at_int (by repeat (first | (with_reducible exact HR158_0.out) | (with_reducible refine Kd.C_alloc ?_ _) | (with_reducible refine Kd.C_drewN ?_ _) | (with_reducible refine Kd.C_drew ?_) | exact HR158_0.out)) t159 p160 q160; cases e160; replace p160 := eq_true p160; replace q160 := eq_true q160)))
            go_ret2
            exact ⟨by first | rfl | (simp [errW_none, errW_some] <;> rfl) | (simp [*, errW_none, errW_some] <;> rfl), by repeat (first | (with_reducible first | exact HB.out | apply below_alloc | apply pw_below_drewN | apply below_drew1) | exact HB.out)⟩
        · rw [if_neg c11] at H
          exact absurd H (by simp)
      · rw [if_neg c10] at H
        exact absurd H (by simp)
    · rw [if_neg c8] at H
      exact absurd H (by simp)
  · replace c6 := Bool.eq_false_iff.mpr c6
    subst c6
    have H1 : (some (0, false)) = some (r1, r2) := by rw [if_neg (show ¬ (false = true) by decide)] at H; exact H
    clear H
    have H := H1
    clear H1
    simp only [Option.some.injEq, Prod.mk.injEq] at H
    obtain ⟨rfl, rfl⟩ := H
    go_enter Tryd.func9, Tryd.ntmps9
    go_wp2_with (first | (go_at_call 18; (with_reducible refine (spec_thBoth.calls k a0 a1 a2 false _ A5.out).mono ?_); rintro e w' ⟨rfl, ⟨nd, rfl⟩⟩; (try first | exact ⟨rfl, _, World.drewN_drewN _ _ _⟩ | exact ⟨rfl, _, Eq.trans (World.drewN_drewN _ _ _) (congrArg (World.drewN _) (Nat.add_assoc _ _ _))⟩)))
    repeat (go_quiet (first | (go_at_call 18; (with_reducible refine (spec_thBoth.calls k a0 a1 a2 false _ A5.out).mono ?_); rintro e w' ⟨rfl, ⟨nd, rfl⟩⟩; (try first | exact ⟨rfl, _, World.drewN_drewN _ _ _⟩ | exact ⟨rfl, _, Eq.trans (World.drewN_drewN _ _ _) (congrArg (World.drewN _) (Nat.add_assoc _ _ _))⟩))); try go_wp2_with (first | (go_at_call 18; (with_reducible refine (spec_thBoth.calls k a0 a1 a2 false _ A5.out).mono ?_); rintro e w' ⟨rfl, ⟨nd, rfl⟩⟩; (try first | exact ⟨rfl, _, World.drewN_drewN _ _ _⟩ | exact ⟨rfl, _, Eq.trans (World.drewN_drewN _ _ _) (congrArg (World.drewN _) (Nat.add_assoc _ _ _))⟩))))
    go_ret2
    exact ⟨by first | rfl | (simp [errW_none, errW_some] <;> rfl) | (simp [*, errW_none, errW_some] <;> rfl), by repeat (first | (with_reducible first | exact HB.out | apply below_alloc | apply pw_below_drewN | apply below_drew1) | exact HB.out)⟩

end Go.Proofs.YthnjmokaiiajmaaDoor.P

namespace Go.Proofs.YthnjmokaiiajmaaDoor.P
open Go.RowKit Go.Proofs.YthnjmokaiiajmaaDoorW.PrintWords Go.Proofs.YthnjmokaiiajmaaDoorW.PrintLast Go.Proofs.YthnjmokaiiajmaaDoorW.PrintMore
attribute [local go_sem] max2_int min2_int max_two min_two max_three min_three max_four min_four   -- for this text's walks alone
set_option linter.unusedVariables false
set_option linter.unusedSimpArgs false

/-! ### impl_CountThumbs: function 10 -/
def impl_CountThumbs.f (k : Nat) (a0 a1 a2 : ByteArray) (a3 : Bool) : Option (Int × Bool) := (impl_thumbsOk.f k a0 a1 a2).bind fun bt => (if bt.2.2 = true then ((impl_newLooker.f k a0 a3).bind fun t => ((impl_looker_from.f k t 0 bt.1 bt.2.1).bind fun o => (if 1000000000000000 < o.2 then some (0, false) else some (o.2, true)))) else (some (0, false)))
theorem impl_CountThumbs.mono : ∀ a0 a1 a2 a3 k, LeO (impl_CountThumbs.f k a0 a1 a2 a3) (impl_CountThumbs.f (k + 1) a0 a1 a2 a3) := by
  intro a0 a1 a2 a3 k
  unfold impl_CountThumbs.f
  refine LeO.bind (impl_thumbsOk.mono _ _ _ _) (fun _ => ?_)
  refine LeO.ite ?_ (LeO.refl _)
  exact LeO.bind (impl_newLooker.mono _ _ _) (fun _ => LeO.bind (impl_looker_from.mono _ _ _ _ _) (fun _ => LeO.refl _))
set_option maxHeartbeats 8000000 in
set_option maxRecDepth 100000 in
theorem impl_CountThumbs.calls (k : Nat) (a0 a1 a2 : ByteArray) (a3 : Bool) (r1 : Int) (r2 : Bool) (w : World) (h : impl_CountThumbs.f k a0 a1 a2 a3 = some (r1, r2)) :
    Calls Tryd.prog 10 #[.string a0, .string a1, .string a2, .bool a3] w fun e w' => e = .returned (.tuple #[.int .i64 r1, .bool r2]) ∧ Below w.heap.size w w' := by
  unfold impl_CountThumbs.f at h
  obtain ⟨⟨tl, tr, ok⟩, h1, h⟩ := Option.bind_eq_some_iff.1 h
  have H1 := Aside0.mk h1
  have hu39 := Tryd.underlying39
  have hu43 := Tryd.underlying43
  clear h1
  cases ok with
  | false =>
    rw [if_neg (by simp)] at h
    obtain ⟨rfl, rfl⟩ := Prod.mk.inj (Option.some.inj h)
    go_enter Tryd.func10, Tryd.ntmps10
    go_wp2_with (first | (go_at_call 21; refine (impl_thumbsOk.calls k a0 a1 a2 tl tr false _ H1.out).mono ?_; rintro e w1 ⟨rfl, hb⟩))
    go_ret2
    exact ⟨rfl, below_alloc hb _⟩
  | true =>
    rw [if_pos rfl] at h
    obtain ⟨t, h2, h⟩ := Option.bind_eq_some_iff.1 h
    obtain ⟨⟨s, p⟩, h3, h⟩ := Option.bind_eq_some_iff.1 h
    have H2 := Aside0.mk h2
    have H3 : Aside0 (impl_looker_from.f k t 0 tl tr = some (s, p)) := ⟨h3⟩
    have H4 := Aside0.mk h
    clear h2 h3 h
    go_enter Tryd.func10, Tryd.ntmps10
    go_upto_region 4 with (first | (go_at_call 21; refine (impl_thumbsOk.calls k a0 a1 a2 tl tr true _ H1.out).mono ?_; rintro e w1 ⟨rfl, hb⟩))
    have HB1 : Aside0 (Below w.heap.size w (w1.alloc (.cells #[.int .i64 tl, .int .i64 tr] 39))) := ⟨below_alloc hb _⟩
    have h10 := blk_new w1 (.cells #[.int .i64 tl, .int .i64 tr] 39)
    have hlt := blk_lt h10
    clear hb H1
    generalize w1.alloc (.cells #[.int .i64 tl, .int .i64 tr] 39) = W1 at *
    generalize w1.heap.size = b10 at *
    have c0 : W1.cell? ⟨b10, 0, none⟩ = some (.int .i64 tl) := (blk_cell h10 0).trans rfl
    have c1 : W1.cell? ⟨b10, 1, none⟩ = some (.int .i64 tr) := (blk_cell h10 1).trans rfl
    have H10 := Aside0.mk h10
    clear h10
    have hfl : ∀ W : World, (Instr.field 43 (.agg #[.int .i64 s, .int .i64 p]) 1).run Tryd.prog W = .ok (.int .i64 p) W := fun W => by kernel_rfl
    go_region_held3 (fun w' => w'.cell? ⟨b10, 0, none⟩ = some (.int .i64 tl) ∧ w'.cell? ⟨b10, 1, none⟩ = some (.int .i64 tr)) (first | go_keep | exact ⟨(blk_cell hk3 0).trans rfl, (blk_cell hk3 1).trans rfl⟩ | exact ⟨(blk_cell hk2 0).trans rfl, (blk_cell hk2 1).trans rfl⟩) (first | (go_at_call 22; refine (impl_newLooker.calls k a0 a3 t _ H2.out).mono ?_; rintro e w2 ⟨D, rfl, hDL, hDc, hlim, hms, hLk, hb2⟩; have hk2 := blk_below H10.out (((Below.refl _ _).drew).trans hb2)) | (go_at_call 23; refine (impl_looker_from.calls k t 0 tl tr s p _ H3.out D hDL hDc hLk hlim).mono ?_; rintro e w3 ⟨rfl, hLk3, hMK⟩; have hk3 := hMK.blk hLk hk2))
    all_goals
      have hbw : Below w.heap.size w w3 := hMK.below (below_step HB1.out (((Below.refl _ _).drew).trans hb2)) (by have := HB1.out.size; have := hb2.size; exact Nat.le_trans ‹_› ‹_›) (fun m hm => Nat.le_trans HB1.out.size (hms.ms m hm))
      have HBW := Aside0.mk hbw
      clear hbw hMK hLk hLk3 hms hlim hDL hDc hb2 hk2 hk3

      by_cases hp : 1000000000000000 < p
      · have hpd : decide (1000000000000000 < p) = true := decide_eq_true hp
        have H5 := H4.out
        rw [if_pos hp] at H5
        obtain ⟨rfl, rfl⟩ := Prod.mk.inj (Option.some.inj H5)
        go_wp2
        go_ret2
        exact ⟨rfl, HBW.out⟩
      · have hpd : decide (1000000000000000 < p) = false := decide_eq_false hp
        have H5 := H4.out
        rw [if_neg hp] at H5
        obtain ⟨rfl, rfl⟩ := Prod.mk.inj (Option.some.inj H5)
        go_wp2
        go_ret2
        exact ⟨rfl, HBW.out⟩

end Go.Proofs.YthnjmokaiiajmaaDoor.P

namespace Go.Proofs.YthnjmokaiiajmaaDoor.Pu
open Go.RowKit Go.Proofs.YthnjmokaiiajmaaDoorW.PrintWords Go.Proofs.YthnjmokaiiajmaaDoorW.PrintLast Go.Proofs.YthnjmokaiiajmaaDoorW.PrintMore

/-! ### rounds -/
theorem ev_succ {α : Type} {g : Nat → Option α} {r : α} (h : Ev (fun k => g (k + 1)) r) : Ev g r := by
  obtain ⟨K, h⟩ := h
  refine ⟨K + 1, fun n hn => ?_⟩
  obtain ⟨m, rfl⟩ : ∃ m, n = m + 1 := ⟨n - 1, by omega⟩
  exact h m (by omega)
theorem ev_from {α : Type} {g : Nat → Option α} {r : α} (K : Nat) (h : ∀ k, K ≤ k → g (k + 1) = some r) : Ev g r := by
  refine ⟨K + 1, fun n hn => ?_⟩
  obtain ⟨m, rfl⟩ : ∃ m, n = m + 1 := ⟨n - 1, by omega⟩
  exact h m (by omega)
theorem ev_const {α : Type} {x : Option α} {r : α} (h : x = some r) : Ev (fun _ => x) r := ⟨0, fun _ _ => h⟩
/-- As Option.bind_some; its proof is no 'rfl', so the kernel is not asked to compare two binds. -/
theorem bsome {α β : Type} (a : α) (f : α → Option β) : (some a).bind f = f a := Option.bind_some a f
theorem ev_at {α : Type} {g : Nat → Option α} {r : α} (h : Ev g r) : ∃ k, g k = some r := h.rounds
theorem ev_both {α β : Type} {g : Nat → Option α} {f : Nat → Option β} {r : α} {q : β} (h : Ev g r) (h' : Ev f q) : ∃ K, ∀ k, K ≤ k → g k = some r ∧ f k = some q := by
  obtain ⟨K, h⟩ := h
  obtain ⟨K', h'⟩ := h'
  exact ⟨K + K', fun k hk => ⟨h k (by omega), h' k (by omega)⟩⟩
theorem ev_eq {α : Type} {g : Nat → Option α} {r r' : α} (h : Ev g r) (e : r = r') : Ev g r' := e ▸ h
theorem ev_unique {α : Type} {g : Nat → Option α} {r r' : α} (h : Ev g r) (h' : Ev g r') : r = r' := by
  obtain ⟨K, h⟩ := ev_both h h'
  have := h K (Nat.le_refl _)
  exact Option.some.inj (this.1.symm.trans this.2)

/-! ### numbers -/
theorem wr {x : Int} (h0 : -9223372036854775808 ≤ x) (h1 : x ≤ 9223372036854775807) : wrap64 x = x := by unfold wrap64; omega
theorem wr32 {x : Int} (h0 : -2147483648 ≤ x) (h1 : x ≤ 2147483647) : wrap32 x = x := by unfold wrap32; omega
theorem wf64 {x : Int} (h : (Lit.int .i64 x).wf = true) : -9223372036854775808 ≤ x ∧ x ≤ 9223372036854775807 := by
  simp only [Lit.wf] at h
  rw [Bool.and_eq_true] at h
  have h1 := of_decide_eq_true h.1
  have h2 := of_decide_eq_true h.2
  exact ⟨h1, h2⟩

/-! ### bytes -/
theorem bytes_ext {s t : ByteArray} (h : bytesOf s = bytesOf t) : s = t := by
  have h1 : s.data.toList = t.data.toList := by
    unfold bytesOf at h
    refine List.ext_getElem (by simpa using congrArg List.length h) fun i h1 h2 => ?_
    have := congrArg (fun l => l[i]?) h
    simp only [List.getElem?_map, List.getElem?_eq_getElem h1, List.getElem?_eq_getElem h2, Option.map_some, Option.some.injEq] at this
    exact UInt8.toNat_inj.1 (by omega)
  cases s; cases t
  simp only [ByteArray.mk.injEq]
  exact Array.toList_inj.1 h1
theorem size_bytes (s : ByteArray) : s.size = (bytesOf s).length := (bytesOf_length s).symm
theorem bt_bytes (s : ByteArray) (i : Int) : bt s i = (bytesOf s).getD i.toNat 0 := by rw [← rd_bytesOf]; rfl
theorem bytes_range (s : ByteArray) : ∀ c ∈ bytesOf s, 0 ≤ c ∧ c ≤ 255 := by
  intro c hc
  unfold bytesOf at hc
  obtain ⟨b, _, rfl⟩ := List.mem_map.1 hc
  have := b.toNat_lt
  omega
theorem bytes_nums {L : List Int} (h : ∀ c ∈ L, 0 ≤ c ∧ c ≤ 255) : bytesOf (strOfNums L) = L := by
  unfold bytesOf strOfNums
  simp only [List.map_map]
  conv => rhs; rw [← List.map_id L]
  refine List.map_congr_left fun c hc => ?_
  have := h c hc
  show ((UInt8.ofNat c.toNat).toNat : Int) = c
  rw [UInt8.toNat_ofNat']
  omega
theorem nums_bytes (s : ByteArray) : strOfNums (bytesOf s) = s := bytes_ext (bytes_nums (bytes_range s))
theorem size_nums (L : List Int) : (strOfNums L).size = L.length := by
  unfold strOfNums
  simp [ByteArray.size]
theorem nums_inj {L M : List Int} (h : ∀ c ∈ L, 0 ≤ c ∧ c ≤ 255) (h' : ∀ c ∈ M, 0 ≤ c ∧ c ≤ 255) (e : strOfNums L = strOfNums M) : L = M := by
  rw [← bytes_nums h, ← bytes_nums h', e]
theorem bytes_append (s t : ByteArray) : bytesOf (s ++ t) = bytesOf s ++ bytesOf t := by
  unfold bytesOf
  rw [ByteArray.data_append, Array.toList_append, List.map_append]
theorem bytes_extract (s : ByteArray) (a b : Nat) : bytesOf (s.extract a b) = ((bytesOf s).take b).drop a := by
  unfold bytesOf
  rw [ByteArray.data_extract, Array.toList_extract, List.extract_eq_take_drop, List.map_take, List.map_drop]
  rw [List.drop_take]
theorem numsApp (L M : List Int) : strOfNums (L ++ M) = strOfNums L ++ strOfNums M := by
  unfold strOfNums
  simp only [List.map_append]
  cases h : (ByteArray.mk (L.map fun x => x.toNat.toUInt8).toArray ++ ByteArray.mk (M.map fun x => x.toNat.toUInt8).toArray) with
  | mk d =>
    have := congrArg ByteArray.data h
    rw [ByteArray.data_append] at this
    simp only at this
    rw [← this]
    congr 1
    simp
theorem toList_bytes {s t : ByteArray} : s.toList = t.toList ↔ s = t := by
  rw [Lib.toList_data, Lib.toList_data]
  refine ⟨fun h => bytes_ext (by unfold bytesOf; rw [h]), fun h => by rw [h]⟩
theorem encode_small {c : Int} (h0 : 0 ≤ c) (h1 : c < 128) : Utf8.encode c = strOfNums [c] := by
  unfold Utf8.encode strOfNums
  have hv : Utf8.valid c = true := by unfold Utf8.valid; simp; omega
  have hc : c.toNat < 128 := by omega
  simp only [hv, if_true, hc]
  simp
theorem bytes_all {p : UInt8 → Bool} {q : Int → Bool} (h : ∀ b : UInt8, p b = q b.toNat) (s : ByteArray) : s.data.toList.all p = (bytesOf s).all q := by
  unfold bytesOf
  rw [List.all_map]
  congr 1
  funext b
  exact h b

theorem drop_bytes (s : ByteArray) (i : Nat) (h : i < s.size) : (bytesOf s).drop i = bt s i :: (bytesOf s).drop (i + 1) := by
  have hl : i < (bytesOf s).length := by rw [bytesOf_length]; exact h
  rw [List.drop_eq_getElem_cons hl, bt_bytes, Int.toNat_natCast, List.getD_eq_getElem?_getD, List.getElem?_eq_getElem hl]
  rfl
theorem drop_end (s : ByteArray) : (bytesOf s).drop s.size = [] := List.drop_eq_nil_of_le (by rw [bytesOf_length]; exact Nat.le_refl _)

theorem bt_mem (s : ByteArray) (i : Nat) (h : i < s.size) : bt s i ∈ bytesOf s := by
  have hd := drop_bytes s i h
  have : bt s i ∈ (bytesOf s).drop i := by rw [hd]; exact List.mem_cons_self
  exact List.mem_of_mem_drop this

/-! ### Trim against a list of signs -/
theorem dropWhile_nil_all {α : Type} (p : α → Bool) (l : List α) : l.dropWhile p = [] ↔ l.all p = true := by
  induction l with
  | nil => simp
  | cons a l ih =>
    rw [List.dropWhile_cons, List.all_cons]
    cases h : p a <;> simp [ih]
theorem trimS_nil (l cs : List UInt8) : Lib.trimS l cs = [] ↔ l.all (fun b => cs.contains b) = true := by
  unfold Lib.trimS Lib.trimLeftS Lib.trimRightS
  rw [dropWhile_nil_all]
  constructor
  · intro h
    have hr : ∀ (m : List UInt8), ((m.dropWhile (cs.contains ·)).reverse).all (fun b => cs.contains b) = true → m.all (fun b => cs.contains b) = true := by
      intro m
      induction m with
      | nil => simp
      | cons a m ih =>
        rw [List.dropWhile_cons]
        cases ha : cs.contains a with
        | true => intro h; rw [if_pos rfl] at h; simp only [List.all_cons, ha, Bool.true_and]; exact ih h
        | false => intro h; simp at h; simpa using And.intro h.2 h.1
    have := hr l.reverse h
    simpa using this
  · intro h
    have : l.reverse.dropWhile (cs.contains ·) = [] := (dropWhile_nil_all _ _).2 (by simpa using h)
    rw [this]
    rfl

end Go.Proofs.YthnjmokaiiajmaaDoor.Pu

namespace Go.Proofs.YthnjmokaiiajmaaDoor.Pu
open Go.RowKit Go.Proofs.YthnjmokaiiajmaaDoor.P Go.Proofs.YthnjmokaiiajmaaDoorW.PrintWords Go.Proofs.YthnjmokaiiajmaaDoorW.PrintLast Go.Proofs.YthnjmokaiiajmaaDoorW.PrintMore

def isPad (c : Int) : Bool := (decide (49 ≤ c) && decide (c ≤ 57)) || c == 42 || c == 48 || c == 35
/-- A key's place in the order of the pad. -/
def plN (c : Int) : Int := if 49 ≤ c then c - 49 else if c = 42 then 9 else if c = 48 then 10 else 11
/-- The key of a place. -/
def padC (p : Int) : Int := if p ≤ 8 then 49 + p else if p = 9 then 42 else if p = 10 then 48 else 35
theorem isPad_iff {c : Int} : isPad c = true ↔ (49 ≤ c ∧ c ≤ 57) ∨ c = 42 ∨ c = 48 ∨ c = 35 := by
  unfold isPad
  simp only [Bool.or_eq_true, Bool.and_eq_true, decide_eq_true_eq, beq_iff_eq]
  omega
theorem plN_range {c : Int} (h : isPad c = true) : 0 ≤ plN c ∧ plN c ≤ 11 := by
  have := isPad_iff.1 h
  unfold plN
  omega
theorem padC_plN {c : Int} (h : isPad c = true) : padC (plN c) = c := by
  have := isPad_iff.1 h
  unfold padC plN
  omega
theorem plN_padC {p : Int} (h : 0 ≤ p ∧ p ≤ 11) : plN (padC p) = p := by
  unfold padC plN
  omega
theorem padC_pad {p : Int} (h : 0 ≤ p ∧ p ≤ 11) : isPad (padC p) = true := by
  rw [isPad_iff]
  unfold padC
  omega
theorem padC_byte (p : Int) (h : 0 ≤ p) : 0 ≤ padC p ∧ padC p ≤ 255 := by
  unfold padC
  omega
theorem pad_contains (b : UInt8) : (⟨#[49, 50, 51, 52, 53, 54, 55, 56, 57, 42, 48, 35]⟩ : ByteArray).data.toList.contains b = isPad b.toNat := by
  have key : ∀ n : Fin 256, (⟨#[49, 50, 51, 52, 53, 54, 55, 56, 57, 42, 48, 35]⟩ : ByteArray).data.toList.contains (UInt8.ofNat n.val) = isPad (UInt8.ofNat n.val).toNat := by decide +kernel
  have := key ⟨b.toNat, b.toNat_lt⟩
  simpa using this
theorem pad_bt {p : Int} (h : 0 ≤ p ∧ p ≤ 11) : bt (⟨#[49, 50, 51, 52, 53, 54, 55, 56, 57, 42, 48, 35]⟩ : ByteArray) p = padC p := by
  have key : ∀ n : Fin 12, bt (⟨#[49, 50, 51, 52, 53, 54, 55, 56, 57, 42, 48, 35]⟩ : ByteArray) (n.val : Int) = padC (n.val : Int) := by decide +kernel
  have := key ⟨p.toNat, by omega⟩
  rwa [show ((p.toNat : Nat) : Int) = p by omega] at this
theorem pad_cut {p : Int} (h : 0 ≤ p ∧ p ≤ 11) : (⟨#[49, 50, 51, 52, 53, 54, 55, 56, 57, 42, 48, 35]⟩ : ByteArray).extract p.toNat (p + 1).toNat = strOfNums [padC p] := by
  have key : ∀ n : Fin 12, ((⟨#[49, 50, 51, 52, 53, 54, 55, 56, 57, 42, 48, 35]⟩ : ByteArray).extract n.val (n.val + 1)).data.toList = (strOfNums [padC (n.val : Int)]).data.toList := by decide +kernel
  have := key ⟨p.toNat, by omega⟩
  rw [show ((p.toNat : Nat) : Int) = p by omega] at this
  rw [show (p + 1).toNat = p.toNat + 1 by omega]
  exact bytes_ext (by unfold bytesOf; rw [this])
theorem place_is (c : Int) (h : isPad c = true) : impl_place.f c = some (plN c) := by
  have key : ∀ n : Fin 12, impl_place.f (padC (n.val : Int)) = some (n.val : Int) := by decide +kernel
  have hp := plN_range h
  have := key ⟨(plN c).toNat, by omega⟩
  rwa [show (((plN c).toNat : Nat) : Int) = plN c by omega, padC_plN h] at this
theorem thPlace_ev (c : Int) (h : 0 ≤ c ∧ c ≤ 255) : Ev (fun k => spec_thPlace.f k c) (if isPad c = true then plN c else -1) := by
  have key : ∀ n : Fin 256, spec_thPlace.f 14 (n.val : Int) = some (if isPad (n.val : Int) = true then plN (n.val : Int) else -1) := by decide +kernel
  have := key ⟨c.toNat, by omega⟩
  rw [show ((c.toNat : Nat) : Int) = c by omega] at this
  exact Ev.of (spec_thPlace.mono c) this
theorem thPlace_pad (c : Int) (h : isPad c = true) : Ev (fun k => spec_thPlace.f k c) (plN c) := by
  have h2 := isPad_iff.1 h
  have := thPlace_ev c ⟨by omega, by omega⟩
  rwa [if_pos h] at this

/-! ### texts of keys -/
def dialB (s : ByteArray) : Bool := decide (s.size ≤ 30) && (bytesOf s).all isPad
theorem dialB_iff {s : ByteArray} : dialB s = true ↔ s.size ≤ 30 ∧ ∀ c ∈ bytesOf s, isPad c = true := by
  unfold dialB
  simp [List.all_eq_true]
def oneB (s : ByteArray) : Bool := decide (s.size = 1) && dialB s
theorem oneB_iff {s : ByteArray} : oneB s = true ↔ s.size = 1 ∧ isPad (bt s 0) = true := by
  unfold oneB
  rw [Bool.and_eq_true, decide_eq_true_eq, dialB_iff]
  constructor
  · rintro ⟨h1, _, h2⟩
    exact ⟨h1, h2 _ (bt_mem s 0 (by omega))⟩
  · rintro ⟨h1, h2⟩
    refine ⟨h1, by omega, fun c hc => ?_⟩
    have := drop_bytes s 0 (by omega)
    rw [List.drop_zero, show (0 : Nat) + 1 = s.size by omega, drop_end] at this
    rw [this, List.mem_singleton] at hc
    rw [hc]
    exact h2
theorem isDialed_is (s : ByteArray) (hs : s.size ≤ 140737488351232) : impl_IsDialed.f s = some (dialB s) := by
  unfold impl_IsDialed.f dialB
  by_cases h : s.size ≤ 30
  · rw [if_pos (by omega)]
    unfold impl_over.f strings_Trim.f
    rw [if_pos (by omega), if_pos (by decide), if_pos (by decide), bsome, bsome, decide_eq_true h, Bool.true_and, ← bytes_all pad_contains]
    congr 1
    rw [Bool.eq_iff_iff, beq_iff_eq, Lib.toList_data, ← trimS_nil]
  · rw [if_neg (by omega), decide_eq_false h]
    rfl
theorem isKey_is (s : ByteArray) (hs : s.size ≤ 140737488351232) : impl_isKey.f s = some (oneB s) := by
  unfold impl_isKey.f oneB
  by_cases h : s.size = 1
  · rw [if_pos (by omega), isDialed_is s hs, bsome, decide_eq_true h]
    rfl
  · rw [if_neg (by omega), decide_eq_false h]
    rfl
theorem thGood_l0 (s : ByteArray) (hs : s.size ≤ 1000000) : ∀ (d i : Nat), i + d = s.size → Ev (fun k => spec_thGood.l0 k s i) (((bytesOf s).drop i).all isPad)
  | 0, i, h => by
    obtain rfl : i = s.size := by omega
    rw [drop_end]
    refine ev_from 0 fun k _ => ?_
    simp only [spec_thGood.l0]
    rw [if_neg (by omega)]
    rfl
  | d + 1, i, h => by
    obtain ⟨K, ih⟩ := thGood_l0 s hs d (i + 1) (by omega)
    obtain ⟨K0, h0⟩ := thPlace_ev (bt s i) (bytes_range s _ (bt_mem s i (by omega)))
    rw [drop_bytes s i (by omega), List.all_cons]
    refine ev_from (K0 + K) fun k hk => ?_
    have e := ih k (by omega)
    have e0 := h0 k (by omega)
    rw [show ((i + 1 : Nat) : Int) = (i : Int) + 1 from rfl] at e
    dsimp only at e e0
    simp only [spec_thGood.l0]
    rw [if_pos (by omega), if_pos (by omega), e0, bsome, wr (by omega) (by omega), e]
    cases hp : isPad (bt s i) with
    | false =>
      rw [show (if false = true then plN (bt s i) else (-1 : Int)) = -1 from rfl, if_pos (by omega)]; rfl
    | true =>
      have := plN_range hp
      rw [show (if true = true then plN (bt s i) else (-1 : Int)) = plN (bt s i) from rfl, if_neg (by omega)]; rfl
theorem thGood_ev (s : ByteArray) : Ev (fun k => spec_thGood.f k s) (dialB s) := by
  unfold dialB
  by_cases h : s.size ≤ 30
  · obtain ⟨K, e⟩ := thGood_l0 s (by omega) s.size 0 (by omega)
    refine ⟨K, fun k hk => ?_⟩
    have e := e k hk
    dsimp only at e ⊢
    unfold spec_thGood.f
    rw [if_neg (by omega), decide_eq_true h, Bool.true_and]
    exact e
  · refine ⟨0, fun k _ => ?_⟩
    dsimp only
    unfold spec_thGood.f
    rw [if_pos (by omega), decide_eq_false h]
    rfl
theorem thOne_ev (s : ByteArray) : Ev (fun k => spec_thOne.f k s) (oneB s) := by
  obtain ⟨K, e⟩ := thGood_ev s
  refine ⟨K, fun k hk => ?_⟩
  have e := e k hk
  dsimp only at e ⊢
  unfold spec_thOne.f oneB
  by_cases h : s.size = 1
  · rw [if_pos (by omega), e, bsome, decide_eq_true h]
    rfl
  · rw [if_neg (by omega), decide_eq_false h]
    rfl

/-! ### places and distances -/
def placesN (s : ByteArray) : List Int := (bytesOf s).map plN
theorem placesN_length (s : ByteArray) : (placesN s).length = s.size := by rw [placesN, List.length_map, bytesOf_length]
theorem placesN_range {s : ByteArray} (h : dialB s = true) : ∀ p ∈ placesN s, 0 ≤ p ∧ p ≤ 11 := by
  intro p hp
  obtain ⟨c, hc, rfl⟩ := List.mem_map.1 hp
  exact plN_range ((dialB_iff.1 h).2 c hc)
def distN (a b : Int) (corners : Bool) : Int :=
  let x := if a % 3 < b % 3 then b % 3 - a % 3 else a % 3 - b % 3
  let y := if a / 3 < b / 3 then b / 3 - a / 3 else a / 3 - b / 3
  if corners then (if x < y then y else x) else x + y
theorem distN_range {a b : Int} (ha : 0 ≤ a ∧ a ≤ 11) (hb : 0 ≤ b ∧ b ≤ 11) (c : Bool) : 0 ≤ distN a b c ∧ distN a b c ≤ 5 := by
  have key : ∀ m n : Fin 12, ∀ c : Bool, 0 ≤ distN (m.val : Int) (n.val : Int) c ∧ distN (m.val : Int) (n.val : Int) c ≤ 5 := by decide +kernel
  have := key ⟨a.toNat, by omega⟩ ⟨b.toNat, by omega⟩ c
  rwa [show ((a.toNat : Nat) : Int) = a by omega, show ((b.toNat : Nat) : Int) = b by omega] at this
theorem distance_is {a b : Int} (ha : 0 ≤ a ∧ a ≤ 11) (hb : 0 ≤ b ∧ b ≤ 11) (c : Bool) : impl_distance.f a b c = some (distN a b c) := by
  have key : ∀ m n : Fin 12, ∀ c : Bool, impl_distance.f (m.val : Int) (n.val : Int) c = some (distN (m.val : Int) (n.val : Int) c) := by decide +kernel
  have := key ⟨a.toNat, by omega⟩ ⟨b.toNat, by omega⟩ c
  rwa [show ((a.toNat : Nat) : Int) = a by omega, show ((b.toNat : Nat) : Int) = b by omega] at this
theorem thFar_ev {a b : Int} (ha : isPad a = true) (hb : isPad b = true) (c : Bool) : Ev (fun k => spec_thFar.f k a b c) (distN (plN a) (plN b) c) := by
  have key : ∀ m n : Fin 12, ∀ c : Bool, spec_thFar.f 14 (padC (m.val : Int)) (padC (n.val : Int)) c = some (distN (m.val : Int) (n.val : Int) c) := by decide +kernel
  have pa := plN_range ha
  have pb := plN_range hb
  have := key ⟨(plN a).toNat, by omega⟩ ⟨(plN b).toNat, by omega⟩ c
  rw [show (((plN a).toNat : Nat) : Int) = plN a by omega, show (((plN b).toNat : Nat) : Int) = plN b by omega, padC_plN ha, padC_plN hb] at this
  exact Ev.of (spec_thFar.mono a b c) this
theorem places_l0 (s : ByteArray) (h : dialB s = true) : ∀ (d i : Nat) (A : List Int), i + d = s.size → A.length ≤ i → Ev (fun k => impl_places.l0 k s A s.size i) (A ++ ((bytesOf s).drop i).map plN)
  | 0, i, A, hi, hA => by
    obtain rfl : i = s.size := by omega
    rw [drop_end]
    refine ev_from 0 fun k _ => ?_
    simp only [impl_places.l0]
    rw [if_neg (by omega)]
    simp
  | d + 1, i, A, hi, hA => by
    have hs := (dialB_iff.1 h).1
    have hp := (dialB_iff.1 h).2 _ (bt_mem s i (by omega))
    obtain ⟨K, ih⟩ := places_l0 s h d (i + 1) (A ++ [plN (bt s i)]) (by omega) (by simp; omega)
    rw [drop_bytes s i (by omega)]
    refine ev_from K fun k hk => ?_
    have e := ih k (by omega)
    rw [show ((i + 1 : Nat) : Int) = (i : Int) + 1 from rfl] at e
    dsimp only at e
    simp only [impl_places.l0]
    rw [if_pos (by omega), if_pos (by omega), if_pos (by omega), place_is _ hp, bsome, if_pos (by omega), wr (by omega) (by omega), e]
    simp
theorem places_ev (s : ByteArray) (h : dialB s = true) : Ev (fun k => impl_places.f k s) (placesN s) := by
  obtain ⟨K, e⟩ := places_l0 s h s.size 0 [] (by omega) (by simp)
  exact ⟨K, fun k hk => by have e := e k hk; dsimp only at e; unfold impl_places.f placesN; simpa using e⟩

end Go.Proofs.YthnjmokaiiajmaaDoor.Pu

namespace Go.Proofs.YthnjmokaiiajmaaDoor.Pu
open Go.RowKit Go.Proofs.YthnjmokaiiajmaaDoor.P Go.Proofs.YthnjmokaiiajmaaDoorW.PrintWords Go.Proofs.YthnjmokaiiajmaaDoorW.PrintLast Go.Proofs.YthnjmokaiiajmaaDoorW.PrintMore

theorem drop_rd (L : List Int) (i : Nat) (h : i < L.length) : L.drop i = rd L i :: L.drop (i + 1) := by
  rw [List.drop_eq_getElem_cons h, rd, Int.toNat_natCast, List.getD_eq_getElem?_getD, List.getElem?_eq_getElem h]
  rfl
theorem rd_mem (L : List Int) (i : Nat) (h : i < L.length) : rd L i ∈ L := by
  have : rd L i ∈ L.drop i := by rw [drop_rd L i h]; exact List.mem_cons_self
  exact List.mem_of_mem_drop this
theorem drop_places (s : ByteArray) (i : Nat) (h : i < s.size) : (placesN s).drop i = plN (bt s i) :: (placesN s).drop (i + 1) := by
  unfold placesN
  rw [← List.map_drop, drop_bytes s i h, List.map_cons, List.map_drop]
theorem rd_places (s : ByteArray) (i : Nat) (h : i < s.size) : rd (placesN s) i = plN (bt s i) := by
  have h1 := drop_rd (placesN s) i (by rw [placesN_length]; exact h)
  rw [drop_places s i h] at h1
  exact (List.cons.inj h1).1.symm

/-! ### KeyDistance -/
/-! ### OneThumb -/
def walkN : List Int → Int → Bool → Int
  | [], _, _ => 0
  | q :: L, p, c => distN p q c + walkN L q c
def oneT (s t : ByteArray) (c : Bool) : Int × Bool := if (dialB s && oneB t) = true then (walkN (placesN s) (plN (bt t 0)) c, true) else (0, false)
/-! ### FarthestNext -/
def farN (c : Bool) : List Int → Int → Int → Int → Int → Int × Int
  | [], _, _, a, b => (a, b)
  | q :: L, p, i, a, b => if distN p q c > b then farN c L q (i + 1) i (distN p q c) else farN c L q (i + 1) a b
def farT (s : ByteArray) (c : Bool) : Int × Int × Bool := if (dialB s && !decide (s.size < 2)) = true then ((farN c ((placesN s).drop 1) (plN (bt s 0)) 0 0 (-1)).1, (farN c ((placesN s).drop 1) (plN (bt s 0)) 0 0 (-1)).2, true) else (0, 0, false)
/-! ### keys turned over -/
def mirP (p : Int) : Int := p / 3 * 3 + 2 - p % 3
def turnP (p : Int) : Int := 11 - p
theorem mirP_range {p : Int} (h : 0 ≤ p ∧ p ≤ 11) : 0 ≤ mirP p ∧ mirP p ≤ 11 := by unfold mirP; omega
theorem turnP_range {p : Int} (h : 0 ≤ p ∧ p ≤ 11) : 0 ≤ turnP p ∧ turnP p ≤ 11 := by unfold turnP; omega
theorem mir_spec {p : Int} (h : 0 ≤ p ∧ p ≤ 11) : wrap64 ((wrap64 (3 * (wrap64 (Int.tdiv p 3)))) + (wrap64 (2 - (Int.tmod p 3)))) = mirP p := by
  have key : ∀ n : Fin 12, wrap64 ((wrap64 (3 * (wrap64 (Int.tdiv (n.val : Int) 3)))) + (wrap64 (2 - (Int.tmod (n.val : Int) 3)))) = mirP (n.val : Int) := by decide +kernel
  have := key ⟨p.toNat, by omega⟩
  rwa [show ((p.toNat : Nat) : Int) = p by omega] at this
theorem turn_spec {p : Int} (h : 0 ≤ p ∧ p ≤ 11) : wrap64 ((wrap64 (3 * (wrap64 (3 - (wrap64 (Int.tdiv p 3)))))) + (wrap64 (2 - (Int.tmod p 3)))) = turnP p := by
  have key : ∀ n : Fin 12, wrap64 ((wrap64 (3 * (wrap64 (3 - (wrap64 (Int.tdiv (n.val : Int) 3)))))) + (wrap64 (2 - (Int.tmod (n.val : Int) 3)))) = turnP (n.val : Int) := by decide +kernel
  have := key ⟨p.toNat, by omega⟩
  rwa [show ((p.toNat : Nat) : Int) = p by omega] at this
theorem numsCons (a : Int) (L : List Int) : strOfNums (a :: L) = strOfNums [a] ++ strOfNums L := numsApp [a] L
def overT (s : ByteArray) (b : Bool) : ByteArray × Bool := if dialB s = true then (strOfNums ((placesN s).map fun p => padC (if b = true then turnP p else mirP p)), true) else (⟨#[]⟩, false)
end Go.Proofs.YthnjmokaiiajmaaDoor.Pu

namespace Go.Proofs.YthnjmokaiiajmaaDoor.Pu
open Go.RowKit Go.Proofs.YthnjmokaiiajmaaDoor.P Go.Proofs.YthnjmokaiiajmaaDoorW.PrintWords Go.Proofs.YthnjmokaiiajmaaDoorW.PrintLast Go.Proofs.YthnjmokaiiajmaaDoorW.PrintMore

def bothB (s l r : ByteArray) : Bool := dialB s && (oneB l && oneB r)
theorem thBoth_ev (s l r : ByteArray) : Ev (fun k => spec_thBoth.f k s l r) (bothB s l r) := by
  obtain ⟨K1, h1⟩ := thGood_ev s
  obtain ⟨K2, h2⟩ := thOne_ev l
  obtain ⟨K3, h3⟩ := thOne_ev r
  refine ⟨K1 + K2 + K3, fun k hk => ?_⟩
  have e1 := h1 k (by omega)
  have e2 := h2 k (by omega)
  have e3 := h3 k (by omega)
  dsimp only at e1 e2 e3 ⊢
  unfold spec_thBoth.f bothB
  rw [e1, bsome]
  cases dialB s with
  | false => rfl
  | true =>
    rw [if_pos rfl, e2, bsome]
    cases oneB l with
    | false => rfl
    | true => rw [if_pos rfl, e3, bsome]; rfl
theorem thumbsOk_ev (s l r : ByteArray) (hs : s.size ≤ 140737488351232) (hl : l.size ≤ 140737488351232) (hr : r.size ≤ 140737488351232) : Ev (fun k => impl_thumbsOk.f k s l r) (if bothB s l r = true then (plN (bt l 0), plN (bt r 0), true) else (0, 0, false)) := by
  refine ev_from 0 fun k _ => ?_
  unfold impl_thumbsOk.f bothB
  rw [isDialed_is s hs, bsome]
  cases dialB s with
  | false => rfl
  | true =>
    rw [if_pos rfl, isKey_is l hl, bsome]
    cases h1 : oneB l with
    | false => rfl
    | true =>
      rw [if_pos rfl, isKey_is r hr, bsome]
      cases h2 : oneB r with
      | false => rfl
      | true =>
        obtain ⟨l1, pl⟩ := oneB_iff.1 h1
        obtain ⟨r1, pr⟩ := oneB_iff.1 h2
        simp only [impl_thumbsOk.j0]
        rw [show (!true) = false from rfl, if_neg (by simp), if_pos (by omega), place_is _ pl, bsome, if_pos (by omega), place_is _ pr, bsome]
        rfl
def lookN (c : Bool) : List Int → Int → Int → Int × Int
  | [], _, _ => (0, 1)
  | p :: L, l, r =>
    if (lookN c L l p).1 + distN r p c < (lookN c L p r).1 + distN l p c then ((lookN c L l p).1 + distN r p c, (lookN c L l p).2)
    else if (lookN c L l p).1 + distN r p c = (lookN c L p r).1 + distN l p c then ((lookN c L p r).1 + distN l p c, (lookN c L p r).2 + (lookN c L l p).2)
    else ((lookN c L p r).1 + distN l p c, (lookN c L p r).2)
def twoN : Nat → Int
  | 0 => 1
  | n + 1 => 2 * twoN n
theorem twoN_pos : ∀ n, 1 ≤ twoN n
  | 0 => by decide
  | n + 1 => by
    have := twoN_pos n
    rw [twoN]
    omega
theorem twoN_le : ∀ d n, n + d = 30 → twoN n ≤ 1073741824
  | 0, n, h => by
    obtain rfl : n = 30 := by omega
    decide
  | d + 1, n, h => by
    have := twoN_le d (n + 1) (by omega)
    have h0 := twoN_pos n
    rw [twoN] at this
    omega
theorem lookN_range (c : Bool) : ∀ (L : List Int) (l r : Int), (∀ p ∈ L, 0 ≤ p ∧ p ≤ 11) → (0 ≤ l ∧ l ≤ 11) → (0 ≤ r ∧ r ≤ 11) → (0 ≤ (lookN c L l r).1 ∧ (lookN c L l r).1 ≤ 5 * L.length) ∧ 1 ≤ (lookN c L l r).2 ∧ (lookN c L l r).2 ≤ twoN L.length
  | [], l, r, _, _, _ => by simp [lookN, twoN]
  | p :: L, l, r, h, hl, hr => by
    have hp := h p (by simp)
    obtain ⟨⟨a0, a1⟩, a2, a3⟩ := lookN_range c L p r (fun q hq => h q (by simp [hq])) hp hr
    obtain ⟨⟨b0, b1⟩, b2, b3⟩ := lookN_range c L l p (fun q hq => h q (by simp [hq])) hl hp
    have d1 := distN_range hl hp c
    have d2 := distN_range hr hp c
    rw [lookN, List.length_cons, twoN]
    split
    · dsimp only
      omega
    · split
      · dsimp only
        omega
      · dsimp only
        omega
theorem lookN_small (c : Bool) {L : List Int} {l r : Int} (hL : ∀ p ∈ L, 0 ≤ p ∧ p ≤ 11) (hn : L.length ≤ 30) (hl : 0 ≤ l ∧ l ≤ 11) (hr : 0 ≤ r ∧ r ≤ 11) : (0 ≤ (lookN c L l r).1 ∧ (lookN c L l r).1 ≤ 150) ∧ 1 ≤ (lookN c L l r).2 ∧ (lookN c L l r).2 ≤ 1073741824 := by
  obtain ⟨⟨a0, a1⟩, a2, a3⟩ := lookN_range c L l r hL hl hr
  have := twoN_le (30 - L.length) L.length (by omega)
  omega
/-! ### the program's looker -/
theorem moved0_is {l r p : Int} (hl : 0 ≤ l ∧ l ≤ 11) (hp : 0 ≤ p ∧ p ≤ 11) (c : Bool) : impl_thumbs_moved.f l r 0 p c = some (p, r, distN l p c) := by
  unfold impl_thumbs_moved.f
  rw [if_pos rfl, distance_is hl hp, bsome]
theorem moved1_is {l r p : Int} (hr : 0 ≤ r ∧ r ≤ 11) (hp : 0 ≤ p ∧ p ≤ 11) (c : Bool) : impl_thumbs_moved.f l r 1 p c = some (l, p, distN r p c) := by
  unfold impl_thumbs_moved.f
  rw [if_neg (by decide), distance_is hr hp, bsome]
theorem look_is (c : Bool) : ∀ (L : List Int) (l r : Int), (∀ p ∈ L, 0 ≤ p ∧ p ≤ 11) → L.length ≤ 30 → (0 ≤ l ∧ l ≤ 11) → (0 ≤ r ∧ r ≤ 11) → impl_newLooker.look c L l r = some (lookN c L l r)
  | [], l, r, _, _, _, _ => rfl
  | p :: L, l, r, h, hn, hl, hr => by
    have hp := h p (by simp)
    have hL : ∀ q ∈ L, 0 ≤ q ∧ q ≤ 11 := fun q hq => h q (by simp [hq])
    rw [List.length_cons] at hn
    have ha := lookN_small c hL (by omega) hp hr
    have hb := lookN_small c hL (by omega) hl hp
    have d1 := distN_range hl hp c
    have d2 := distN_range hr hp c
    rw [impl_newLooker.look, moved0_is hl hp, bsome]
    dsimp only
    rw [look_is c L p r hL (by omega) hp hr, bsome, moved1_is hr hp, bsome]
    dsimp only
    rw [look_is c L l p hL (by omega) hl hp, bsome, lookN]
    generalize lookN c L p r = A at *
    generalize lookN c L l p = B at *
    unfold impl_newLooker.rnd
    rw [if_pos (show (-1 : Int) < 0 ∨ wrap64 (A.1 + distN l p c) < -1 from Or.inl (by decide))]
    dsimp only
    rw [wr (x := A.1 + distN l p c) (by omega) (by omega), wr (x := B.1 + distN r p c) (by omega) (by omega), wr (x := A.2 + B.2) (by omega) (by omega)]
    by_cases h1 : B.1 + distN r p c < A.1 + distN l p c
    · rw [if_pos (Or.inr h1), if_pos h1]
    · rw [if_neg (by omega), if_neg h1]
theorem from_is (k : Nat) (c : Bool) {L : List Int} {i : Nat} {l r : Int} (hL : ∀ p ∈ L, 0 ≤ p ∧ p ≤ 11) (hn : L.length ≤ 30) (hi : i ≤ L.length) (hl : 0 ≤ l ∧ l ≤ 11) (hr : 0 ≤ r ∧ r ≤ 11) : impl_looker_from.f k (L, c) (i : Int) l r = some (lookN c (L.drop i) l r) := by
  have hall : ((L, c).1.all fun p => decide (0 ≤ p) && decide (p ≤ 11)) = true := by
    rw [List.all_eq_true]
    intro q hq
    simpa using hL q hq
  unfold impl_looker_from.f
  rw [if_pos ⟨by omega, (show (i : Int) ≤ (L.length : Int) by omega), (show L.length ≤ 1000 by omega), hl, hr, hall⟩]
  show impl_newLooker.look c (L.drop (i : Int).toNat) l r = _
  rw [Int.toNat_natCast]
  exact look_is c _ l r (fun p hp => hL p (List.mem_of_mem_drop hp)) (by rw [List.length_drop]; omega) hl hr
theorem newLooker_ev (s : ByteArray) (h : dialB s = true) (c : Bool) : Ev (fun k => impl_newLooker.f k s c) (placesN s, c) := by
  obtain ⟨K, e⟩ := places_ev s h
  have hs := (dialB_iff.1 h).1
  refine ev_from K fun k hk => ?_
  have e := e (k + 1) (by omega)
  dsimp only at e
  unfold impl_newLooker.f
  rw [e, bsome, if_pos ⟨placesN_length s, by omega⟩]
/-! ### the reference's table -/
def rowL (c : Bool) (M : List Int) : List Int := (List.range 144).map fun i => (lookN c M ((i / 12 : Nat) : Int) ((i % 12 : Nat) : Int)).1
def rowW (c : Bool) (M : List Int) : List Int := (List.range 144).map fun i => (lookN c M ((i / 12 : Nat) : Int) ((i % 12 : Nat) : Int)).2
theorem rowL_length (c : Bool) (M : List Int) : (rowL c M).length = 144 := by simp [rowL]
theorem rowW_length (c : Bool) (M : List Int) : (rowW c M).length = 144 := by simp [rowW]
theorem rowL_at (c : Bool) (M : List Int) {i : Nat} (h : i < 144) : (rowL c M).getD i 0 = (lookN c M ((i / 12 : Nat) : Int) ((i % 12 : Nat) : Int)).1 := by
  rw [List.getD_eq_getElem?_getD, List.getElem?_eq_getElem (by rw [rowL_length]; exact h)]
  simp [rowL]
theorem rowW_at (c : Bool) (M : List Int) {i : Nat} (h : i < 144) : (rowW c M).getD i 0 = (lookN c M ((i / 12 : Nat) : Int) ((i % 12 : Nat) : Int)).2 := by
  rw [List.getD_eq_getElem?_getD, List.getElem?_eq_getElem (by rw [rowW_length]; exact h)]
  simp [rowW]
theorem rowL_two (c : Bool) (M : List Int) {a b : Nat} (ha : a < 12) (hb : b < 12) : (rowL c M).getD (12 * a + b) 0 = (lookN c M (a : Int) (b : Int)).1 := by
  rw [rowL_at c M (by omega), show (12 * a + b) / 12 = a by omega, show (12 * a + b) % 12 = b by omega]
theorem rowW_two (c : Bool) (M : List Int) {a b : Nat} (ha : a < 12) (hb : b < 12) : (rowW c M).getD (12 * a + b) 0 = (lookN c M (a : Int) (b : Int)).2 := by
  rw [rowW_at c M (by omega), show (12 * a + b) / 12 = a by omega, show (12 * a + b) % 12 = b by omega]
theorem stp_ev (c : Bool) {M : List Int} {key : Int} (hM : ∀ p ∈ M, 0 ≤ p ∧ p ≤ 11) (hn : M.length ≤ 29) (hk : isPad key = true) {i : Nat} (hi : i < 144) :
    Ev (fun k => spec_thTable.stp k c key (plN key).toNat (rowL c M) (rowW c M) i 0) (lookN c (plN key :: M) ((i / 12 : Nat) : Int) ((i % 12 : Nat) : Int)) := by
  have hp := plN_range hk
  have hl : (0 : Int) ≤ ((i / 12 : Nat) : Int) ∧ ((i / 12 : Nat) : Int) ≤ 11 := by omega
  have hr : (0 : Int) ≤ ((i % 12 : Nat) : Int) ∧ ((i % 12 : Nat) : Int) ≤ 11 := by omega
  obtain ⟨K1, e1⟩ := thFar_ev (padC_pad hl) hk c
  obtain ⟨K2, e2⟩ := thFar_ev (padC_pad hr) hk c
  refine ⟨K1 + K2, fun k hk2 => ?_⟩
  have e1 := e1 k (by omega)
  have e2 := e2 k (by omega)
  rw [plN_padC hl] at e1
  rw [plN_padC hr] at e2
  have a1 : bt spec_thTable.pad ((i / 12 : Nat) : Int) = padC ((i / 12 : Nat) : Int) := pad_bt hl
  have a2 : bt spec_thTable.pad ((i % 12 : Nat) : Int) = padC ((i % 12 : Nat) : Int) := pad_bt hr
  have hpn : (((plN key).toNat : Nat) : Int) = plN key := by omega
  have l1 := rowL_two c M (a := (plN key).toNat) (b := i % 12) (by omega) (by omega)
  have l2 := rowL_two c M (a := i / 12) (b := (plN key).toNat) (by omega) (by omega)
  have w1 := rowW_two c M (a := (plN key).toNat) (b := i % 12) (by omega) (by omega)
  have w2 := rowW_two c M (a := i / 12) (b := (plN key).toNat) (by omega) (by omega)
  rw [hpn] at l1 l2 w1 w2
  have hA := lookN_small c hM (by omega) hp hr
  have hB := lookN_small c hM (by omega) hl hp
  have d1 := distN_range hl hp c
  have d2 := distN_range hr hp c
  dsimp only at e1 e2 ⊢
  unfold spec_thTable.stp
  rw [a1, e1, bsome, a2, e2, bsome, l1, l2, w1, w2, lookN]
  generalize lookN c M (plN key) ((i % 12 : Nat) : Int) = A at *
  generalize lookN c M ((i / 12 : Nat) : Int) (plN key) = B at *
  generalize distN ((i / 12 : Nat) : Int) (plN key) c = da at *
  generalize distN ((i % 12 : Nat) : Int) (plN key) c = db at *
  clear e1 e2 a1 a2 l1 l2 w1 w2
  rw [wr (x := da + A.1) (by omega) (by omega), wr (x := db + B.1) (by omega) (by omega), Int.zero_add, wr (x := A.2) (by omega) (by omega)]
  unfold spec_l1Least.f
  by_cases h1 : B.1 + db < A.1 + da
  · rw [if_neg (show ¬ da + A.1 < db + B.1 by omega), bsome, if_pos h1, if_pos (show db + B.1 ≤ da + A.1 by omega), if_neg (show ¬ da + A.1 ≤ db + B.1 by omega), Int.zero_add, wr (x := B.2) (by omega) (by omega), if_pos (show B.2 < 1000000000000001 by omega), bsome, Int.add_comm db]
  · by_cases h2 : B.1 + db = A.1 + da
    · rw [if_neg (show ¬ da + A.1 < db + B.1 by omega), bsome, if_neg h1, if_pos h2, if_pos (show db + B.1 ≤ da + A.1 by omega), if_pos (show da + A.1 ≤ db + B.1 by omega), wr (x := A.2 + B.2) (by omega) (by omega), if_pos (show A.2 + B.2 < 1000000000000001 by omega), bsome, show db + B.1 = A.1 + da by omega]
    · rw [if_pos (show da + A.1 < db + B.1 by omega), bsome, if_neg h1, if_neg h2, if_neg (show ¬ db + B.1 ≤ da + A.1 by omega), if_pos (show da + A.1 ≤ db + B.1 by omega), if_pos (show A.2 < 1000000000000001 by omega), bsome, Int.add_comm da]
def preN (F : List Int) (i : Nat) : List Int := F.take i ++ List.replicate (144 - i) 0
theorem preN_at {F : List Int} {i : Nat} (hF : F.length = 144) (hi : i < 144) : (preN F i).getD i 0 = 0 := by
  unfold preN
  rw [List.getD_eq_getElem?_getD, List.getElem?_append_right (by rw [List.length_take]; omega), List.length_take, show i - min i F.length = 0 by omega, show 144 - i = (143 - i) + 1 by omega, List.replicate_succ]
  rfl
theorem preN_set {F : List Int} {i : Nat} (hF : F.length = 144) (hi : i < 144) : (preN F i).set i (F.getD i 0) = preN F (i + 1) := by
  unfold preN
  rw [List.set_append_right _ _ (by rw [List.length_take]; omega), List.length_take, show i - min i F.length = 0 by omega, show 144 - i = (144 - (i + 1)) + 1 by omega, List.replicate_succ, List.set_cons_zero, List.take_succ_eq_append_getElem (by omega), List.append_assoc, List.getD_eq_getElem?_getD, List.getElem?_eq_getElem (by omega)]
  rfl
theorem inr_ev (c : Bool) {M : List Int} {key : Int} (hM : ∀ p ∈ M, 0 ≤ p ∧ p ≤ 11) (hn : M.length ≤ 29) (hk : isPad key = true) : ∀ (d i : Nat), i + d = 144 →
    Ev (fun k => spec_thTable.inr k c key (plN key).toNat (rowL c M) (rowW c M) d i (preN (rowL c (plN key :: M)) i) (preN (rowW c (plN key :: M)) i)) (rowL c (plN key :: M), rowW c (plN key :: M))
  | 0, i, h => by
    obtain rfl : i = 144 := by omega
    refine ⟨0, fun k _ => ?_⟩
    show some _ = _
    unfold preN
    rw [List.take_of_length_le (by rw [rowL_length]; omega), List.take_of_length_le (by rw [rowW_length]; omega)]
    simp
  | d + 1, i, h => by
    obtain ⟨K1, e1⟩ := stp_ev c hM hn hk (i := i) (by omega)
    obtain ⟨K2, e2⟩ := inr_ev c hM hn hk d (i + 1) (by omega)
    refine ⟨K1 + K2, fun k hk2 => ?_⟩
    have e1 := e1 k (by omega)
    have e2 := e2 k (by omega)
    dsimp only at e1 e2 ⊢
    rw [spec_thTable.inr, preN_at (rowW_length _ _) (by omega), e1, bsome, ← rowL_at c _ (by omega), ← rowW_at c _ (by omega), preN_set (rowL_length _ _) (by omega), preN_set (rowW_length _ _) (by omega)]
    exact e2
theorem row_ev (c : Bool) {M : List Int} {key : Int} (hM : ∀ p ∈ M, 0 ≤ p ∧ p ≤ 11) (hn : M.length ≤ 29) (hk : isPad key = true) :
    Ev (fun k => spec_thTable.row k c key (rowL c M, rowW c M)) (rowL c (plN key :: M), rowW c (plN key :: M)) := by
  obtain ⟨K1, e1⟩ := thPlace_pad key hk
  obtain ⟨K2, e2⟩ := inr_ev c hM hn hk 144 0 (by omega)
  have hp := plN_range hk
  refine ⟨K1 + K2, fun k hk2 => ?_⟩
  have e1 := e1 k (by omega)
  have e2 := e2 k (by omega)
  dsimp only at e1 e2 ⊢
  unfold spec_thTable.row
  rw [e1, bsome, if_pos hp]
  exact e2
def rowN (s : ByteArray) (c : Bool) (e : Nat) : List Int × List Int := (rowL c ((placesN s).drop (s.size - e)), rowW c ((placesN s).drop (s.size - e)))
theorem go_ev (s : ByteArray) (h : dialB s = true) (c : Bool) : ∀ (d : Nat), d ≤ s.size → Ev (fun k => spec_thTable.go k s c d ((List.range (s.size - d + 1)).map (rowN s c))) ((List.range (s.size + 1)).map (rowN s c))
  | 0, _ => ⟨0, fun k _ => rfl⟩
  | d + 1, hd => by
    have hs := (dialB_iff.1 h).1
    have hq := (dialB_iff.1 h).2 _ (bt_mem s d (by omega))
    have hm : ∀ p ∈ (placesN s).drop (d + 1), 0 ≤ p ∧ p ≤ 11 := fun p hp => placesN_range h p (List.mem_of_mem_drop hp)
    obtain ⟨K1, e1⟩ := row_ev c hm (by rw [List.length_drop, placesN_length]; omega) hq
    obtain ⟨K2, e2⟩ := go_ev s h c d (by omega)
    refine ⟨K1 + K2, fun k hk => ?_⟩
    have e1 := e1 k (by omega)
    have e2 := e2 k (by omega)
    dsimp only at e1 e2 ⊢
    have hlast : ((List.range (s.size - (d + 1) + 1)).map (rowN s c)).getD (((List.range (s.size - (d + 1) + 1)).map (rowN s c)).length - 1) ([], []) = (rowL c ((placesN s).drop (d + 1)), rowW c ((placesN s).drop (d + 1))) := by
      rw [List.length_map, List.length_range, List.getD_eq_getElem?_getD, List.getElem?_map, List.getElem?_range (by omega)]
      show rowN s c (s.size - (d + 1) + 1 - 1) = _
      unfold rowN
      rw [show s.size - (s.size - (d + 1) + 1 - 1) = d + 1 by omega]
    have hnew : (rowL c (plN (bt s (d : Int)) :: (placesN s).drop (d + 1)), rowW c (plN (bt s (d : Int)) :: (placesN s).drop (d + 1))) = rowN s c (s.size - d) := by
      rw [← drop_places s d (by omega)]
      unfold rowN
      rw [show s.size - (s.size - d) = d by omega]
    rw [spec_thTable.go, hlast, e1, bsome, hnew, show s.size - (d + 1) + 1 = s.size - d by omega, ← e2, List.range_succ, List.map_append]
    rfl
def tabL (s : ByteArray) (c : Bool) : List (List Int) := (((List.range (s.size + 1)).map (rowN s c)).map Prod.fst).reverse
def tabW (s : ByteArray) (c : Bool) : List (List Int) := (((List.range (s.size + 1)).map (rowN s c)).map Prod.snd).reverse
theorem thTable_ev (s : ByteArray) (h : dialB s = true) (c : Bool) : Ev (fun k => spec_thTable.f k s c) (tabL s c, tabW s c) := by
  obtain ⟨K, e⟩ := go_ev s h c s.size (Nat.le_refl _)
  have hs := (dialB_iff.1 h).1
  refine ⟨K, fun k hk => ?_⟩
  have e := e k hk
  dsimp only at e ⊢
  have h0 : (List.range (s.size - s.size + 1)).map (rowN s c) = [(List.replicate 144 0, List.replicate 144 1)] := by
    rw [Nat.sub_self, Nat.zero_add, List.range_one, List.map_singleton]
    unfold rowN
    rw [Nat.sub_zero, List.drop_eq_nil_of_le (by rw [placesN_length]; exact Nat.le_refl _)]
    unfold rowL rowW
    simp only [lookN]
    rw [List.map_const', List.map_const', List.length_range]
  rw [h0] at e
  unfold spec_thTable.f spec_thTable.g
  rw [if_pos (by omega), e, bsome]
  rfl
theorem tabL_length (s : ByteArray) (c : Bool) : (tabL s c).length = s.size + 1 := by simp [tabL]
theorem tabW_length (s : ByteArray) (c : Bool) : (tabW s c).length = s.size + 1 := by simp [tabW]
theorem rowN_at (s : ByteArray) (c : Bool) {j : Nat} (hj : j ≤ s.size) : ((List.range (s.size + 1)).map (rowN s c)).getD (s.size - j) ([], []) = (rowL c ((placesN s).drop j), rowW c ((placesN s).drop j)) := by
  rw [List.getD_eq_getElem?_getD, List.getElem?_map, List.getElem?_range (by omega)]
  show rowN s c (s.size - j) = _
  unfold rowN
  rw [show s.size - (s.size - j) = j by omega]
theorem tabL_at (s : ByteArray) (c : Bool) {j : Nat} (hj : j ≤ s.size) : rd_L1 (tabL s c) (j : Int) = rowL c ((placesN s).drop j) := by
  unfold rd_L1 tabL
  rw [Int.toNat_natCast, spec_thTable.rev_at Prod.fst rfl (by rw [List.length_map, List.length_range]) hj, rowN_at s c hj]
theorem tabW_at (s : ByteArray) (c : Bool) {j : Nat} (hj : j ≤ s.size) : rd_L1 (tabW s c) (j : Int) = rowW c ((placesN s).drop j) := by
  unfold rd_L1 tabW
  rw [Int.toNat_natCast, spec_thTable.rev_at Prod.snd rfl (by rw [List.length_map, List.length_range]) hj, rowN_at s c hj]
theorem rdL_two (c : Bool) (M : List Int) {a b : Int} (ha : 0 ≤ a ∧ a ≤ 11) (hb : 0 ≤ b ∧ b ≤ 11) : rd (rowL c M) (12 * a + b) = (lookN c M a b).1 := by
  have := rowL_two c M (a := a.toNat) (b := b.toNat) (by omega) (by omega)
  rw [show ((a.toNat : Nat) : Int) = a by omega, show ((b.toNat : Nat) : Int) = b by omega, show 12 * a.toNat + b.toNat = (12 * a + b).toNat by omega] at this
  exact this
theorem rdW_two (c : Bool) (M : List Int) {a b : Int} (ha : 0 ≤ a ∧ a ≤ 11) (hb : 0 ≤ b ∧ b ≤ 11) : rd (rowW c M) (12 * a + b) = (lookN c M a b).2 := by
  have := rowW_two c M (a := a.toNat) (b := b.toNat) (by omega) (by omega)
  rw [show ((a.toNat : Nat) : Int) = a by omega, show ((b.toNat : Nat) : Int) = b by omega, show 12 * a.toNat + b.toNat = (12 * a + b).toNat by omega] at this
  exact this
theorem thAt_ev (l r : ByteArray) (hl : oneB l = true) (hr : oneB r = true) : Ev (fun k => spec_thAt.f k l r) (12 * plN (bt l 0) + plN (bt r 0)) := by
  obtain ⟨l1, pl⟩ := oneB_iff.1 hl
  obtain ⟨r1, pr⟩ := oneB_iff.1 hr
  obtain ⟨K1, e1⟩ := thPlace_pad _ pl
  obtain ⟨K2, e2⟩ := thPlace_pad _ pr
  have p1 := plN_range pl
  have p2 := plN_range pr
  refine ⟨K1 + K2, fun k hk => ?_⟩
  have e1 := e1 k (by omega)
  have e2 := e2 k (by omega)
  dsimp only at e1 e2 ⊢
  unfold spec_thAt.f
  rw [if_pos (by omega), e1, bsome, if_pos (by omega), e2, bsome, wr (x := 12 * plN (bt l 0)) (by omega) (by omega), wr (by omega) (by omega)]
theorem bothB_iff {s l r : ByteArray} (h : bothB s l r = true) : dialB s = true ∧ oneB l = true ∧ oneB r = true := by
  unfold bothB at h
  rw [Bool.and_eq_true, Bool.and_eq_true] at h
  exact ⟨h.1, h.2.1, h.2.2⟩
/-! ### TwoThumbs and CountThumbs -/
def startN (s l r : ByteArray) (c : Bool) : Int × Int := lookN c (placesN s) (plN (bt l 0)) (plN (bt r 0))
theorem startN_small {s l r : ByteArray} (h : bothB s l r = true) (c : Bool) : (0 ≤ (startN s l r c).1 ∧ (startN s l r c).1 ≤ 150) ∧ 1 ≤ (startN s l r c).2 ∧ (startN s l r c).2 ≤ 1073741824 := by
  obtain ⟨hd, h1, h2⟩ := bothB_iff h
  exact lookN_small c (placesN_range hd) (by rw [placesN_length]; exact (dialB_iff.1 hd).1) (plN_range (oneB_iff.1 h1).2) (plN_range (oneB_iff.1 h2).2)
theorem twoS_ev (s l r : ByteArray) (c : Bool) : Ev (fun k => spec_TwoThumbs.f k s l r c) (if bothB s l r = true then ((startN s l r c).1, true) else (0, false)) := by
  obtain ⟨K1, e1⟩ := thBoth_ev s l r
  cases hb : bothB s l r with
  | false =>
    refine ⟨K1, fun k hk => ?_⟩
    have e1 := e1 k hk
    rw [hb] at e1
    dsimp only at e1 ⊢
    unfold spec_TwoThumbs.f
    rw [e1, bsome]
    rfl
  | true =>
    obtain ⟨hd, h1, h2⟩ := bothB_iff hb
    have p1 := plN_range (oneB_iff.1 h1).2
    have p2 := plN_range (oneB_iff.1 h2).2
    obtain ⟨K2, e2⟩ := thTable_ev s hd c
    obtain ⟨K3, e3⟩ := thAt_ev l r h1 h2
    refine ⟨K1 + K2 + K3, fun k hk => ?_⟩
    have e1 := e1 k (by omega)
    have e2 := e2 k (by omega)
    have e3 := e3 k (by omega)
    rw [hb] at e1
    dsimp only at e1 e2 e3 ⊢
    have ht : rd_L1 (tabL s c) 0 = rowL c (placesN s) := tabL_at s c (Nat.zero_le s.size)
    have hl : ((rd_L1 (tabL s c) 0).length : Int) = 144 := by
      rw [ht, rowL_length]
      rfl
    have hv : rd (rd_L1 (tabL s c) 0) (12 * plN (bt l 0) + plN (bt r 0)) = (startN s l r c).1 := by
      rw [ht, rdL_two c _ p1 p2]
      rfl
    unfold spec_TwoThumbs.f
    rw [e1, bsome, if_pos rfl, e2, bsome]
    dsimp only
    rw [if_pos (by rw [tabL_length]; omega), e3, bsome, if_pos (by omega), if_pos (by omega), hv, if_pos rfl]
theorem twoI_ev (s l r : ByteArray) (c : Bool) (hs : s.size ≤ 140737488351232) (hl : l.size ≤ 140737488351232) (hr : r.size ≤ 140737488351232) : Ev (fun k => impl_TwoThumbs.f k s l r c) (if bothB s l r = true then ((startN s l r c).1, true) else (0, false)) := by
  obtain ⟨K1, e1⟩ := thumbsOk_ev s l r hs hl hr
  cases hb : bothB s l r with
  | false =>
    refine ⟨K1, fun k hk => ?_⟩
    have e1 := e1 k hk
    rw [hb] at e1
    dsimp only at e1 ⊢
    unfold impl_TwoThumbs.f
    rw [e1, bsome]
    rfl
  | true =>
    obtain ⟨hd, h1, h2⟩ := bothB_iff hb
    have p1 := plN_range (oneB_iff.1 h1).2
    have p2 := plN_range (oneB_iff.1 h2).2
    obtain ⟨K2, e2⟩ := newLooker_ev s hd c
    refine ⟨K1 + K2, fun k hk => ?_⟩
    have e1 := e1 k (by omega)
    have e2 := e2 k (by omega)
    rw [hb, if_pos rfl] at e1
    dsimp only at e1 e2 ⊢
    have hf := from_is k c (L := placesN s) (i := 0) (placesN_range hd) (by rw [placesN_length]; exact (dialB_iff.1 hd).1) (Nat.zero_le _) p1 p2
    rw [List.drop_zero] at hf
    unfold impl_TwoThumbs.f
    rw [e1, bsome]
    dsimp only
    rw [if_pos rfl, e2, bsome, show (impl_looker_from.f k (placesN s, c) 0 (plN (bt l 0)) (plN (bt r 0))) = some (startN s l r c) from hf, bsome, if_pos rfl]
theorem countS_ev (s l r : ByteArray) (c : Bool) : Ev (fun k => spec_CountThumbs.f k s l r c) (if bothB s l r = true then ((startN s l r c).2, true) else (0, false)) := by
  obtain ⟨K1, e1⟩ := thBoth_ev s l r
  cases hb : bothB s l r with
  | false =>
    refine ⟨K1, fun k hk => ?_⟩
    have e1 := e1 k hk
    rw [hb] at e1
    dsimp only at e1 ⊢
    unfold spec_CountThumbs.f
    rw [e1, bsome]
    rfl
  | true =>
    obtain ⟨hd, h1, h2⟩ := bothB_iff hb
    have p1 := plN_range (oneB_iff.1 h1).2
    have p2 := plN_range (oneB_iff.1 h2).2
    have hsm := startN_small hb c
    obtain ⟨K2, e2⟩ := thTable_ev s hd c
    obtain ⟨K3, e3⟩ := thAt_ev l r h1 h2
    refine ⟨K1 + K2 + K3, fun k hk => ?_⟩
    have e1 := e1 k (by omega)
    have e2 := e2 k (by omega)
    have e3 := e3 k (by omega)
    rw [hb] at e1
    dsimp only at e1 e2 e3 ⊢
    have ht : rd_L1 (tabW s c) 0 = rowW c (placesN s) := tabW_at s c (Nat.zero_le s.size)
    have hl : ((rd_L1 (tabW s c) 0).length : Int) = 144 := by
      rw [ht, rowW_length]
      rfl
    have hv : rd (rd_L1 (tabW s c) 0) (12 * plN (bt l 0) + plN (bt r 0)) = (startN s l r c).2 := by
      rw [ht, rdW_two c _ p1 p2]
      rfl
    unfold spec_CountThumbs.f
    rw [e1, bsome, if_pos rfl, e2, bsome]
    dsimp only
    rw [if_pos (by rw [tabW_length]; omega), e3, bsome, if_pos (by omega), if_pos (by omega), hv, if_pos (by omega), if_pos rfl]
theorem countI_ev (s l r : ByteArray) (c : Bool) (hs : s.size ≤ 140737488351232) (hl : l.size ≤ 140737488351232) (hr : r.size ≤ 140737488351232) : Ev (fun k => impl_CountThumbs.f k s l r c) (if bothB s l r = true then ((startN s l r c).2, true) else (0, false)) := by
  obtain ⟨K1, e1⟩ := thumbsOk_ev s l r hs hl hr
  cases hb : bothB s l r with
  | false =>
    refine ⟨K1, fun k hk => ?_⟩
    have e1 := e1 k hk
    rw [hb] at e1
    dsimp only at e1 ⊢
    unfold impl_CountThumbs.f
    rw [e1, bsome]
    rfl
  | true =>
    obtain ⟨hd, h1, h2⟩ := bothB_iff hb
    have p1 := plN_range (oneB_iff.1 h1).2
    have p2 := plN_range (oneB_iff.1 h2).2
    have hsm := startN_small hb c
    obtain ⟨K2, e2⟩ := newLooker_ev s hd c
    refine ⟨K1 + K2, fun k hk => ?_⟩
    have e1 := e1 k (by omega)
    have e2 := e2 k (by omega)
    rw [hb, if_pos rfl] at e1
    dsimp only at e1 e2 ⊢
    have hf := from_is k c (L := placesN s) (i := 0) (placesN_range hd) (by rw [placesN_length]; exact (dialB_iff.1 hd).1) (Nat.zero_le _) p1 p2
    rw [List.drop_zero] at hf
    unfold impl_CountThumbs.f
    rw [e1, bsome]
    dsimp only
    rw [if_pos rfl, e2, bsome, show (impl_looker_from.f k (placesN s, c) 0 (plN (bt l 0)) (plN (bt r 0))) = some (startN s l r c) from hf, bsome, if_neg (by omega), if_pos rfl]
end Go.Proofs.YthnjmokaiiajmaaDoor.Pu

namespace Go.Proofs.YthnjmokaiiajmaaDoor.Pu
open Go.RowKit Go.Proofs.YthnjmokaiiajmaaDoor.P Go.Proofs.YthnjmokaiiajmaaDoorW.PrintWords Go.Proofs.YthnjmokaiiajmaaDoorW.PrintLast Go.Proofs.YthnjmokaiiajmaaDoorW.PrintMore

def valN (c : Bool) (L : List Int) (i : Nat) : Int := (lookN c L ((i / 12 : Nat) : Int) ((i % 12 : Nat) : Int)).1
def bestIx (f : Nat → Int) : Nat → Nat → Nat → Nat
  | 0, _, b => b
  | d + 1, i, b => if f i < f b then bestIx f d (i + 1) i else bestIx f d (i + 1) b
theorem bestIx_lt (f : Nat → Int) : ∀ (d i b : Nat), i + d = 144 → b < 144 → bestIx f d i b < 144
  | 0, _, b, _, hb => hb
  | d + 1, i, b, h, hb => by
    rw [bestIx]
    split
    · exact bestIx_lt f d (i + 1) i (by omega) (by omega)
    · exact bestIx_lt f d (i + 1) b (by omega) hb
def cutT (c : Bool) (L : List Int) (b : Nat) : ByteArray × ByteArray × Int × Bool := (strOfNums [padC ((b / 12 : Nat) : Int)], strOfNums [padC ((b % 12 : Nat) : Int)], valN c L b, true)
theorem rd_val (c : Bool) (L : List Int) {i : Nat} (h : i < 144) : rd (rowL c L) (i : Int) = valN c L i := by
  have := rowL_at c L h
  unfold rd
  rw [Int.toNat_natCast]
  exact this
theorem bestS_l0 (s : ByteArray) (h : dialB s = true) (c : Bool) : ∀ (d i b : Nat), i + d = 144 → b < 144 → Ev (fun k => spec_BestStarts.l0 k (tabL s c) (b : Int) (rd_L1 (tabL s c) 0) 144 (i : Int)) (cutT c (placesN s) (bestIx (valN c (placesN s)) d i b))
  | 0, i, b, hi, hb => by
    have ht : rd_L1 (tabL s c) 0 = rowL c (placesN s) := tabL_at s c (Nat.zero_le s.size)
    have hl : ((rd_L1 (tabL s c) 0).length : Int) = 144 := by
      rw [ht, rowL_length]
      rfl
    have t1 : Int.tdiv (b : Int) 12 = ((b / 12 : Nat) : Int) := rfl
    have t2 : Int.tmod (b : Int) 12 = ((b % 12 : Nat) : Int) := rfl
    refine ev_from 0 fun k _ => ?_
    simp only [spec_BestStarts.l0]
    rw [if_neg (by omega), t1, t2, wr (x := ((b / 12 : Nat) : Int)) (by omega) (by omega), wr (x := ((b / 12 : Nat) : Int) + 1) (by omega) (by omega), wr (x := ((b % 12 : Nat) : Int) + 1) (by omega) (by omega)]
    rw [if_pos (by omega), if_pos (by omega), if_pos (by omega), if_pos (by omega), if_pos (by omega), if_pos (by omega), if_pos (by rw [tabL_length]; omega), if_pos (by omega), if_pos (by omega), ht, rd_val c _ hb, pad_cut (by omega), pad_cut (by omega)]
    rfl
  | d + 1, i, b, hi, hb => by
    have ht : rd_L1 (tabL s c) 0 = rowL c (placesN s) := tabL_at s c (Nat.zero_le s.size)
    have hl : ((rd_L1 (tabL s c) 0).length : Int) = 144 := by
      rw [ht, rowL_length]
      rfl
    rw [bestIx]
    by_cases hc : valN c (placesN s) i < valN c (placesN s) b
    · obtain ⟨K, ih⟩ := bestS_l0 s h c d (i + 1) i (by omega) (by omega)
      rw [if_pos hc]
      refine ev_from K fun k hk => ?_
      have e := ih k hk
      rw [show ((i + 1 : Nat) : Int) = (i : Int) + 1 from rfl] at e
      dsimp only at e
      simp only [spec_BestStarts.l0]
      rw [if_pos (by omega), if_pos (by omega), if_pos (by omega), if_pos (by rw [tabL_length]; omega), if_pos (by omega), if_pos (by omega), if_pos (by rw [ht, rd_val c _ (by omega), rd_val c _ hb]; exact hc), wr (by omega) (by omega), e]
    · obtain ⟨K, ih⟩ := bestS_l0 s h c d (i + 1) b (by omega) hb
      rw [if_neg hc]
      refine ev_from K fun k hk => ?_
      have e := ih k hk
      rw [show ((i + 1 : Nat) : Int) = (i : Int) + 1 from rfl] at e
      dsimp only at e
      simp only [spec_BestStarts.l0]
      rw [if_pos (by omega), if_pos (by omega), if_pos (by omega), if_pos (by rw [tabL_length]; omega), if_pos (by omega), if_pos (by omega), if_neg (by rw [ht, rd_val c _ (by omega), rd_val c _ hb]; exact hc), wr (by omega) (by omega), e]
def bestsT (s : ByteArray) (c : Bool) : ByteArray × ByteArray × Int × Bool := if dialB s = true then cutT c (placesN s) (bestIx (valN c (placesN s)) 144 0 0) else ((⟨#[]⟩ : ByteArray), (⟨#[]⟩ : ByteArray), 0, false)
theorem bestsS_ev (s : ByteArray) (c : Bool) : Ev (fun k => spec_BestStarts.f k s c) (bestsT s c) := by
  obtain ⟨K1, e1⟩ := thGood_ev s
  unfold bestsT
  cases hd : dialB s with
  | false =>
    refine ⟨K1, fun k hk => ?_⟩
    have e1 := e1 k hk
    rw [hd] at e1
    dsimp only at e1 ⊢
    unfold spec_BestStarts.f
    rw [e1, bsome]
    rfl
  | true =>
    obtain ⟨K2, e2⟩ := thTable_ev s hd c
    obtain ⟨K3, e3⟩ := bestS_l0 s hd c 144 0 0 rfl (by omega)
    refine ⟨K1 + K2 + K3, fun k hk => ?_⟩
    have e1 := e1 k (by omega)
    have e2 := e2 k (by omega)
    have e3 := e3 k (by omega)
    rw [hd] at e1
    have ht : rd_L1 (tabL s c) 0 = rowL c (placesN s) := tabL_at s c (Nat.zero_le s.size)
    have hl : ((rd_L1 (tabL s c) 0).length : Int) = 144 := by
      rw [ht, rowL_length]
      rfl
    dsimp only at e1 e2 e3 ⊢
    unfold spec_BestStarts.f
    rw [e1, bsome, if_pos rfl, e2, bsome]
    dsimp only
    rw [if_pos (by rw [tabL_length]; omega), hl, if_pos rfl]
    exact e3
theorem bestI_stp (c : Bool) {L : List Int} (hL : ∀ p ∈ L, 0 ≤ p ∧ p ≤ 11) (hn : L.length ≤ 30) : ∀ (d i b : Nat), i + d = 144 → b < 144 →
    impl_BestStarts.stp (L, c) d i ((b / 12 : Nat) : Int) ((b % 12 : Nat) : Int) (valN c L b) = some (((bestIx (valN c L) d i b / 12 : Nat) : Int), ((bestIx (valN c L) d i b % 12 : Nat) : Int), valN c L (bestIx (valN c L) d i b))
  | 0, _, b, _, _ => rfl
  | d + 1, i, b, hi, hb => by
    have hf := from_is 0 c (i := 0) (l := ((i / 12 : Nat) : Int)) (r := ((i % 12 : Nat) : Int)) hL hn (Nat.zero_le _) (by omega) (by omega)
    have h0 := (lookN_small c hL hn (l := ((b / 12 : Nat) : Int)) (r := ((b % 12 : Nat) : Int)) (by omega) (by omega)).1.1
    have h0' : 0 ≤ valN c L b := h0
    rw [impl_BestStarts.stp, show impl_looker_from.f 0 (L, c) 0 ((i / 12 : Nat) : Int) ((i % 12 : Nat) : Int) = some (lookN c L ((i / 12 : Nat) : Int) ((i % 12 : Nat) : Int)) from hf, bsome, bestIx, show (lookN c L ((i / 12 : Nat) : Int) ((i % 12 : Nat) : Int)).1 = valN c L i from rfl]
    by_cases hc : valN c L i < valN c L b
    · rw [if_pos (Or.inr hc), if_pos hc]
      exact bestI_stp c hL hn d (i + 1) i (by omega) (by omega)
    · rw [if_neg (fun hx => hx.elim (fun h1 => by omega) (fun h1 => hc h1)), if_neg hc]
      exact bestI_stp c hL hn d (i + 1) b (by omega) hb
theorem bestI_all (c : Bool) {L : List Int} (hL : ∀ p ∈ L, 0 ≤ p ∧ p ≤ 11) (hn : L.length ≤ 30) :
    impl_BestStarts.stp (L, c) 144 0 0 0 (-1) = some (((bestIx (valN c L) 144 0 0 / 12 : Nat) : Int), ((bestIx (valN c L) 144 0 0 % 12 : Nat) : Int), valN c L (bestIx (valN c L) 144 0 0)) := by
  have hf := from_is 0 c (i := 0) (l := ((0 / 12 : Nat) : Int)) (r := ((0 % 12 : Nat) : Int)) hL hn (Nat.zero_le _) (by omega) (by omega)
  rw [impl_BestStarts.stp, show impl_looker_from.f 0 (L, c) 0 ((0 / 12 : Nat) : Int) ((0 % 12 : Nat) : Int) = some (lookN c L ((0 / 12 : Nat) : Int) ((0 % 12 : Nat) : Int)) from hf, bsome, if_pos (Or.inl (by decide)), bestIx, if_neg (by omega)]
  exact bestI_stp c hL hn 143 1 0 (by omega) (by omega)
theorem bestsI_ev (s : ByteArray) (c : Bool) (hs : s.size ≤ 140737488351232) : Ev (fun k => impl_BestStarts.f k s c) (bestsT s c) := by
  unfold bestsT
  cases hd : dialB s with
  | false =>
    refine ⟨0, fun k _ => ?_⟩
    dsimp only
    unfold impl_BestStarts.f
    rw [isDialed_is s hs, hd, bsome]
    rfl
  | true =>
    obtain ⟨K1, e1⟩ := newLooker_ev s hd c
    refine ⟨K1, fun k hk => ?_⟩
    have e1 := e1 k hk
    have hB := bestIx_lt (valN c (placesN s)) 144 0 0 rfl (by omega)
    dsimp only at e1 ⊢
    unfold impl_BestStarts.f
    rw [isDialed_is s hs, hd, bsome, if_pos rfl, e1, bsome, bestI_all c (placesN_range hd) (by rw [placesN_length]; exact (dialB_iff.1 hd).1), bsome, if_pos rfl]
    generalize bestIx (valN c (placesN s)) 144 0 0 = B at *
    unfold impl_BestStarts.cut impl_BestStarts.pad cutT
    dsimp only
    rw [if_pos ⟨by omega, by omega⟩, pad_cut (by omega), pad_cut (by omega)]
end Go.Proofs.YthnjmokaiiajmaaDoor.Pu

namespace Go.Proofs.YthnjmokaiiajmaaDoor.Pure
open Go.RowKit Go.Proofs.YthnjmokaiiajmaaDoor.P Go.Proofs.YthnjmokaiiajmaaDoor.Pu Go.Proofs.YthnjmokaiiajmaaDoorW.PrintWords Go.Proofs.YthnjmokaiiajmaaDoorW.PrintLast

theorem FnExactBestStarts : laws_FnExactBestStarts.Pure := by
  intro s c hs
  by_cases h1 : (s.size : Int) > 1048576
  · exact ⟨0, by unfold laws_FnExactBestStarts.f; rw [if_pos h1]⟩
  obtain ⟨K1, e1⟩ := bestsS_ev s c
  obtain ⟨K2, e2⟩ := bestsI_ev s c hs
  refine ⟨K1 + K2, ?_⟩
  have e1 := e1 (K1 + K2) (by omega)
  have e2 := e2 (K1 + K2) (by omega)
  dsimp only at e1 e2
  unfold laws_FnExactBestStarts.f
  rw [if_neg h1, e1, bsome, e2, bsome, if_pos rfl, if_pos rfl, if_pos rfl, if_neg (by simp)]
end Go.Proofs.YthnjmokaiiajmaaDoor.Pure

