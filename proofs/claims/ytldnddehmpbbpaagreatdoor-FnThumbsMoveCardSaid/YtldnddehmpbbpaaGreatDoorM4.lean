/- Parts of the proof (printed walks, lemmas of our own, contracts of the library laid for this program), merged into one text by wip/mclaim.py. Conditions: each theorem's own. -/
import Derived.Test.YtldnddehmpbbpaaGreatDoorM0
import Derived.Test.YtldnddehmpbbpaaGreatDoorM3
import Derived.Test.YtldnddehmpbbpaaGreatDoorM1
section
namespace Go.Proofs.YtldnddehmpbbpaaGreatDoor.P
open Go.RowKit Go.Proofs.YtldnddehmpbbpaaGreatDoorW.PrintWords Go.Proofs.YtldnddehmpbbpaaGreatDoorW.PrintLast Go.Proofs.YtldnddehmpbbpaaGreatDoorW.PrintMore
attribute [local go_sem] max2_int min2_int max_two min_two max_three min_three max_four min_four   -- for this text's walks alone
set_option linter.unusedVariables false
set_option linter.unusedSimpArgs false
def impl_OneThumb.j0 : Nat → ByteArray → ByteArray → Bool → Bool → Option (Int × Bool)
  | 0, _, _, _, _ => none
  | k + 1, x0, x1, x2, x15 => if x15 = true then (some (0, false)) else ((impl_places.f k x0).bind fun t246 => (if 0 < (x1.size : Int) then ((impl_place.f (bt x1 0)).bind fun t249 => ((impl_oneThumb.f k t246 t249 x2).bind fun t250 => (some (t250, true)))) else (none)))
def impl_OneThumb.f (k : Nat) (a0 : ByteArray) (a1 : ByteArray) (a2 : Bool) : Option (Int × Bool) := (impl_IsDialed.f a0).bind fun t244 => (if t244 = true then ((impl_isKey.f a1).bind fun t245 => (impl_OneThumb.j0 k a0 a1 a2 (!t245))) else (impl_OneThumb.j0 k a0 a1 a2 true))
theorem impl_OneThumb.mono_l : ∀ k, (∀ y0 y1 y2 y3, LeO (impl_OneThumb.j0 k y0 y1 y2 y3) (impl_OneThumb.j0 (k + 1) y0 y1 y2 y3))
  | 0 => fun _ _ _ _ r h => by simp [impl_OneThumb.j0] at h
  | k + 1 => by
    have ih0 := impl_OneThumb.mono_l k
    · intro y0 y1 y2 y3
      unfold impl_OneThumb.j0
      repeat' first
      | (with_reducible exact ih0 _ _ _ _)
      | (with_reducible exact impl_oneThumb.mono _ _ _ _)
      | (with_reducible exact impl_places.mono _ _)
      | (with_reducible exact LeO.refl _)
      | (with_reducible exact LeO.none _)
      | (with_reducible refine LeO.ite ?_ ?_)
      | (with_reducible refine LeO.bind ?_ (fun _ => ?_))
      | exact ih0 _ _ _ _
      | exact impl_oneThumb.mono _ _ _ _
      | exact impl_places.mono _ _
      | exact LeO.none _
      | refine LeO.ite ?_ ?_
      | refine LeO.bind ?_ (fun _ => ?_)
theorem impl_OneThumb.mono : ∀ a0 a1 a2 k, LeO (impl_OneThumb.f k a0 a1 a2) (impl_OneThumb.f (k + 1) a0 a1 a2) := by
  intro a0 a1 a2 k
  have ih0 := impl_OneThumb.mono_l k
  unfold impl_OneThumb.f
  repeat' first
      | (with_reducible exact ih0 _ _ _ _)
      | (with_reducible exact impl_oneThumb.mono _ _ _ _)
      | (with_reducible exact impl_places.mono _ _)
      | (with_reducible exact LeO.refl _)
      | (with_reducible exact LeO.none _)
      | (with_reducible refine LeO.ite ?_ ?_)
      | (with_reducible refine LeO.bind ?_ (fun _ => ?_))
      | exact ih0 _ _ _ _
      | exact impl_oneThumb.mono _ _ _ _
      | exact impl_places.mono _ _
      | exact LeO.none _
      | refine LeO.ite ?_ ?_
      | refine LeO.bind ?_ (fun _ => ?_)
def impl_OneThumb.T3 : Bool × List (List Nat × List Nat) := (true, [([], []), ([0], [0]), ([], []), ([2], [2]), ([3, 1], [3]), ([], []), ([1, 4, 5, 4], [1, 4, 5]), ([6, 6, 0, 1, 2, 3, 4, 5, 6], [6]), ([7, 0, 1, 2, 3, 4, 5, 6, 7], [])])
def impl_OneThumb.B3 : List Nat := [0, 1, 0, 4, 15, 0, 63, 127, 255]
theorem impl_OneThumb.tab3 : rtab .any (opsOf Tryz.f16 3) = impl_OneThumb.T3 := by kernel_rfl
theorem impl_OneThumb.bits3 : waitsOk impl_OneThumb.T3.2 impl_OneThumb.B3 = true := by kernel_rfl
set_option maxHeartbeats 8000000 in
set_option maxRecDepth 100000 in
theorem impl_OneThumb.calls (k : Nat) (a0 : ByteArray) (a1 : ByteArray) (a2 : Bool) (r1 : Int) (r2 : Bool) (w : World) (h : impl_OneThumb.f k a0 a1 a2 = some (r1, r2)) :
    Calls Tryz.prog 16 #[.string a0, .string a1, .bool a2] w fun e w' => e = .returned (.tuple #[.int .i64 r1, .bool r2]) ∧ Below w.heap.size w w' := by
  have HB := Aside0.mk (Below.refl w.heap.size w)
  have H : ((impl_IsDialed.f a0).bind fun t244 => (if t244 = true then ((impl_isKey.f a1).bind fun t245 => (impl_OneThumb.j0 k a0 a1 a2 (!t245))) else (impl_OneThumb.j0 k a0 a1 a2 true))) = some (r1, r2) := h
  clear h
  have HC4 := Aside0.mk H
  clear H
  go_enter Tryz.func16, Tryz.ntmps16
  go_upto_region 1 with (fail)
  go_cut [15] (fun v15 wc => ∃ (kq : Nat) (x15_3 : Bool), v15 = .bool x15_3 ∧ Aside0 (impl_OneThumb.j0 kq a0 a1 a2 x15_3 = some (r1, r2)) ∧ Aside0 (kq ≤ k) ∧ Aside0 (Below w.heap.size w wc))
  case first =>
    have H := HC4.out
    clear HC4
    replace H := Option.bind_eq_some_iff.mp H
    obtain ⟨t244, A50, H⟩ := H
    replace H : (if t244 = true then ((impl_isKey.f a1).bind fun t245 => (impl_OneThumb.j0 k a0 a1 a2 (!t245))) else (impl_OneThumb.j0 k a0 a1 a2 true)) = some (r1, r2) := H
    have A5 := Aside0.mk A50
    clear A50
    by_cases c6 : t244 = true
    · subst c6
      have H1 : ((impl_isKey.f a1).bind fun t245 => (impl_OneThumb.j0 k a0 a1 a2 (!t245))) = some (r1, r2) := by rw [if_pos rfl] at H; exact H
      clear H
      have H := H1
      clear H1
      replace H := Option.bind_eq_some_iff.mp H
      obtain ⟨t245, A70, H⟩ := H
      replace H : (impl_OneThumb.j0 k a0 a1 a2 (!t245)) = some (r1, r2) := H
      have A7 := Aside0.mk A70
      clear A70
      have H' := Aside0.mk H
      clear H
      go_wp2_with (first | ((with_reducible refine gate_callee (f := 13) rfl ?_); refine goesL_ (some 9) rfl rfl Tryz.func13 (by kernel_rfl) rfl #[.string a0] rfl (by (try simp only [List.map_toArray, List.map_cons, List.map_nil]); first | done | rfl | (simp only [List.length_drop, List.length_take]; rfl)) ?_; (with_reducible refine (impl_IsDialed.calls a0 true _ A5.out).mono ?_); rintro e w8 ⟨rfl, hb⟩; refine ⟨_, rfl, ?_⟩; have n0_ := Aside0.mk (below_step (by repeat (first | (with_reducible first | exact HB.out | apply below_alloc | apply pw_below_drewN | apply below_drew1) | exact HB.out)) hb); clear HB; have HB := n0_; clear n0_; (try clear hb); (try clear hb2); (try clear hk); (try clear hi)) | (go_at_call 47; (with_reducible refine (impl_isKey.calls a1 t245 _ A7.out).mono ?_); rintro e w9 ⟨rfl, hb⟩; have n0_ := Aside0.mk (below_step (by repeat (first | (with_reducible first | exact HB.out | apply below_alloc | apply pw_below_drewN | apply below_drew1) | exact HB.out)) hb); clear HB; have HB := n0_; clear n0_; (try clear hb); (try clear hb2); (try clear hk); (try clear hi)))
      go_meet
      case rel => exact ⟨_, (!t245), (by first | rfl | (simp; done) | (simp [*]; done)), H', ⟨by first | omega | exact Nat.le_refl _⟩, ⟨by repeat (first | (with_reducible first | exact HB.out | apply below_alloc | apply pw_below_drewN | apply below_drew1) | exact HB.out)⟩⟩
    · replace c6 := Bool.eq_false_iff.mpr c6
      subst c6
      have H1 : (impl_OneThumb.j0 k a0 a1 a2 true) = some (r1, r2) := by rw [if_neg (show ¬ (false = true) by decide)] at H; exact H
      clear H
      have H := H1
      clear H1
      have H' := Aside0.mk H
      clear H
      go_wp2_with (first | ((with_reducible refine gate_callee (f := 13) rfl ?_); refine goesL_ (some 9) rfl rfl Tryz.func13 (by kernel_rfl) rfl #[.string a0] rfl (by (try simp only [List.map_toArray, List.map_cons, List.map_nil]); first | done | rfl | (simp only [List.length_drop, List.length_take]; rfl)) ?_; (with_reducible refine (impl_IsDialed.calls a0 false _ A5.out).mono ?_); rintro e w10 ⟨rfl, hb⟩; refine ⟨_, rfl, ?_⟩; have n0_ := Aside0.mk (below_step (by repeat (first | (with_reducible first | exact HB.out | apply below_alloc | apply pw_below_drewN | apply below_drew1) | exact HB.out)) hb); clear HB; have HB := n0_; clear n0_; (try clear hb); (try clear hb2); (try clear hk); (try clear hi)))
      go_meet
      case rel => exact ⟨_, (true), (by first | rfl | (simp; done) | (simp [*]; done)), H', ⟨by first | omega | exact Nat.le_refl _⟩, ⟨by repeat (first | (with_reducible first | exact HB.out | apply below_alloc | apply pw_below_drewN | apply below_drew1) | exact HB.out)⟩⟩
  case rest =>
    clear HC4
    try clear c1
    try clear p2
    try clear c6
    obtain ⟨kq, x15_3, rfl, HA, HJ3, HB⟩ := hcut
    cases kq with
    | zero => exact absurd HA.out (by simp [impl_OneThumb.j0])
    | succ kj3 =>
      have H := HA.out
      clear HA
      simp only [impl_OneThumb.j0] at H
      by_cases c11 : x15_3 = true
      · subst c11
        have H1 : (some (0, false)) = some (r1, r2) := by rw [if_pos rfl] at H; exact H
        clear H
        have H := H1
        clear H1
        simp only [Option.some.injEq, Prod.mk.injEq] at H
        obtain ⟨rfl, rfl⟩ := H
        go_wp2
        go_ret2
        exact ⟨by first | rfl | (simp [errW_none, errW_some] <;> rfl) | (simp [*, errW_none, errW_some] <;> rfl), by repeat (first | (with_reducible first | exact HB.out | apply below_alloc | apply pw_below_drewN | apply below_drew1) | exact HB.out)⟩
      · replace c11 := Bool.eq_false_iff.mpr c11
        subst c11
        have H1 : ((impl_places.f kj3 a0).bind fun t246 => (if 0 < (a1.size : Int) then ((impl_place.f (bt a1 0)).bind fun t249 => ((impl_oneThumb.f kj3 t246 t249 a2).bind fun t250 => (some (t250, true)))) else (none))) = some (r1, r2) := by rw [if_neg (show ¬ (false = true) by decide)] at H; exact H
        clear H
        have H := H1
        clear H1
        replace H := Option.bind_eq_some_iff.mp H
        obtain ⟨t246, A120, H⟩ := H
        replace H : (if 0 < (a1.size : Int) then ((impl_place.f (bt a1 0)).bind fun t249 => ((impl_oneThumb.f kj3 t246 t249 a2).bind fun t250 => (some (t250, true)))) else (none)) = some (r1, r2) := H
        have A12 := Aside0.mk A120
        clear A120
        by_cases c13 : 0 < (a1.size : Int)
        · rw [if_pos c13] at H
          have c13b0 : decide (0 < (a1.size : Int)) = true := decide_eq_true c13
          have c13b1 : decide (0 < a1.size) = true := decide_eq_true (by omega)
          clear c13
          replace H := Option.bind_eq_some_iff.mp H
          obtain ⟨t249, A150, H⟩ := H
          replace H : ((impl_oneThumb.f kj3 t246 t249 a2).bind fun t250 => (some (t250, true))) = some (r1, r2) := H
          have A15 := Aside0.mk A150
          clear A150
          replace H := Option.bind_eq_some_iff.mp H
          obtain ⟨t250, A160, H⟩ := H
          replace H : (some (t250, true)) = some (r1, r2) := H
          have A16 := Aside0.mk A160
          clear A160
          simp only [Option.some.injEq, Prod.mk.injEq] at H
          obtain ⟨rfl, rfl⟩ := H
          try go_wp2
          have n0_ := Aside0.mk (below_drew1 HB.out)
          clear HB
          have HB := n0_
          clear n0_
          have p14 : 0 ≤ (0 : Int) := (by omega)
          have q14 : 0 < a1.size := (by have : (0 : Int) < (a1.size : Int) := of_decide_eq_true (by first | (with_reducible assumption) | assumption); omega)
          have hx14 : ∀ h : 0 < a1.size, ((a1[0]'h).toNat : Int) = bt a1 0 := bt_at a1 0
          clear p14
          have qi14 : (0 < (a1.size : Int)) = True := eq_true (of_decide_eq_true (by first | (with_reducible assumption) | assumption))
          replace q14 := eq_true q14
          refine start_ (n := 9) (S := fun w' => True) (ds := []) #[false, false, false, false, false, false, false, false, false] (by kernel_rfl) rfl rfl trivial (fun hHeld => ?_); refine with_tabW impl_OneThumb.tab3 impl_OneThumb.bits3 (fun HT_ HW_ => ?_)
          generalize wc.drew = w17 at HB hHeld ⊢
          refine pure_ (i := 0) (N := some 16) (v := ?_) (a' := ?_) #[true, false, false, false, false, false, false, false, false] rfl rfl (any_of HT_.out (by kernel_rfl)) (fun _ _ _ h => h) (Or.inl ⟨by rfl, ?_⟩) ?_ ?_
          rotate_left
          · intro w'
            go_simp
            with_reducible rfl
          rotate_left
          · simp only [Act.put, List.setIfInBounds_toArray, List.set_cons_zero, List.set_cons_succ, i64_w, i32_w]
            rfl
          refine pure_ (i := 2) (N := some 18) (v := ?_) (a' := ?_) #[true, false, true, false, false, false, false, false, false] rfl rfl (any_of HT_.out (by kernel_rfl)) (fun _ _ _ h => h) (Or.inl ⟨by rfl, ?_⟩) ?_ ?_
          rotate_left
          · intro w'
            go_simp
            with_reducible rfl
          rotate_left
          · simp only [Act.put, List.setIfInBounds_toArray, List.set_cons_zero, List.set_cons_succ, i64_w, i32_w]
            rfl
          refine pure_ (i := 5) (N := some 21) (v := ?_) (a' := ?_) #[true, false, true, false, false, true, false, false, false] rfl rfl (any_of HT_.out (by kernel_rfl)) (fun _ _ _ h => h) (Or.inl ⟨by rfl, ?_⟩) ?_ ?_
          rotate_left
          · intro w'
            go_simp
            with_reducible rfl
          rotate_left
          · simp only [Act.put, List.setIfInBounds_toArray, List.set_cons_zero, List.set_cons_succ, i64_w, i32_w]
            rfl
          refine take_ (i := 3) (N := some 19) (v := ?_) (a' := ?_) #[true, false, true, true, false, true, false, false, false] rfl rfl (take_ofW HT_.out HW_.out (by kernel_rfl)) (fun _ _ _ h => h) (Or.inl ⟨by rfl, ?_⟩) hHeld ?_ ?_
          rotate_left
          · intro w' _
            go_simp
            with_reducible rfl
          rotate_left
          · simp only [Act.put, List.setIfInBounds_toArray, List.set_cons_zero, List.set_cons_succ, i64_w, i32_w]
            rfl
          refine one_ (i := 1) (N := some 17) #[true, true, true, true, false, true, false, false, false] rfl rfl (one_of HT_.out (by kernel_rfl)) (by decide) (fun K hK => ?_)
          refine goes_ Tryz.func46 (by kernel_rfl) rfl #[.string a0] (by rfl) rfl rfl (by (try simp only [List.map_toArray, List.map_cons, List.map_nil]); first | done | rfl | (simp only [List.length_drop, List.length_take]; rfl)) ?_
          with_reducible refine (impl_places.calls kj3 a0 t246 _ A12.out).mono ?_
          rintro e w18 ⟨v247, rfl, ho0, hb⟩
          refine ⟨_, rfl, ?_⟩
          have n0_ := Aside0.mk (Kd.R_lower ho0 (below_size (by repeat (first | (with_reducible first | exact HB.out | apply below_alloc | apply pw_below_drewN | apply below_drew1) | exact HB.out))))
          have n1_ := Aside0.mk (below_step (by repeat (first | (with_reducible first | exact HB.out | apply below_alloc | apply pw_below_drewN | apply below_drew1) | exact HB.out)) hb)
          clear HB
          have HO248 := n0_
          have HB := n1_
          clear n0_ n1_
          (try clear hb)
          (try clear hb2)
          (try clear hk)
          (try clear hi)
          (try clear ho0)
          refine hK.out _ _ trivial (fun hHeld => ?_)
          clear hK K
          refine norm_ (a' := ?_) ?_ ?_
          rotate_left
          · show Act.put _ (some 17) _ = _
            simp only [Act.put, List.setIfInBounds_toArray, List.set_cons_zero, List.set_cons_succ, i64_w, i32_w]
            rfl
          refine one_ (i := 4) (N := some 20) #[true, true, true, true, true, true, false, false, false] rfl rfl (one_of HT_.out (by kernel_rfl)) (by decide) (fun K hK => ?_)
          refine goes_ Tryz.func49 (by kernel_rfl) rfl #[.int .u8 (bt a1 0)] (by rfl) rfl rfl (by (try simp only [List.map_toArray, List.map_cons, List.map_nil]); first | done | rfl | (simp only [List.length_drop, List.length_take]; rfl)) ?_
          with_reducible refine (impl_place.calls (bt a1 0) t249 _ A15.out).mono ?_
          rintro e w' ⟨rfl, ⟨nd, rfl⟩⟩
          refine ⟨_, rfl, ?_⟩
          obtain ⟨Ao19, co19, eo19⟩ := Kd.R_slice HO248.out
          (first | subst eo19 | (injection eo19 with f1_ f2_ f3_; have f4_ := f1_.symm; have f5_ := f3_.symm; clear f1_ f2_ f3_; subst f4_; subst f5_))
          refine hK.out _ _ trivial (fun hHeld => ?_)
          clear hK K
          refine norm_ (a' := ?_) ?_ ?_
          rotate_left
          · show Act.put _ (some 20) _ = _
            simp only [Act.put, List.setIfInBounds_toArray, List.set_cons_zero, List.set_cons_succ, i64_w, i32_w]
            rfl
          refine one_ (i := 6) (N := some 22) #[true, true, true, true, true, true, true, false, false] rfl rfl (one_of HT_.out (by kernel_rfl)) (by decide) (fun K hK => ?_)
          refine goes_ Tryz.func48 (by kernel_rfl) rfl #[.slice Ao19 t246.length co19, .int .i64 t249, .bool a2] (by rfl) rfl rfl (by (try simp only [List.map_toArray, List.map_cons, List.map_nil]); first | done | rfl | (simp only [List.length_drop, List.length_take]; rfl)) ?_
          with_reducible refine (impl_oneThumb.calls kj3 _ _ t246 t249 a2 t250 _ ?side1 ?side2 A16.out).mono ?_
          (case side1 => repeat (first | exact (Kd.R_reads' HO248.out).2.2 | (with_reducible refine Kd.C_alloc ?_ _) | (with_reducible refine Kd.C_drewN ?_ _) | (with_reducible refine Kd.C_drew ?_)))
          (case side2 => exact (Kd.R_reads' HO248.out).2.1)
          rintro e w20 ⟨rfl, hb⟩
          refine ⟨_, rfl, ?_⟩
          have n0_ := Aside0.mk (Kd.R_below (by (with_reducible repeat (first | apply Kd.R_alloc | apply Kd.R_drewN | apply Kd.R_drew)); exact HO248.out) hb)
          have n1_ := Aside0.mk (below_step (by repeat (first | (with_reducible first | exact HB.out | apply below_alloc | apply pw_below_drewN | apply below_drew1) | exact HB.out)) hb)
          clear HO248
          clear HB
          have HO248 := n0_
          have HB := n1_
          clear n0_ n1_
          (try clear hb)
          (try clear hb2)
          (try clear hk)
          (try clear hi)
          refine hK.out _ _ trivial (fun hHeld => ?_)
          clear hK K
          refine norm_ (a' := ?_) ?_ ?_
          rotate_left
          · show Act.put _ (some 22) _ = _
            simp only [Act.put, List.setIfInBounds_toArray, List.set_cons_zero, List.set_cons_succ, i64_w, i32_w]
            rfl
          refine pure_ (i := 7) (N := some 6) (v := ?_) (a' := ?_) #[true, true, true, true, true, true, true, true, false] rfl rfl (any_of HT_.out (by kernel_rfl)) (fun _ _ _ h => h) (Or.inl ⟨by rfl, ?_⟩) ?_ ?_
          rotate_left
          · intro w'
            go_simp
            with_reducible rfl
          rotate_left
          · simp only [Act.put, List.setIfInBounds_toArray, List.set_cons_zero, List.set_cons_succ, i64_w, i32_w]
            rfl
          refine pure_ (i := 8) (N := some 7) (v := ?_) (a' := ?_) #[true, true, true, true, true, true, true, true, true] rfl rfl (any_of HT_.out (by kernel_rfl)) (fun _ _ _ h => h) (Or.inl ⟨by rfl, ?_⟩) ?_ ?_
          rotate_left
          · intro w'
            go_simp
            with_reducible rfl
          rotate_left
          · simp only [Act.put, List.setIfInBounds_toArray, List.set_cons_zero, List.set_cons_succ, i64_w, i32_w]
            rfl
          refine done_ (done_of HT_.out (by kernel_rfl)) ?_
          try go_wp2
          go_ret2
          exact ⟨by first | rfl | (simp [errW_none, errW_some] <;> rfl) | (simp [*, errW_none, errW_some] <;> rfl), by repeat (first | (with_reducible first | exact HB.out | apply below_alloc | apply pw_below_drewN | apply below_drew1) | exact HB.out)⟩
        · rw [if_neg c13] at H
          exact absurd H (by simp)
end Go.Proofs.YtldnddehmpbbpaaGreatDoor.P
end

section
namespace Go.Proofs.YtldnddehmpbbpaaGreatDoor.P
open Go.RowKit Go.Proofs.YtldnddehmpbbpaaGreatDoorW.PrintWords Go.Proofs.YtldnddehmpbbpaaGreatDoorW.PrintLast Go.Proofs.YtldnddehmpbbpaaGreatDoorW.PrintMore
attribute [local go_sem] max2_int min2_int max_two min_two max_three min_three max_four min_four   -- for this text's walks alone
set_option linter.unusedVariables false
set_option linter.unusedSimpArgs false
def impl_signs.l0 : Nat → List Int → List Int → Int → Int → Option (ByteArray)
  | 0, _, _, _, _ => none
  | k + 1, x3, x7, x8, x9 => if x9 < x8 then (if 0 ≤ x9 then (if x9 < (x7.length : Int) then (if 0 ≤ (rd x7 x9) then (if (rd x7 x9) < 12 then (if x3.length < 140737488355328 then (impl_signs.l0 k (x3 ++ [bt (⟨#[49, 50, 51, 52, 53, 54, 55, 56, 57, 42, 48, 35]⟩ : ByteArray) (rd x7 x9)]) x7 x8 (wrap64 (x9 + 1))) else (none)) else (none)) else (none)) else (none)) else (none)) else (some (strOfNums x3))
def impl_signs.f (k : Nat) (l0 : List Int) : Option (ByteArray) := impl_signs.l0 k (([] : List Int)) l0 (l0.length : Int) 0
theorem impl_signs.mono_l : ∀ k, (∀ y0 y1 y2 y3, LeO (impl_signs.l0 k y0 y1 y2 y3) (impl_signs.l0 (k + 1) y0 y1 y2 y3))
  | 0 => fun _ _ _ _ r h => by simp [impl_signs.l0] at h
  | k + 1 => by
    have ih0 := impl_signs.mono_l k
    · intro y0 y1 y2 y3
      unfold impl_signs.l0
      repeat' first
      | (with_reducible exact ih0 _ _ _ _)
      | (with_reducible exact LeO.refl _)
      | (with_reducible exact LeO.none _)
      | (with_reducible refine LeO.ite ?_ ?_)
      | (with_reducible refine LeO.bind ?_ (fun _ => ?_))
      | exact ih0 _ _ _ _
      | exact LeO.none _
      | refine LeO.ite ?_ ?_
      | refine LeO.bind ?_ (fun _ => ?_)
theorem impl_signs.mono : ∀ a0 k, LeO (impl_signs.f k a0) (impl_signs.f (k + 1) a0) := by
  intro a0 k
  have ih0 := impl_signs.mono_l k
  unfold impl_signs.f
  repeat' first
      | (with_reducible exact ih0 _ _ _ _)
      | (with_reducible exact LeO.refl _)
      | (with_reducible exact LeO.none _)
      | (with_reducible refine LeO.ite ?_ ?_)
      | (with_reducible refine LeO.bind ?_ (fun _ => ?_))
      | exact ih0 _ _ _ _
      | exact LeO.none _
      | refine LeO.ite ?_ ?_
      | refine LeO.bind ?_ (fun _ => ?_)
set_option maxHeartbeats 8000000 in
set_option maxRecDepth 100000 in
theorem impl_signs.calls (k : Nat) (A0 : Option Addr) (c0 : Nat) (l0 : List Int) (r : ByteArray) (w : World) (hr0 : Kd.C (Kd.int .i64) w A0 l0.length l0) (hc0 : l0.length ≤ c0) (h : impl_signs.f k l0 = some r) :
    Calls Tryz.prog 74 #[.slice A0 l0.length c0] w fun e w' => e = .returned (.string r) ∧ Below w.heap.size w w' := by
  have HR0 := Aside0.mk hr0
  have HC0 := Aside0.mk hc0
  clear hr0 hc0
  have HB := Aside0.mk (Below.refl w.heap.size w)
  have H : (impl_signs.l0 k (([] : List Int)) l0 (l0.length : Int) 0) = some r := h
  clear h
  obtain ⟨y251, hy251⟩ : ∃ y_ : List Int, y_ = (([] : List Int)) := ⟨_, rfl⟩
  replace H : (impl_signs.l0 k y251 l0 (l0.length : Int) 0) = some r := by first | (rw [hy251]; with_reducible exact H) | (have H2_ := (Option.bind_some _ _).symm.trans H; rw [hy251]; with_reducible exact H2_) | (have H2_ := (Option.bind_some _ _).symm.trans H; with_reducible exact H2_) | with_reducible exact H | (rw [hy251]; exact H) | exact H
  have Ny251 := Aside0.mk hy251
  clear hy251
  have H' := Aside0.mk H
  clear H
  go_enter Tryz.func74, Tryz.ntmps74
  go_wp2_with (first | ((with_reducible refine gate_dst (N := 6) rfl ?_); refine Kd.R_lit (Kd.int .u8) _ 5 ?hg (N := 6) ?hd (xs := ([] : List Int)) (inner := []) (ok := fun _ => True) (okp := fun _ => True) ?hr ?hp (fun _ hk => hk) trivial (Below.refl _ _) (Nat.le_refl _) (by simp) ?_; (case hd => rfl); (case hg => rfl); (case hr => first | (go_simp; done) | (go_simp; rfl)); (case hp => exact (Reps.none _ _)); intro v252 w2 ho3 hb hg_ hnew_; clear hg_ hnew_; (first | rw [← Ny251.out] at ho3 | (simp only [Int.reduceToNat] at ho3; rw [← Ny251.out] at ho3)); have n0_ := Aside0.mk (Kd.R_lower ho3 (below_size (by repeat (first | (with_reducible first | exact HB.out | apply below_alloc | apply pw_below_drewN | apply below_drew1) | exact HB.out)))); have n1_ := Aside0.mk (below_step (by repeat (first | (with_reducible first | exact HB.out | apply below_alloc | apply pw_below_drewN | apply below_drew1) | exact HB.out)) hb); clear HB; have HO253 := n0_; have HB := n1_; clear n0_ n1_; clear hb ho3))
  go_loopg [3, 9] k (fun kq v3 v9 w' => ∃ (x3_1 : List Int) (x9_1 : Int), v9 = .int .i64 x9_1 ∧ Aside0 (impl_signs.l0 kq x3_1 l0 (l0.length : Int) x9_1 = some r) ∧ Aside0 (kq ≤ k) ∧ Aside0 (Kd.R (Kd.int .u8) 5 w' w.heap.size (fun _ => True) v3 x3_1) ∧ Aside0 (Below w.heap.size w w'))
  case atStart => exact ⟨(y251), (0), (by first | rfl | (simp; done) | (simp [*]; done)), H', ⟨Nat.le_refl _⟩, ⟨by (with_reducible repeat (first | apply Kd.R_alloc | apply Kd.R_drewN | apply Kd.R_drew)); exact HO253.out⟩, ⟨by repeat (first | (with_reducible first | exact HB.out | apply below_alloc | apply pw_below_drewN | apply below_drew1) | exact HB.out)⟩⟩
  case round =>
    clear H'
    try clear p2
    obtain ⟨x3_1, x9_1, rfl, HA, HK1, HO_3, HB⟩ := hrel
    cases gk with
    | zero => exact absurd HA.out (by simp [impl_signs.l0])
    | succ k1 =>
      have H := HA.out
      clear HA
      simp only [impl_signs.l0] at H
      by_cases c4 : x9_1 < (l0.length : Int)
      · rw [if_pos c4] at H
        have c4b0 : decide (x9_1 < (l0.length : Int)) = true := decide_eq_true c4
        clear c4
        by_cases c5 : 0 ≤ x9_1
        · rw [if_pos c5] at H
          have c5b0 : decide (0 ≤ x9_1) = true := decide_eq_true c5
          clear c5
          by_cases c6 : x9_1 < (l0.length : Int)
          · rw [if_pos c6] at H
            have c6b0 : decide (x9_1 < (l0.length : Int)) = true := decide_eq_true c6
            clear c6
            by_cases c7 : 0 ≤ (rd l0 x9_1)
            · rw [if_pos c7] at H
              have c7b0 : decide (0 ≤ (rd l0 x9_1)) = true := decide_eq_true c7
              clear c7
              by_cases c8 : (rd l0 x9_1) < 12
              · rw [if_pos c8] at H
                have c8b0 : decide ((rd l0 x9_1) < 12) = true := decide_eq_true c8
                clear c8
                by_cases c10 : x3_1.length < 140737488355328
                · rw [if_pos c10] at H
                  have LMc10 := Aside0.mk c10
                  clear c10
                  obtain ⟨y255, hy255⟩ : ∃ y_ : List Int, y_ = (x3_1 ++ [bt (⟨#[49, 50, 51, 52, 53, 54, 55, 56, 57, 42, 48, 35]⟩ : ByteArray) (rd l0 x9_1)]) := ⟨_, rfl⟩
                  replace H : (impl_signs.l0 k1 y255 l0 (l0.length : Int) (wrap64 (x9_1 + 1))) = some r := by first | (rw [hy255]; with_reducible exact H) | (have H2_ := (Option.bind_some _ _).symm.trans H; rw [hy255]; with_reducible exact H2_) | (have H2_ := (Option.bind_some _ _).symm.trans H; with_reducible exact H2_) | with_reducible exact H | (rw [hy255]; exact H) | exact H
                  have Ny255 := Aside0.mk hy255
                  clear hy255
                  have H' := Aside0.mk H
                  clear H
                  have p254 : 0 ≤ (x9_1 : Int) := of_decide_eq_true (by first | (with_reducible assumption) | assumption)
                  have q254 : x9_1 < (l0.length : Int) := of_decide_eq_true (by first | (with_reducible assumption) | assumption)
                  obtain ⟨ad254, e254, hx254_0⟩ := Kd.at_int HR0.out x9_1 p254 q254
                  cases e254
                  replace hx254_0 := (HB.out.cell (World.block_lt_of_cell? w _ hx254_0)).trans hx254_0
                  replace p254 := eq_true p254
                  replace q254 := eq_true q254
                  have p9 : 0 ≤ ((rd l0 x9_1) : Int) := of_decide_eq_true (by first | (with_reducible assumption) | assumption)
                  have q9 : (rd l0 x9_1) < (12 : Int) := of_decide_eq_true (by first | (with_reducible assumption) | assumption)
                  have hx9 := bt_at (⟨#[49, 50, 51, 52, 53, 54, 55, 56, 57, 42, 48, 35]⟩ : ByteArray) (rd l0 x9_1)
                  replace p9 := eq_true p9
                  replace q9 := eq_true q9
                  go_wp2_with (first | ((with_reducible refine gate_builtin (b := .append) (xs := #[.tmp 13, .tmp 16]) rfl ?_); at_builtin; refine Kd.R_append (Kd.int .u8) (w0 := w) w.heap.size rfl (.tmp 13) (.tmp 16) 22 5 (.int .u8 0) 1 rfl Tryz.underlying22 info5 rfl (by decide) (by omega) u3 x3_1 (bt (⟨#[49, 50, 51, 52, 53, 54, 55, 56, 57, 42, 48, 35]⟩ : ByteArray) (rd l0 x9_1)) [.int .u8 (bt (⟨#[49, 50, 51, 52, 53, 54, 55, 56, 57, 42, 48, 35]⟩ : ByteArray) (rd l0 x9_1))] (fun _ => True) (fun _ => False) rfl rfl ?aP (fun _ hk => hk.elim) ?aF ?aO ?aB ?aS ?aL ?_; (case aP => exact rfl); (case aB => exact (by repeat (first | (with_reducible first | exact HB.out | apply below_alloc | apply pw_below_drewN | apply below_drew1) | exact HB.out))); (case aF => exact (fun _ _ => trivial)); (case aO => exact (by (with_reducible repeat (first | apply Kd.R_alloc | apply Kd.R_drewN | apply Kd.R_drew)); exact HO_3.out)); (case aS => exact (below_size (by repeat (first | (with_reducible first | exact HB.out | apply below_alloc | apply pw_below_drewN | apply below_drew1) | exact HB.out)))); (case aL => have := LMc10.out; omega); intro v256 w11 ho hb hg hat; rw [← Ny255.out] at ho; have n0_ := Aside0.mk (hb); have n1_ := Aside0.mk (ho); clear HB; clear HO_3; have HB := n0_; have HO257 := n1_; clear n0_ n1_; clear ho hb hg hat))
                  go_roundg k1
                  case measure => have := HK1.out; omega
                  case rel => exact ⟨(y255), (wrap64 (x9_1 + 1)), (by first | rfl | (simp; done) | (simp [*]; done)), H', ⟨by have := HK1.out; omega⟩, ⟨by (with_reducible repeat (first | apply Kd.R_alloc | apply Kd.R_drewN | apply Kd.R_drew)); exact HO257.out⟩, ⟨by repeat (first | (with_reducible first | exact HB.out | apply below_alloc | apply pw_below_drewN | apply below_drew1) | exact HB.out)⟩⟩
                · rw [if_neg c10] at H
                  exact absurd H (by simp)
              · rw [if_neg c8] at H
                exact absurd H (by simp)
            · rw [if_neg c7] at H
              exact absurd H (by simp)
          · rw [if_neg c6] at H
            exact absurd H (by simp)
        · rw [if_neg c5] at H
          exact absurd H (by simp)
      · rw [if_neg c4] at H
        have c4b0 : decide (x9_1 < (l0.length : Int)) = false := decide_eq_false c4
        clear c4
        obtain rfl := Option.some.inj H
        have hcv12 := own_string (P := Tryz.prog) Tryz.underlying22 Tryz.underlying5 Tryz.underlying9 (Kd.own_of_R HO_3.out)
        go_wp2
        go_ret
        exact ⟨by first | rfl | (simp [errW_none, errW_some] <;> rfl) | (simp [*, errW_none, errW_some] <;> rfl), by repeat (first | (with_reducible first | exact HB.out | apply below_alloc | apply pw_below_drewN | apply below_drew1) | exact HB.out)⟩
end Go.Proofs.YtldnddehmpbbpaaGreatDoor.P
end

section
namespace Go.Proofs.YtldnddehmpbbpaaGreatDoor.P
open Go.RowKit Go.Proofs.YtldnddehmpbbpaaGreatDoorW.PrintWords Go.Proofs.YtldnddehmpbbpaaGreatDoorW.PrintLast Go.Proofs.YtldnddehmpbbpaaGreatDoorW.PrintMore
attribute [local go_sem] max2_int min2_int max_two min_two max_three min_three max_four min_four   -- for this text's walks alone
set_option linter.unusedVariables false
set_option linter.unusedSimpArgs false
def impl_MirrorKeys_1.f (a0 : Int) : Option (Int) := some (wrap64 ((wrap64 ((wrap64 ((wrap64 ((wrap64 (Int.tdiv a0 3)) * 3)) + 3)) - 1)) - (Int.tmod a0 3)))
set_option maxHeartbeats 8000000 in
set_option maxRecDepth 100000 in
theorem impl_MirrorKeys_1.calls (a0 : Int) (r : Int) (w : World) (h : impl_MirrorKeys_1.f a0 = some r) :
    Calls Tryz.prog 51 #[.int .i64 a0] w fun e w' => e = .returned (.int .i64 r) ∧ Drawn0 w w' := by
  have H : (some (wrap64 ((wrap64 ((wrap64 ((wrap64 ((wrap64 (Int.tdiv a0 3)) * 3)) + 3)) - 1)) - (Int.tmod a0 3)))) = some r := h
  clear h
  obtain rfl := Option.some.inj H
  go_enter Tryz.func51, Tryz.ntmps51
  go_wp2
  go_ret
  exact ⟨by first | rfl | (simp; done) | (simp [*]; done), by repeat (first | exact Drawn0.refl _ | apply Drawn0.step)⟩
end Go.Proofs.YtldnddehmpbbpaaGreatDoor.P
end

section
namespace Go.Proofs.YtldnddehmpbbpaaGreatDoor.P
open Go.RowKit Go.Proofs.YtldnddehmpbbpaaGreatDoorW.PrintWords Go.Proofs.YtldnddehmpbbpaaGreatDoorW.PrintLast Go.Proofs.YtldnddehmpbbpaaGreatDoorW.PrintMore
attribute [local go_sem] max2_int min2_int max_two min_two max_three min_three max_four min_four   -- for this text's walks alone
set_option linter.unusedVariables false
set_option linter.unusedSimpArgs false
def impl_changed_at_MirrorKeys_1.l0 : Nat → List Int → List Int → Int → Int → Option (ByteArray × Bool)
  | 0, _, _, _, _ => none
  | k + 1, x6, x14, x15, x16 => if x16 < x15 then (if 0 ≤ x16 then (if x16 < (x14.length : Int) then ((impl_MirrorKeys_1.f (rd x14 x16)).bind fun t266 => (if x6.length < 17592186044416 then (impl_changed_at_MirrorKeys_1.l0 k (x6 ++ [t266]) x14 x15 (wrap64 (x16 + 1))) else (none))) else (none)) else (none)) else ((impl_signs.f k x6).bind fun t270 => (some (t270, true)))
def impl_changed_at_MirrorKeys_1.f (k : Nat) (a0 : ByteArray) : Option (ByteArray × Bool) := (impl_IsDialed.f a0).bind fun t258 => (if t258 = true then ((impl_places.f k a0).bind fun t262 => (impl_changed_at_MirrorKeys_1.l0 k (([] : List Int)) t262 (t262.length : Int) 0)) else (some ((⟨#[]⟩ : ByteArray), false)))
theorem impl_changed_at_MirrorKeys_1.mono_l : ∀ k, (∀ y0 y1 y2 y3, LeO (impl_changed_at_MirrorKeys_1.l0 k y0 y1 y2 y3) (impl_changed_at_MirrorKeys_1.l0 (k + 1) y0 y1 y2 y3))
  | 0 => fun _ _ _ _ r h => by simp [impl_changed_at_MirrorKeys_1.l0] at h
  | k + 1 => by
    have ih0 := impl_changed_at_MirrorKeys_1.mono_l k
    · intro y0 y1 y2 y3
      unfold impl_changed_at_MirrorKeys_1.l0
      repeat' first
      | (with_reducible exact ih0 _ _ _ _)
      | (with_reducible exact impl_places.mono _ _)
      | (with_reducible exact impl_signs.mono _ _)
      | (with_reducible exact LeO.refl _)
      | (with_reducible exact LeO.none _)
      | (with_reducible refine LeO.ite ?_ ?_)
      | (with_reducible refine LeO.bind ?_ (fun _ => ?_))
      | exact ih0 _ _ _ _
      | exact impl_places.mono _ _
      | exact impl_signs.mono _ _
      | exact LeO.none _
      | refine LeO.ite ?_ ?_
      | refine LeO.bind ?_ (fun _ => ?_)
theorem impl_changed_at_MirrorKeys_1.mono : ∀ a0 k, LeO (impl_changed_at_MirrorKeys_1.f k a0) (impl_changed_at_MirrorKeys_1.f (k + 1) a0) := by
  intro a0 k
  have ih0 := impl_changed_at_MirrorKeys_1.mono_l k
  unfold impl_changed_at_MirrorKeys_1.f
  repeat' first
      | (with_reducible exact ih0 _ _ _ _)
      | (with_reducible exact impl_places.mono _ _)
      | (with_reducible exact impl_signs.mono _ _)
      | (with_reducible exact LeO.refl _)
      | (with_reducible exact LeO.none _)
      | (with_reducible refine LeO.ite ?_ ?_)
      | (with_reducible refine LeO.bind ?_ (fun _ => ?_))
      | exact ih0 _ _ _ _
      | exact impl_places.mono _ _
      | exact impl_signs.mono _ _
      | exact LeO.none _
      | refine LeO.ite ?_ ?_
      | refine LeO.bind ?_ (fun _ => ?_)
set_option maxHeartbeats 8000000 in
set_option maxRecDepth 100000 in
theorem impl_changed_at_MirrorKeys_1.calls (k : Nat) (a0 : ByteArray) (r1 : ByteArray) (r2 : Bool) (w : World) (h : impl_changed_at_MirrorKeys_1.f k a0 = some (r1, r2)) :
    Calls Tryz.prog 50 #[.string a0, .func (.func 51) #[] #[]] w fun e w' => e = .returned (.tuple #[.string r1, .bool r2]) ∧ Below w.heap.size w w' := by
  have HB := Aside0.mk (Below.refl w.heap.size w)
  have H : ((impl_IsDialed.f a0).bind fun t258 => (if t258 = true then ((impl_places.f k a0).bind fun t262 => (impl_changed_at_MirrorKeys_1.l0 k (([] : List Int)) t262 (t262.length : Int) 0)) else (some ((⟨#[]⟩ : ByteArray), false)))) = some (r1, r2) := h
  clear h
  replace H := Option.bind_eq_some_iff.mp H
  obtain ⟨t258, A20, H⟩ := H
  replace H : (if t258 = true then ((impl_places.f k a0).bind fun t262 => (impl_changed_at_MirrorKeys_1.l0 k (([] : List Int)) t262 (t262.length : Int) 0)) else (some ((⟨#[]⟩ : ByteArray), false))) = some (r1, r2) := H
  have A2 := Aside0.mk A20
  clear A20
  by_cases c3 : t258 = true
  · subst c3
    have H1 : ((impl_places.f k a0).bind fun t262 => (impl_changed_at_MirrorKeys_1.l0 k (([] : List Int)) t262 (t262.length : Int) 0)) = some (r1, r2) := by rw [if_pos rfl] at H; exact H
    clear H
    have H := H1
    clear H1
    obtain ⟨y259, hy259⟩ : ∃ y_ : List Int, y_ = (([] : List Int)) := ⟨_, rfl⟩
    replace H : ((impl_places.f k a0).bind fun t262 => (impl_changed_at_MirrorKeys_1.l0 k y259 t262 (t262.length : Int) 0)) = some (r1, r2) := by first | (rw [hy259]; with_reducible exact H) | (have H2_ := (Option.bind_some _ _).symm.trans H; rw [hy259]; with_reducible exact H2_) | (have H2_ := (Option.bind_some _ _).symm.trans H; with_reducible exact H2_) | with_reducible exact H | (rw [hy259]; exact H) | exact H
    have Ny259 := Aside0.mk hy259
    clear hy259
    replace H := Option.bind_eq_some_iff.mp H
    obtain ⟨t262, A40, H⟩ := H
    replace H : (impl_changed_at_MirrorKeys_1.l0 k y259 t262 (t262.length : Int) 0) = some (r1, r2) := H
    have A4 := Aside0.mk A40
    clear A40
    have H' := Aside0.mk H
    clear H
    go_enter Tryz.func50, Tryz.ntmps50
    go_wp2_with (first | ((with_reducible refine gate_callee (f := 13) rfl ?_); refine goesL_ (some 10) rfl rfl Tryz.func13 (by kernel_rfl) rfl #[.string a0] rfl (by (try simp only [List.map_toArray, List.map_cons, List.map_nil]); first | done | rfl | (simp only [List.length_drop, List.length_take]; rfl)) ?_; (with_reducible refine (impl_IsDialed.calls a0 true _ A2.out).mono ?_); rintro e w5 ⟨rfl, hb⟩; refine ⟨_, rfl, ?_⟩; have n0_ := Aside0.mk (below_step (by repeat (first | (with_reducible first | exact HB.out | apply below_alloc | apply pw_below_drewN | apply below_drew1) | exact HB.out)) hb); clear HB; have HB := n0_; clear n0_; (try clear hb); (try clear hb2); (try clear hk); (try clear hi)) | ((with_reducible refine gate_dst (N := 12) rfl ?_); refine Kd.R_lit (Kd.int .i64) _ 3 ?hg (N := 12) ?hd (xs := ([] : List Int)) (inner := []) (ok := fun _ => True) (okp := fun _ => True) ?hr ?hp (fun _ hk => hk) trivial (Below.refl _ _) (Nat.le_refl _) (by simp) ?_; (case hd => rfl); (case hg => rfl); (case hr => first | (go_simp; done) | (go_simp; rfl)); (case hp => exact (Reps.none _ _)); intro v260 w6 ho7 hb hg_ hnew_; clear hg_ hnew_; (first | rw [← Ny259.out] at ho7 | (simp only [Int.reduceToNat] at ho7; rw [← Ny259.out] at ho7)); have n0_ := Aside0.mk (Kd.R_lower ho7 (below_size (by repeat (first | (with_reducible first | exact HB.out | apply below_alloc | apply pw_below_drewN | apply below_drew1) | exact HB.out)))); have n1_ := Aside0.mk (below_step (by repeat (first | (with_reducible first | exact HB.out | apply below_alloc | apply pw_below_drewN | apply below_drew1) | exact HB.out)) hb); clear HB; have HO261 := n0_; have HB := n1_; clear n0_ n1_; clear hb ho7) | ((with_reducible refine gate_callee (f := 46) rfl ?_); refine goesL_ (some 14) rfl rfl Tryz.func46 (by kernel_rfl) rfl #[.string a0] rfl (by (try simp only [List.map_toArray, List.map_cons, List.map_nil]); first | done | rfl | (simp only [List.length_drop, List.length_take]; rfl)) ?_; (with_reducible refine (impl_places.calls k a0 t262 _ A4.out).mono ?_); rintro e w8 ⟨v263, rfl, ho0, hb⟩; refine ⟨_, rfl, ?_⟩; have n0_ := Aside0.mk (Kd.R_elder' (by (with_reducible repeat (first | apply Kd.R_alloc | apply Kd.R_drewN | apply Kd.R_drew)); exact HO261.out) (Kd.R_base ho0) hb); have n1_ := Aside0.mk (Kd.R_lower (Kd.R_new' ho0 (Kd.R_lt (by (with_reducible repeat (first | apply Kd.R_alloc | apply Kd.R_drewN | apply Kd.R_drew)); exact HO261.out))) (below_size (by repeat (first | (with_reducible first | exact HB.out | apply below_alloc | apply pw_below_drewN | apply below_drew1) | exact HB.out)))); have n2_ := Aside0.mk (below_step (by repeat (first | (with_reducible first | exact HB.out | apply below_alloc | apply pw_below_drewN | apply below_drew1) | exact HB.out)) hb); clear HO261; clear HB; have HO261 := n0_; have HO264 := n1_; have HB := n2_; clear n0_ n1_ n2_; (try clear hb); (try clear hb2); (try clear hk); (try clear hi); (try clear ho0); obtain ⟨Ao9, co9, eo9⟩ := Kd.R_slice HO264.out; subst eo9))
    go_loopg [6, 16] k (fun kq v6 v16 w' => ∃ (x6_1 : List Int) (x16_1 : Int), v16 = .int .i64 x16_1 ∧ Aside0 (impl_changed_at_MirrorKeys_1.l0 kq x6_1 t262 (t262.length : Int) x16_1 = some (r1, r2)) ∧ Aside0 (kq ≤ k) ∧ Aside0 (Kd.R (Kd.int .i64) 3 w' w.heap.size (fun k_ => some k_ ≠ ((.slice Ao9 t262.length co9) : Value).ownBlock) v6 x6_1) ∧ Aside0 (Kd.R (Kd.int .i64) 3 w' w.heap.size (fun k_ => some k_ ≠ (v6 : Value).ownBlock) (.slice Ao9 t262.length co9) t262) ∧ Aside0 (Below w.heap.size w w'))
    case atStart => exact ⟨(y259), (0), (by first | rfl | (simp; done) | (simp [*]; done)), H', ⟨Nat.le_refl _⟩, ⟨by (with_reducible repeat (first | apply Kd.R_alloc | apply Kd.R_drewN | apply Kd.R_drew)); exact Kd.R_mono HO261.out (fun _ hk => hk.2)⟩, ⟨by (with_reducible repeat (first | apply Kd.R_alloc | apply Kd.R_drewN | apply Kd.R_drew)); exact Kd.R_mono HO264.out (fun _ hk => hk.2)⟩, ⟨by repeat (first | (with_reducible first | exact HB.out | apply below_alloc | apply pw_below_drewN | apply below_drew1) | exact HB.out)⟩⟩
    case round =>
      clear H'
      try clear c1
      try clear p2
      try clear c3
      try clear c4
      obtain ⟨x6_1, x16_1, rfl, HA, HK1, HO_6, HO_14, HB⟩ := hrel
      cases gk with
      | zero => exact absurd HA.out (by simp [impl_changed_at_MirrorKeys_1.l0])
      | succ k1 =>
        have H := HA.out
        clear HA
        simp only [impl_changed_at_MirrorKeys_1.l0] at H
        by_cases c10 : x16_1 < (t262.length : Int)
        · rw [if_pos c10] at H
          have c10b0 : decide (x16_1 < (t262.length : Int)) = true := decide_eq_true c10
          clear c10
          by_cases c11 : 0 ≤ x16_1
          · rw [if_pos c11] at H
            have c11b0 : decide (0 ≤ x16_1) = true := decide_eq_true c11
            clear c11
            by_cases c12 : x16_1 < (t262.length : Int)
            · rw [if_pos c12] at H
              have c12b0 : decide (x16_1 < (t262.length : Int)) = true := decide_eq_true c12
              clear c12
              replace H := Option.bind_eq_some_iff.mp H
              obtain ⟨t266, A130, H⟩ := H
              replace H : (if x6_1.length < 17592186044416 then (impl_changed_at_MirrorKeys_1.l0 k1 (x6_1 ++ [t266]) t262 (t262.length : Int) (wrap64 (x16_1 + 1))) else (none)) = some (r1, r2) := H
              have A13 := Aside0.mk A130
              clear A130
              by_cases c14 : x6_1.length < 17592186044416
              · rw [if_pos c14] at H
                have LMc14 := Aside0.mk c14
                clear c14
                obtain ⟨y267, hy267⟩ : ∃ y_ : List Int, y_ = (x6_1 ++ [t266]) := ⟨_, rfl⟩
                replace H : (impl_changed_at_MirrorKeys_1.l0 k1 y267 t262 (t262.length : Int) (wrap64 (x16_1 + 1))) = some (r1, r2) := by first | (rw [hy267]; with_reducible exact H) | (have H2_ := (Option.bind_some _ _).symm.trans H; rw [hy267]; with_reducible exact H2_) | (have H2_ := (Option.bind_some _ _).symm.trans H; with_reducible exact H2_) | with_reducible exact H | (rw [hy267]; exact H) | exact H
                have Ny267 := Aside0.mk hy267
                clear hy267
                have H' := Aside0.mk H
                clear H
                have p265 : 0 ≤ (x16_1 : Int) := of_decide_eq_true (by first | (with_reducible assumption) | assumption)
                have q265 : x16_1 < (t262.length : Int) := of_decide_eq_true (by first | (with_reducible assumption) | assumption)
                (try (obtain ⟨Aq_, cq_, eq_⟩ := Kd.R_slice HO_14.out; subst eq_))
                obtain ⟨ad265, e265, hx265_0⟩ := Kd.at_int (Kd.R_reads' HO_14.out).2.2 x16_1 p265 q265
                cases e265
                replace p265 := eq_true p265
                replace q265 := eq_true q265
                go_wp2_with (first | ((with_reducible refine Go.Proofs.YtldnddehmpbbpaaGreatDoor.Strs.gate_slot (s := 21) rfl ?_); refine Go.Proofs.YtldnddehmpbbpaaGreatDoor.Strs.goesV_ (some 23) rfl rfl (f := 51) Tryz.func51 (by kernel_rfl) rfl #[.int .i64 (rd t262 x16_1)] rfl rfl (by (try simp only [List.map_toArray, List.map_cons, List.map_nil]); first | done | rfl) ?_; (with_reducible refine (impl_MirrorKeys_1.calls (rd t262 x16_1) t266 _ A13.out).mono ?_); rintro e w' ⟨rfl, ⟨nd, rfl⟩⟩; refine ⟨_, rfl, ?_⟩) | ((with_reducible refine gate_builtin (b := .append) (xs := #[.tmp 20, .tmp 24]) rfl ?_); at_builtin; refine Kd.R_append (Kd.int .i64) (w0 := w) w.heap.size rfl (.tmp 20) (.tmp 24) 26 3 (.int .i64 0) 8 rfl Tryz.underlying26 info3 rfl (by decide) (by omega) u6 x6_1 t266 [.int .i64 t266] (fun k_ => some k_ ≠ (.slice (some ad265) t262.length co9 : Value).ownBlock) (fun _ => False) rfl rfl ?aP (fun _ hk => hk.elim) ?aF ?aO ?aB ?aS ?aL ?_; (case aP => exact rfl); (case aB => exact (by repeat (first | (with_reducible first | exact HB.out | apply below_alloc | apply pw_below_drewN | apply below_drew1) | exact HB.out))); (case aF => exact (fun k_ hk => Kd.fresh' (Kd.R_lt (by (with_reducible repeat (first | apply Kd.R_alloc | apply Kd.R_drewN | apply Kd.R_drew)); exact HO_14.out)) k_ hk)); (case aO => exact (by (with_reducible repeat (first | apply Kd.R_alloc | apply Kd.R_drewN | apply Kd.R_drew)); exact HO_6.out)); (case aS => exact (below_size (by repeat (first | (with_reducible first | exact HB.out | apply below_alloc | apply pw_below_drewN | apply below_drew1) | exact HB.out)))); (case aL => have := LMc14.out; omega); intro v268 w15 ho hb hg hat; rw [← Ny267.out] at ho; have n0_ := Aside0.mk (Kd.R_after (ok := (fun _ => True)) (by (with_reducible repeat (first | apply Kd.R_alloc | apply Kd.R_drewN | apply Kd.R_drew)); exact Kd.R_mono HO_14.out (fun _ hk => ⟨trivial, hk⟩)) hg hat); have n1_ := Aside0.mk (hb); have n2_ := Aside0.mk (ho); clear HO_14; clear HB; clear HO_6; have HO_14 := n0_; have HB := n1_; have HO269 := n2_; clear n0_ n1_ n2_; clear ho hb hg hat))
                go_roundg k1
                case measure => have := HK1.out; omega
                case rel => exact ⟨(y267), (wrap64 (x16_1 + 1)), (by first | rfl | (simp; done) | (simp [*]; done)), H', ⟨by have := HK1.out; omega⟩, ⟨by (with_reducible repeat (first | apply Kd.R_alloc | apply Kd.R_drewN | apply Kd.R_drew)); exact HO269.out⟩, ⟨by (with_reducible repeat (first | apply Kd.R_alloc | apply Kd.R_drewN | apply Kd.R_drew)); exact Kd.R_mono HO_14.out (fun _ hk => hk.2)⟩, ⟨by repeat (first | (with_reducible first | exact HB.out | apply below_alloc | apply pw_below_drewN | apply below_drew1) | exact HB.out)⟩⟩
              · rw [if_neg c14] at H
                exact absurd H (by simp)
            · rw [if_neg c12] at H
              exact absurd H (by simp)
          · rw [if_neg c11] at H
            exact absurd H (by simp)
        · rw [if_neg c10] at H
          have c10b0 : decide (x16_1 < (t262.length : Int)) = false := decide_eq_false c10
          clear c10
          replace H := Option.bind_eq_some_iff.mp H
          obtain ⟨t270, A160, H⟩ := H
          replace H : (some (t270, true)) = some (r1, r2) := H
          have A16 := Aside0.mk A160
          clear A160
          simp only [Option.some.injEq, Prod.mk.injEq] at H
          obtain ⟨rfl, rfl⟩ := H
          obtain ⟨Ao17, co17, eo17⟩ := Kd.R_slice HO_6.out
          subst eo17
          go_wp2_with (first | ((with_reducible refine gate_callee (f := 74) rfl ?_); refine goesL_ (some 28) rfl rfl Tryz.func74 (by kernel_rfl) rfl #[.slice Ao17 x6_1.length co17] rfl (by (try simp only [List.map_toArray, List.map_cons, List.map_nil]); first | done | rfl | (simp only [List.length_drop, List.length_take]; rfl)) ?_; (with_reducible refine (impl_signs.calls k1 _ _ x6_1 t270 _ ?side1 ?side2 A16.out).mono ?_); (case side1 => repeat (first | exact (Kd.R_reads' HO_6.out).2.2 | (with_reducible refine Kd.C_alloc ?_ _) | (with_reducible refine Kd.C_drewN ?_ _) | (with_reducible refine Kd.C_drew ?_))); (case side2 => exact (Kd.R_reads' HO_6.out).2.1); rintro e w18 ⟨rfl, hb⟩; refine ⟨_, rfl, ?_⟩; have n0_ := Aside0.mk (Kd.R_below (by (with_reducible repeat (first | apply Kd.R_alloc | apply Kd.R_drewN | apply Kd.R_drew)); exact HO_6.out) hb); have n1_ := Aside0.mk (Kd.R_below (by (with_reducible repeat (first | apply Kd.R_alloc | apply Kd.R_drewN | apply Kd.R_drew)); exact HO_14.out) hb); have n2_ := Aside0.mk (below_step (by repeat (first | (with_reducible first | exact HB.out | apply below_alloc | apply pw_below_drewN | apply below_drew1) | exact HB.out)) hb); clear HO_6; clear HO_14; clear HB; have HO_6 := n0_; have HO_14 := n1_; have HB := n2_; clear n0_ n1_ n2_; (try clear hb); (try clear hb2); (try clear hk); (try clear hi)))
          go_ret2
          exact ⟨by first | rfl | (simp [errW_none, errW_some] <;> rfl) | (simp [*, errW_none, errW_some] <;> rfl), by repeat (first | (with_reducible first | exact HB.out | apply below_alloc | apply pw_below_drewN | apply below_drew1) | exact HB.out)⟩
  · replace c3 := Bool.eq_false_iff.mpr c3
    subst c3
    have H1 : (some ((⟨#[]⟩ : ByteArray), false)) = some (r1, r2) := by rw [if_neg (show ¬ (false = true) by decide)] at H; exact H
    clear H
    have H := H1
    clear H1
    simp only [Option.some.injEq, Prod.mk.injEq] at H
    obtain ⟨rfl, rfl⟩ := H
    go_enter Tryz.func50, Tryz.ntmps50
    go_wp2_with (first | ((with_reducible refine gate_callee (f := 13) rfl ?_); refine goesL_ (some 10) rfl rfl Tryz.func13 (by kernel_rfl) rfl #[.string a0] rfl (by (try simp only [List.map_toArray, List.map_cons, List.map_nil]); first | done | rfl | (simp only [List.length_drop, List.length_take]; rfl)) ?_; (with_reducible refine (impl_IsDialed.calls a0 false _ A2.out).mono ?_); rintro e w19 ⟨rfl, hb⟩; refine ⟨_, rfl, ?_⟩; have n0_ := Aside0.mk (below_step (by repeat (first | (with_reducible first | exact HB.out | apply below_alloc | apply pw_below_drewN | apply below_drew1) | exact HB.out)) hb); clear HB; have HB := n0_; clear n0_; (try clear hb); (try clear hb2); (try clear hk); (try clear hi)))
    go_ret2
    exact ⟨by first | rfl | (simp [errW_none, errW_some] <;> rfl) | (simp [*, errW_none, errW_some] <;> rfl), by repeat (first | (with_reducible first | exact HB.out | apply below_alloc | apply pw_below_drewN | apply below_drew1) | exact HB.out)⟩
end Go.Proofs.YtldnddehmpbbpaaGreatDoor.P
end

section
namespace Go.Proofs.YtldnddehmpbbpaaGreatDoor.P
open Go.RowKit Go.Proofs.YtldnddehmpbbpaaGreatDoorW.PrintWords Go.Proofs.YtldnddehmpbbpaaGreatDoorW.PrintLast Go.Proofs.YtldnddehmpbbpaaGreatDoorW.PrintMore
attribute [local go_sem] max2_int min2_int max_two min_two max_three min_three max_four min_four   -- for this text's walks alone
set_option linter.unusedVariables false
set_option linter.unusedSimpArgs false
def impl_MirrorKeys.f (k : Nat) (a0 : ByteArray) : Option (ByteArray × Bool) := (impl_changed_at_MirrorKeys_1.f k a0).bind fun bt258 => (some (bt258.1, bt258.2))
theorem impl_MirrorKeys.mono : ∀ a0 k, LeO (impl_MirrorKeys.f k a0) (impl_MirrorKeys.f (k + 1) a0) := by
  intro a0 k
  unfold impl_MirrorKeys.f
  repeat' first
      | (with_reducible exact impl_changed_at_MirrorKeys_1.mono _ _)
      | (with_reducible exact LeO.refl _)
      | (with_reducible exact LeO.none _)
      | (with_reducible refine LeO.ite ?_ ?_)
      | (with_reducible refine LeO.bind ?_ (fun _ => ?_))
      | exact impl_changed_at_MirrorKeys_1.mono _ _
      | exact LeO.none _
      | refine LeO.ite ?_ ?_
      | refine LeO.bind ?_ (fun _ => ?_)
set_option maxHeartbeats 8000000 in
set_option maxRecDepth 100000 in
theorem impl_MirrorKeys.calls (k : Nat) (a0 : ByteArray) (r1 : ByteArray) (r2 : Bool) (w : World) (h : impl_MirrorKeys.f k a0 = some (r1, r2)) :
    Calls Tryz.prog 17 #[.string a0] w fun e w' => e = .returned (.tuple #[.string r1, .bool r2]) ∧ Below w.heap.size w w' := by
  have HB := Aside0.mk (Below.refl w.heap.size w)
  have H : ((impl_changed_at_MirrorKeys_1.f k a0).bind fun bt258 => (some (bt258.1, bt258.2))) = some (r1, r2) := h
  clear h
  replace H := Option.bind_eq_some_iff.mp H
  obtain ⟨⟨t258, t259⟩, A20, H⟩ := H
  replace H : (some (t258, t259)) = some (r1, r2) := H
  have A2 := Aside0.mk A20
  clear A20
  simp only [Option.some.injEq, Prod.mk.injEq] at H
  obtain ⟨rfl, rfl⟩ := H
  go_enter Tryz.func17, Tryz.ntmps17
  go_wp2_with (first | ((with_reducible refine gate_callee (f := 50) rfl ?_); refine goesL_ (some 5) rfl rfl Tryz.func50 (by kernel_rfl) rfl #[.string a0, .func (.func 51) #[] #[]] rfl (by (try simp only [List.map_toArray, List.map_cons, List.map_nil]); first | done | rfl | (simp only [List.length_drop, List.length_take]; rfl)) ?_; (with_reducible refine (impl_changed_at_MirrorKeys_1.calls k a0 t258 t259 _ A2.out).mono ?_); rintro e w3 ⟨rfl, hb⟩; refine ⟨_, rfl, ?_⟩; have n0_ := Aside0.mk (below_step (by repeat (first | (with_reducible first | exact HB.out | apply below_alloc | apply pw_below_drewN | apply below_drew1) | exact HB.out)) hb); clear HB; have HB := n0_; clear n0_; (try clear hb); (try clear hb2); (try clear hk); (try clear hi)))
  go_ret2
  exact ⟨by first | rfl | (simp [errW_none, errW_some] <;> rfl) | (simp [*, errW_none, errW_some] <;> rfl), by repeat (first | (with_reducible first | exact HB.out | apply below_alloc | apply pw_below_drewN | apply below_drew1) | exact HB.out)⟩
end Go.Proofs.YtldnddehmpbbpaaGreatDoor.P
end

section
namespace Go.Proofs.YtldnddehmpbbpaaGreatDoor.P
open Go.RowKit Go.Proofs.YtldnddehmpbbpaaGreatDoorW.PrintWords Go.Proofs.YtldnddehmpbbpaaGreatDoorW.PrintLast Go.Proofs.YtldnddehmpbbpaaGreatDoorW.PrintMore
attribute [local go_sem] max2_int min2_int max_two min_two max_three min_three max_four min_four   -- for this text's walks alone
set_option linter.unusedVariables false
set_option linter.unusedSimpArgs false
def impl_BestStarts.pad : ByteArray := (⟨#[49, 50, 51, 52, 53, 54, 55, 56, 57, 42, 48, 35]⟩ : ByteArray)
def impl_BestStarts.stp (t : List Int × Bool) : Nat → Nat → Int → Int → Int → Option (Int × Int × Int)
  | 0, _, bl, br, le => some (bl, br, le)
  | d + 1, i, bl, br, le => (impl_looker_from.f 0 t 0 ((i / 12 : Nat) : Int) ((i % 12 : Nat) : Int)).bind fun o => if le < 0 ∨ o.1 < le then impl_BestStarts.stp t d (i + 1) ((i / 12 : Nat) : Int) ((i % 12 : Nat) : Int) o.1 else impl_BestStarts.stp t d (i + 1) bl br le
def impl_BestStarts.cut (b : Int × Int × Int) : Option (ByteArray × ByteArray × Int × Bool) :=
  if (0 ≤ b.1 ∧ b.1 ≤ 11) ∧ 0 ≤ b.2.1 ∧ b.2.1 ≤ 11 then some (impl_BestStarts.pad.extract b.1.toNat (b.1 + 1).toNat, impl_BestStarts.pad.extract b.2.1.toNat (b.2.1 + 1).toNat, b.2.2, true) else none
def impl_BestStarts.f (k : Nat) (a0 : ByteArray) (a1 : Bool) : Option (ByteArray × ByteArray × Int × Bool) := (impl_IsDialed.f a0).bind fun ok => (if ok = true then ((impl_newLooker.f k a0 a1).bind fun t => ((impl_BestStarts.stp t 144 0 0 0 (-1)).bind fun b => impl_BestStarts.cut b)) else (some ((⟨#[]⟩ : ByteArray), (⟨#[]⟩ : ByteArray), 0, false)))
theorem impl_BestStarts.mono : ∀ a0 a1 k, LeO (impl_BestStarts.f k a0 a1) (impl_BestStarts.f (k + 1) a0 a1) := by
  intro a0 a1 k
  unfold impl_BestStarts.f
  refine LeO.bind (LeO.refl _) (fun _ => ?_)
  refine LeO.ite ?_ (LeO.refl _)
  exact LeO.bind (impl_newLooker.mono _ _ _) (fun _ => LeO.refl _)
structure impl_BestStarts.Bs (w wr : World) (D : impl_newLooker.Dk) (b9 : Nat) (bl br : Int) : Prop where
  lk : impl_newLooker.Lk wr D
  kept : impl_newLooker.MK D w wr
  lim : D.lim ≤ w.heap.size
  h9 : wr.heap[b9]? = some (.cells #[.int .i64 bl, .int .i64 br] 49 (0, 0))
  g9 : w.heap.size ≤ b9
theorem impl_BestStarts.Bs.grow {w wr w2 : World} {D : impl_newLooker.Dk} {b9 : Nat} {bl br : Int} (h : impl_BestStarts.Bs w wr D b9 bl br) (hb : Below wr.heap.size wr w2) : impl_BestStarts.Bs w w2 D b9 bl br :=
  ⟨h.lk.keep fun k hk => hb.block k (by have := h.lim; have := h.kept.size; omega), h.kept.trans (impl_newLooker.MK.of_below hb), h.lim, blk_below h.h9 hb, h.g9⟩
theorem impl_BestStarts.Bs.call {w wr w2 : World} {D : impl_newLooker.Dk} {b9 : Nat} {bl br : Int} (h : impl_BestStarts.Bs w wr D b9 bl br) (hl : impl_newLooker.Lk w2 D) (hm : impl_newLooker.MK D wr w2) : impl_BestStarts.Bs w w2 D b9 bl br :=
  ⟨hl, h.kept.trans hm, h.lim, hm.blk h.lk h.h9, h.g9⟩
theorem impl_BestStarts.Bs.put {w wr : World} {D : impl_newLooker.Dk} {b9 : Nat} {bl br : Int} (h : impl_BestStarts.Bs w wr D b9 bl br) (x y : Int) : impl_BestStarts.Bs w ((wr.setCell ⟨b9, 0, none⟩ (.int .i64 x)).setCell ⟨b9, 1, none⟩ (.int .i64 y)) D b9 x y := by
  have k1 := impl_looker_from.keep_set h.lk h.kept h.lim (p := ⟨b9, 0, none⟩) h.g9 (.int .i64 x)
  have k2 := impl_looker_from.keep_set k1.1 k1.2 h.lim (p := ⟨b9, 1, none⟩) h.g9 (.int .i64 y)
  exact ⟨k2.1, k2.2, h.lim, blk_put (cs := #[.int .i64 x, .int .i64 br]) (blk_put h.h9 0 _ rfl) 1 _ rfl, h.g9⟩
set_option maxHeartbeats 8000000 in
set_option maxRecDepth 100000 in
theorem impl_BestStarts.calls (k : Nat) (a0 : ByteArray) (a1 : Bool) (r1 : ByteArray) (r2 : ByteArray) (r3 : Int) (r4 : Bool) (w : World) (h : impl_BestStarts.f k a0 a1 = some (r1, r2, r3, r4)) :
    Calls Tryz.prog 18 #[.string a0, .bool a1] w fun e w' => e = .returned (.tuple #[.string r1, .string r2, .int .i64 r3, .bool r4]) ∧ Below w.heap.size w w' := by
  have hu39 := Tryz.underlying49
  have hu43 := Tryz.underlying60
  unfold impl_BestStarts.f at h
  obtain ⟨ok, h1, h⟩ := Option.bind_eq_some_iff.1 h
  have H1 := Aside0.mk h1
  clear h1
  cases ok with
  | false =>
    rw [if_neg (by simp)] at h
    simp only [Option.some.injEq, Prod.mk.injEq] at h
    obtain ⟨rfl, rfl, rfl, rfl⟩ := h
    go_enter Tryz.func18, Tryz.ntmps18
    go_wp2_with (first | (go_at_call 13; refine (impl_IsDialed.calls a0 false _ H1.out).mono ?_; rintro e w1 ⟨rfl, hb⟩))
    refine bodyPost_ret (results_list (rs := [.tmp 4, .tmp 5, .tmp 6, .tmp 7]) rfl (by simp) (.tmp (.tmp (.tmp (.tmp .nil))))) rfl ?_
    exact ⟨rfl, hb⟩
  | true =>
    rw [if_pos rfl] at h
    obtain ⟨t, h2, h⟩ := Option.bind_eq_some_iff.1 h
    obtain ⟨fin, h3, h⟩ := Option.bind_eq_some_iff.1 h
    have H2 := Aside0.mk h2
    have H3 := Aside0.mk h3
    have H4 := Aside0.mk h
    clear h2 h3 h
    go_enter Tryz.func18, Tryz.ntmps18
    go_upto_region 4 with (first | (go_at_call 13; refine (impl_IsDialed.calls a0 true _ H1.out).mono ?_; rintro e w1 ⟨rfl, hb⟩) | (go_at_call 33; refine (impl_newLooker.calls k a0 a1 t _ H2.out).mono ?_; rintro e w2 ⟨D, rfl, hDL, hDc, hlim, hms, hLk, hb2⟩))
    have HBw : Aside0 (Below w.heap.size w w2) := ⟨below_step hb hb2⟩
    have HMs : Aside0 (∀ m ∈ D.ms, w.heap.size ≤ m) := ⟨fun m hm => Nat.le_trans hb.size (hms.ms m hm)⟩
    have h9 := blk_new w2 (.cells #[.int .i64 0, .int .i64 0] 49)
    have HX : Aside0 (impl_BestStarts.Bs w2 (w2.alloc (.cells #[.int .i64 0, .int .i64 0] 49)) D w2.heap.size 0 0) := ⟨hLk.keep fun q hq => Below.heap_alloc _ _ _ (by omega), impl_newLooker.MK.of_below (below_alloc (Below.refl _ _) _), hlim, h9, Nat.le_refl _⟩
    have HD := Aside0.mk hDL
    have HC := Aside0.mk hDc
    clear h9 hb hb2 hms hLk hlim H1 H2 hDL hDc
    generalize w2.alloc (.cells #[.int .i64 0, .int .i64 0] 49) = W3 at *
    obtain ⟨b9, hb9⟩ : ∃ b9, b9 = w2.heap.size := ⟨_, rfl⟩
    rw [← hb9] at HX
    simp only [← hb9]
    clear hb9
    go_wp2
    go_loopg [10, 22] 12 (fun gg v10 v22 wr => ∃ (a : Nat) (bl br le : Int), v10 = .int .i64 le ∧ v22 = .int .i64 (a : Int) ∧ a + gg = 12 ∧ Aside0 (impl_BestStarts.stp t (12 * gg) (12 * a) bl br le = some fin) ∧ Aside0 (impl_BestStarts.Bs w2 wr D b9 bl br))
    case atStart => exact ⟨0, 0, 0, -1, rfl, rfl, rfl, H3, HX⟩
    case round =>
      clear H3 HX
      obtain ⟨a, bl, br, le, rfl, rfl, ha, HA, HX⟩ := hrel
      by_cases hlt : a < 12
      · obtain ⟨g, rfl⟩ : ∃ g, gk = g + 1 := ⟨gk - 1, by omega⟩
        have ha0 : (a : Int) < 12 := by omega
        have had : decide ((a : Int) < 12) = true := decide_eq_true ha0
        have hwa : IntKind.i64.wrap ((a : Int) + 1) = (a : Int) + 1 := (i64_w _).trans (by unfold wrap64; omega)
        go_wp2
        go_loopg [10, 25] 12 (fun gg v10 v25 wr => ∃ (b : Nat) (bl br le : Int), v10 = .int .i64 le ∧ v25 = .int .i64 (b : Int) ∧ b + gg = 12 ∧ Aside0 (impl_BestStarts.stp t (12 * g + gg) (12 * a + b) bl br le = some fin) ∧ Aside0 (impl_BestStarts.Bs w2 wr D b9 bl br))
        case atStart => exact ⟨0, bl, br, le, rfl, rfl, rfl, ⟨by have := HA.out; rw [show 12 * (g + 1) = 12 * g + 12 by omega] at this; exact this⟩, HX⟩
        case round =>
          clear HA HX
          obtain ⟨b, bl, br, le, rfl, rfl, hb, HA, HX⟩ := hrel
          by_cases hlb : b < 12
          · obtain ⟨q, rfl⟩ : ∃ q, gk = q + 1 := ⟨gk - 1, by omega⟩
            have hb0 : (b : Int) < 12 := by omega
            have hbd : decide ((b : Int) < 12) = true := decide_eq_true hb0
            have hwb : IntKind.i64.wrap ((b : Int) + 1) = (b : Int) + 1 := (i64_w _).trans (by unfold wrap64; omega)
            have hA := HA.out
            rw [show 12 * g + (q + 1) = (12 * g + q) + 1 by omega, impl_BestStarts.stp, show (12 * a + b) / 12 = a by omega, show (12 * a + b) % 12 = b by omega] at hA
            obtain ⟨⟨s, p⟩, ho, hA⟩ := Option.bind_eq_some_iff.1 hA
            have HO := Aside0.mk ho
            have HA2 := Aside0.mk hA
            clear HA hA ho
            go_upto_region 11 with fail
            have h13 := blk_new wr (.cells #[.int .i64 (a : Int), .int .i64 (b : Int)] 49)
            have HX2 := Aside0.mk (HX.out.grow (below_alloc (Below.refl _ _) (.cells #[.int .i64 (a : Int), .int .i64 (b : Int)] 49)))
            have hf9 := blk_lt HX.out.h9
            clear HX
            generalize wr.alloc (.cells #[.int .i64 (a : Int), .int .i64 (b : Int)] 49) = W4 at *
            obtain ⟨b13, hb13⟩ : ∃ b13, b13 = wr.heap.size := ⟨_, rfl⟩
            rw [← hb13] at h13 hf9
            simp only [← hb13]
            clear hb13
            have c0 : W4.cell? ⟨b13, 0, none⟩ = some (.int .i64 (a : Int)) := (blk_cell h13 0).trans rfl
            have c1 : W4.cell? ⟨b13, 1, none⟩ = some (.int .i64 (b : Int)) := (blk_cell h13 1).trans rfl
            have H13 := Aside0.mk h13
            clear h13
            have hfl : ∀ W : World, (Instr.field 60 (.agg #[.int .i64 s, .int .i64 p]) 0).run Tryz.prog W = .ok (.int .i64 s) W := fun W => by kernel_rfl
            have hlim4 : Aside0 (D.lim ≤ W4.heap.size) := ⟨Nat.le_trans HX2.out.lim HX2.out.kept.size⟩
            go_upto_region 12 with (first | (go_at_call 35; refine (impl_looker_from.calls 0 t 0 (a : Int) (b : Int) s p _ HO.out D HD.out HC.out HX2.out.lk hlim4.out).mono ?_; rintro e w5 ⟨rfl, hLk5, hMK5⟩))
            have HX5 := Aside0.mk (HX2.out.call hLk5 hMK5)
            have H13' := Aside0.mk (hMK5.blk HX2.out.lk H13.out)
            clear hLk5 hMK5 HX2 H13 c0 c1 hlim4 HO hfl
            have c0 : w5.cell? ⟨b13, 0, none⟩ = some (.int .i64 (a : Int)) := (blk_cell H13'.out 0).trans rfl
            have c1 : w5.cell? ⟨b13, 1, none⟩ = some (.int .i64 (b : Int)) := (blk_cell H13'.out 1).trans rfl
            have c2 : w5.cell? ⟨b9, 0, none⟩ = some (.int .i64 bl) := (blk_cell HX5.out.h9 0).trans rfl
            have c3 : w5.cell? ⟨b9, 1, none⟩ = some (.int .i64 br) := (blk_cell HX5.out.h9 1).trans rfl
            have c4 := blk_frozen HX5.out.h9 0
            have c5 := blk_frozen HX5.out.h9 1
            by_cases k1 : le < 0
            · have k2 : decide (le < 0) = true := decide_eq_true k1
              have HA3 : Aside0 (impl_BestStarts.stp t (12 * g + q) (12 * a + (b + 1)) (a : Int) (b : Int) s = some fin) := ⟨by have := HA2.out; rw [if_pos (Or.inl k1)] at this; exact this⟩
              have HX9 := Aside0.mk (HX5.out.put (a : Int) (b : Int))
              clear HA2 HX5 H13'
              go_wp2
              go_roundg q
              case measure => omega
              case rel => exact ⟨b + 1, _, _, s, rfl, by go_num, by omega, HA3, HX9⟩
            · have k2 : decide (le < 0) = false := decide_eq_false k1
              by_cases k3 : s < le
              · have k4 : decide (s < le) = true := decide_eq_true k3
                have HA3 : Aside0 (impl_BestStarts.stp t (12 * g + q) (12 * a + (b + 1)) (a : Int) (b : Int) s = some fin) := ⟨by have := HA2.out; rw [if_pos (Or.inr k3)] at this; exact this⟩
                have HX9 := Aside0.mk (HX5.out.put (a : Int) (b : Int))
                clear HA2 HX5 H13'
                go_wp2
                go_roundg q
                case measure => omega
                case rel => exact ⟨b + 1, _, _, s, rfl, by go_num, by omega, HA3, HX9⟩
              · have k4 : decide (s < le) = false := decide_eq_false k3
                have HA3 : Aside0 (impl_BestStarts.stp t (12 * g + q) (12 * a + (b + 1)) bl br le = some fin) := ⟨by have := HA2.out; rw [if_neg (by omega)] at this; exact this⟩
                clear HA2 H13' c0 c1 c2 c3 c4 c5
                go_wp2
                go_roundg q
                case measure => omega
                case rel => exact ⟨b + 1, _, _, le, rfl, by go_num, by omega, HA3, HX5⟩
          · obtain rfl : gk = 0 := by omega
            obtain rfl : b = 12 := by omega
            have HA3 : Aside0 (impl_BestStarts.stp t (12 * g) (12 * (a + 1)) bl br le = some fin) := ⟨by have := HA.out; rw [show 12 * g + 0 = 12 * g by omega, show 12 * a + 12 = 12 * (a + 1) by omega] at this; exact this⟩
            have hbd : decide (((12 : Nat) : Int) < 12) = false := by decide
            clear HA
            go_wp2
            go_roundg g
            case measure => omega
            case rel => exact ⟨a + 1, bl, br, le, rfl, by go_num, by omega, HA3, HX⟩
      · obtain rfl : gk = 0 := by omega
        obtain rfl : a = 12 := by omega
        have hA := HA.out
        rw [show 12 * 0 = 0 by omega, impl_BestStarts.stp] at hA
        obtain rfl := Option.some.inj hA
        have h := H4.out
        unfold impl_BestStarts.cut at h
        split at h
        · rename_i hc
          obtain ⟨⟨x0, x1⟩, y0, y1⟩ := hc
          dsimp only at x0 x1 y0 y1
          simp only [Option.some.injEq, Prod.mk.injEq] at h
          obtain ⟨rfl, rfl, rfl, rfl⟩ := h
          have HBf := Aside0.mk (HX.out.kept.below HBw.out HBw.out.size HMs.out)
          have c2 : wr.cell? ⟨b9, 0, none⟩ = some (.int .i64 bl) := (blk_cell HX.out.h9 0).trans rfl
          have c3 : wr.cell? ⟨b9, 1, none⟩ = some (.int .i64 br) := (blk_cell HX.out.h9 1).trans rfl
          have hbd : decide (((12 : Nat) : Int) < 12) = false := by decide
          have v1 : IntKind.i64.wrap (bl + 1) = bl + 1 := (i64_w _).trans (by unfold wrap64; omega)
          have v2 : IntKind.i64.wrap (br + 1) = br + 1 := (i64_w _).trans (by unfold wrap64; omega)
          have z1 : bl ≤ bl + 1 := by omega
          have z2 : br ≤ br + 1 := by omega
          have z3 : bl + 1 ≤ 12 := by omega
          have z4 : br + 1 ≤ 12 := by omega
          clear HA H4 HX
          go_wp2
          go_quiet (fail)
          try go_wp2
          refine bodyPost_ret (results_list (rs := [.tmp 4, .tmp 5, .tmp 6, .tmp 7]) rfl (by simp) (.tmp (.tmp (.tmp (.tmp .nil))))) rfl ?_
          exact ⟨rfl, by first | exact pw_below_drewN HBf.out _ | exact HBf.out⟩
        · cases h
end Go.Proofs.YtldnddehmpbbpaaGreatDoor.P
end

section
namespace Go.Proofs.YtldnddehmpbbpaaGreatDoor.P
open Go.RowKit Go.Proofs.YtldnddehmpbbpaaGreatDoorW.PrintWords Go.Proofs.YtldnddehmpbbpaaGreatDoorW.PrintLast Go.Proofs.YtldnddehmpbbpaaGreatDoorW.PrintMore
attribute [local go_sem] max2_int min2_int max_two min_two max_three min_three max_four min_four   -- for this text's walks alone
set_option linter.unusedVariables false
set_option linter.unusedSimpArgs false
def spec_DrawOneThumb.f (k : Nat) (l0 : List Int) : Option (ByteArray × ByteArray × Bool) := (spec_l1Cur_dialed.f k l0 0 0).bind fun b1 => (spec_l1Cur_key.f l0 b1.2.1 b1.2.2).bind fun b2 => (spec_l1Cur_one.f l0 b2.2.1 b2.2.2 2).bind fun b3 => some (b1.1, b2.1, b3.1)
theorem spec_DrawOneThumb.mono : ∀ l0 k, LeO (spec_DrawOneThumb.f k l0) (spec_DrawOneThumb.f (k + 1) l0) := by
  intro l0 k
  unfold spec_DrawOneThumb.f
  repeat' first
      | (with_reducible exact spec_l1Cur_dialed.mono _ _ _ _)
      | (with_reducible exact LeO.refl _)
      | (with_reducible refine LeO.bind ?_ (fun _ => ?_))
      | exact LeO.refl _
      | refine LeO.bind ?_ (fun _ => ?_)
set_option maxHeartbeats 8000000 in
set_option maxRecDepth 100000 in
theorem spec_DrawOneThumb.calls (k : Nat) (A0 : Option Addr) (c0 : Nat) (l0 : List Int) (r1 : ByteArray) (r2 : ByteArray) (r3 : Bool) (w : World) (hr0 : Kd.C (Kd.int .u8) w A0 l0.length l0) (hc0 : l0.length ≤ c0) (h : spec_DrawOneThumb.f k l0 = some (r1, r2, r3)) :
    Calls Tryz.prog 19 #[.slice A0 l0.length c0] w fun e w' => e = .returned (.tuple #[.string r1, .string r2, .bool r3]) ∧ Below w.heap.size w w' := by
  unfold spec_DrawOneThumb.f at h
  obtain ⟨⟨x1, p1, q1⟩, h1, h⟩ := Option.bind_eq_some_iff.1 h
  obtain ⟨⟨x2, p2, q2⟩, h2, h⟩ := Option.bind_eq_some_iff.1 h
  obtain ⟨⟨x3, p3, q3⟩, h3, h⟩ := Option.bind_eq_some_iff.1 h
  simp only [Option.some.injEq, Prod.mk.injEq] at h
  obtain ⟨rfl, rfl, rfl⟩ := h
  have HI := Aside0.mk (IsS80.new w w A0 c0 l0 0 0 (Below.refl _ _) hr0)
  have HB := Aside0.mk (below_alloc (Below.refl w.heap.size w) (.cells #[.slice A0 l0.length c0, .int .i64 0, .int .u64 0] 80))
  have H1 := Aside0.mk h1
  have H2 := Aside0.mk h2
  have H3 := Aside0.mk h3
  clear h1 h2 h3 hr0
  have hu := Tryz.underlying80
  go_enter Tryz.func19, Tryz.ntmps19
  go_wp2_with (first | (go_at_call 52; with_reducible refine (spec_l1Cur_dialed.calls k _ l0 0 0 x1 p1 q1 w _ HI.out HB.out H1.out).mono ?_; rintro e w2 ⟨rfl, hI1, hB1, _⟩) | (go_at_call 53; with_reducible refine (spec_l1Cur_key.calls _ l0 p1 q1 x2 p2 q2 w _ hI1 hB1 H2.out).mono ?_; rintro e w3 ⟨rfl, hI2, hB2, _⟩) | (go_at_call 54; with_reducible refine (spec_l1Cur_one.calls _ l0 p2 q2 2 x3 p3 q3 w _ hI2 hB2 H3.out).mono ?_; rintro e w4 ⟨rfl, hI3, hB3, _⟩))
  go_ret3
  exact ⟨rfl, hB3⟩
end Go.Proofs.YtldnddehmpbbpaaGreatDoor.P
end

section
namespace Go.Proofs.YtldnddehmpbbpaaGreatDoor.P
open Go.RowKit Go.Proofs.YtldnddehmpbbpaaGreatDoorW.PrintWords Go.Proofs.YtldnddehmpbbpaaGreatDoorW.PrintLast Go.Proofs.YtldnddehmpbbpaaGreatDoorW.PrintMore
attribute [local go_sem] max2_int min2_int max_two min_two max_three min_three max_four min_four   -- for this text's walks alone
set_option linter.unusedVariables false
set_option linter.unusedSimpArgs false
def spec_thWalk.l0 : Nat → ByteArray → Int → Bool → Int → Int → Option (Int)
  | 0, _, _, _, _, _ => none
  | k + 1, x0, x1, x2, x7, x8 => if x8 < (x0.size : Int) then (if 0 ≤ x8 then ((spec_thFar.f k x1 (bt x0 x8) x2).bind fun t260 => (spec_thWalk.l0 k x0 (bt x0 x8) x2 (wrap64 (x7 + t260)) (wrap64 (x8 + 1)))) else (none)) else (some x7)
def spec_thWalk.f (k : Nat) (a0 : ByteArray) (a1 : Int) (a2 : Bool) : Option (Int) := spec_thWalk.l0 k a0 a1 a2 0 0
theorem spec_thWalk.mono_l : ∀ k, (∀ y0 y1 y2 y3 y4, LeO (spec_thWalk.l0 k y0 y1 y2 y3 y4) (spec_thWalk.l0 (k + 1) y0 y1 y2 y3 y4))
  | 0 => fun _ _ _ _ _ r h => by simp [spec_thWalk.l0] at h
  | k + 1 => by
    have ih0 := spec_thWalk.mono_l k
    · intro y0 y1 y2 y3 y4
      unfold spec_thWalk.l0
      repeat' first
      | (with_reducible exact ih0 _ _ _ _ _)
      | (with_reducible exact spec_thFar.mono _ _ _ _)
      | (with_reducible exact LeO.refl _)
      | (with_reducible exact LeO.none _)
      | (with_reducible refine LeO.ite ?_ ?_)
      | (with_reducible refine LeO.bind ?_ (fun _ => ?_))
      | exact ih0 _ _ _ _ _
      | exact spec_thFar.mono _ _ _ _
      | exact LeO.none _
      | refine LeO.ite ?_ ?_
      | refine LeO.bind ?_ (fun _ => ?_)
theorem spec_thWalk.mono : ∀ a0 a1 a2 k, LeO (spec_thWalk.f k a0 a1 a2) (spec_thWalk.f (k + 1) a0 a1 a2) := by
  intro a0 a1 a2 k
  have ih0 := spec_thWalk.mono_l k
  unfold spec_thWalk.f
  repeat' first
      | (with_reducible exact ih0 _ _ _ _ _)
      | (with_reducible exact spec_thFar.mono _ _ _ _)
      | (with_reducible exact LeO.refl _)
      | (with_reducible exact LeO.none _)
      | (with_reducible refine LeO.ite ?_ ?_)
      | (with_reducible refine LeO.bind ?_ (fun _ => ?_))
      | exact ih0 _ _ _ _ _
      | exact spec_thFar.mono _ _ _ _
      | exact LeO.none _
      | refine LeO.ite ?_ ?_
      | refine LeO.bind ?_ (fun _ => ?_)
set_option maxHeartbeats 8000000 in
set_option maxRecDepth 100000 in
theorem spec_thWalk.calls (k : Nat) (a0 : ByteArray) (a1 : Int) (a2 : Bool) (r : Int) (w : World) (h : spec_thWalk.f k a0 a1 a2 = some r) :
    Calls Tryz.prog 56 #[.string a0, .int .u8 a1, .bool a2] w fun e w' => e = .returned (.int .i64 r) ∧ Drawn0 w w' := by
  have H : (spec_thWalk.l0 k a0 a1 a2 0 0) = some r := h
  clear h
  have H' := Aside0.mk H
  clear H
  go_enter Tryz.func56, Tryz.ntmps56
  go_wp2
  go_loopg [1, 7, 8] k (fun kq v1 v7 v8 w' => ∃ (x1_1 : Int) (x7_1 : Int) (x8_1 : Int), v1 = .int .u8 x1_1 ∧ v7 = .int .i64 x7_1 ∧ v8 = .int .i64 x8_1 ∧ Aside0 (spec_thWalk.l0 kq a0 x1_1 a2 x7_1 x8_1 = some r) ∧ Aside0 (kq ≤ k) ∧ Drawn0 w w')
  case atStart => exact ⟨(a1), (0), (0), (by first | rfl | (simp; done) | (simp [*]; done)), (by first | rfl | (simp; done) | (simp [*]; done)), (by first | rfl | (simp; done) | (simp [*]; done)), H', ⟨Nat.le_refl _⟩, by repeat (first | exact Drawn0.refl _ | apply Drawn0.step)⟩
  case round =>
    clear H'
    try clear p2
    obtain ⟨x1_1, x7_1, x8_1, rfl, rfl, rfl, HA, HK1, ⟨m1, rfl⟩⟩ := hrel
    cases gk with
    | zero => exact absurd HA.out (by simp [spec_thWalk.l0])
    | succ k1 =>
      have H := HA.out
      clear HA
      simp only [spec_thWalk.l0] at H
      by_cases c4 : x8_1 < (a0.size : Int)
      · rw [if_pos c4] at H
        have c4b0 : decide (x8_1 < (a0.size : Int)) = true := decide_eq_true c4
        clear c4
        by_cases c5 : 0 ≤ x8_1
        · rw [if_pos c5] at H
          have c5b0 : decide (0 ≤ x8_1) = true := decide_eq_true c5
          clear c5
          replace H := Option.bind_eq_some_iff.mp H
          obtain ⟨t260, A70, H⟩ := H
          replace H : (spec_thWalk.l0 k1 a0 (bt a0 x8_1) a2 (wrap64 (x7_1 + t260)) (wrap64 (x8_1 + 1))) = some r := H
          have A7 := Aside0.mk A70
          clear A70
          have H' := Aside0.mk H
          clear H
          have p6 : 0 ≤ (x8_1 : Int) := of_decide_eq_true (by first | (with_reducible assumption) | assumption)
          have q6 : x8_1 < (a0.size : Int) := of_decide_eq_true (by first | (with_reducible assumption) | assumption)
          have hx6 := bt_at a0 x8_1
          replace p6 := eq_true p6
          replace q6 := eq_true q6
          go_wp2_with (first | ((with_reducible refine gate_callee (f := 40) rfl ?_); refine goesL_ (some 21) rfl rfl Tryz.func40 (by kernel_rfl) rfl #[.int .u8 x1_1, .int .u8 (bt a0 x8_1), .bool a2] rfl (by (try simp only [List.map_toArray, List.map_cons, List.map_nil]); first | done | rfl | (simp only [List.length_drop, List.length_take]; rfl)) ?_; (with_reducible refine (spec_thFar.calls k1 x1_1 (bt a0 x8_1) a2 t260 _ A7.out).mono ?_); rintro e w' ⟨rfl, ⟨nd, rfl⟩⟩; refine ⟨_, rfl, ?_⟩; have p8 : 0 ≤ (x8_1 : Int) := of_decide_eq_true (by first | (with_reducible assumption) | assumption); have q8 : x8_1 < (a0.size : Int) := of_decide_eq_true (by first | (with_reducible assumption) | assumption); have hx8 := bt_at a0 x8_1; replace p8 := eq_true p8; replace q8 := eq_true q8))
          go_roundg k1
          case measure => have := HK1.out; omega
          case rel => exact ⟨(bt a0 x8_1), (wrap64 (x7_1 + t260)), (wrap64 (x8_1 + 1)), (by first | rfl | (simp; done) | (simp [*]; done)), (by first | rfl | (simp; done) | (simp [*]; done)), (by first | rfl | (simp; done) | (simp [*]; done)), H', ⟨by have := HK1.out; omega⟩, by repeat (first | exact Drawn0.refl _ | apply Drawn0.step)⟩
        · rw [if_neg c5] at H
          exact absurd H (by simp)
      · rw [if_neg c4] at H
        have c4b0 : decide (x8_1 < (a0.size : Int)) = false := decide_eq_false c4
        clear c4
        obtain rfl := Option.some.inj H
        go_wp2
        go_ret
        exact ⟨by first | rfl | (simp; done) | (simp [*]; done), by repeat (first | exact Drawn0.refl _ | apply Drawn0.step)⟩
end Go.Proofs.YtldnddehmpbbpaaGreatDoor.P
end

section
namespace Go.Proofs.YtldnddehmpbbpaaGreatDoor.P
open Go.RowKit Go.Proofs.YtldnddehmpbbpaaGreatDoorW.PrintWords Go.Proofs.YtldnddehmpbbpaaGreatDoorW.PrintLast Go.Proofs.YtldnddehmpbbpaaGreatDoorW.PrintMore
attribute [local go_sem] max2_int min2_int max_two min_two max_three min_three max_four min_four   -- for this text's walks alone
set_option linter.unusedVariables false
set_option linter.unusedSimpArgs false
def spec_OneThumb.f (k : Nat) (a0 : ByteArray) (a1 : ByteArray) (a2 : Bool) : Option (Int × Bool) := (spec_thGood.f k a0).bind fun t261 => (if t261 = true then ((spec_thOne.f k a1).bind fun t262 => (if t262 = true then (if 0 < (a1.size : Int) then ((spec_thWalk.f k a0 (bt a1 0) a2).bind fun t263 => (some (t263, true))) else (none)) else (some (0, false)))) else (some (0, false)))
theorem spec_OneThumb.mono : ∀ a0 a1 a2 k, LeO (spec_OneThumb.f k a0 a1 a2) (spec_OneThumb.f (k + 1) a0 a1 a2) := by
  intro a0 a1 a2 k
  unfold spec_OneThumb.f
  repeat' first
      | (with_reducible exact spec_thGood.mono _ _)
      | (with_reducible exact spec_thOne.mono _ _)
      | (with_reducible exact spec_thWalk.mono _ _ _ _)
      | (with_reducible exact LeO.refl _)
      | (with_reducible exact LeO.none _)
      | (with_reducible refine LeO.ite ?_ ?_)
      | (with_reducible refine LeO.bind ?_ (fun _ => ?_))
      | exact spec_thGood.mono _ _
      | exact spec_thOne.mono _ _
      | exact spec_thWalk.mono _ _ _ _
      | exact LeO.none _
      | refine LeO.ite ?_ ?_
      | refine LeO.bind ?_ (fun _ => ?_)
set_option maxHeartbeats 8000000 in
set_option maxRecDepth 100000 in
theorem spec_OneThumb.calls (k : Nat) (a0 : ByteArray) (a1 : ByteArray) (a2 : Bool) (r1 : Int) (r2 : Bool) (w : World) (h : spec_OneThumb.f k a0 a1 a2 = some (r1, r2)) :
    Calls Tryz.prog 20 #[.string a0, .string a1, .bool a2] w fun e w' => e = .returned (.tuple #[.int .i64 r1, .bool r2]) ∧ Drawn0 w w' := by
  have H : ((spec_thGood.f k a0).bind fun t261 => (if t261 = true then ((spec_thOne.f k a1).bind fun t262 => (if t262 = true then (if 0 < (a1.size : Int) then ((spec_thWalk.f k a0 (bt a1 0) a2).bind fun t263 => (some (t263, true))) else (none)) else (some (0, false)))) else (some (0, false)))) = some (r1, r2) := h
  clear h
  replace H := Option.bind_eq_some_iff.mp H
  obtain ⟨t261, A40, H⟩ := H
  replace H : (if t261 = true then ((spec_thOne.f k a1).bind fun t262 => (if t262 = true then (if 0 < (a1.size : Int) then ((spec_thWalk.f k a0 (bt a1 0) a2).bind fun t263 => (some (t263, true))) else (none)) else (some (0, false)))) else (some (0, false))) = some (r1, r2) := H
  have A4 := Aside0.mk A40
  clear A40
  by_cases c5 : t261 = true
  · subst c5
    have H1 : ((spec_thOne.f k a1).bind fun t262 => (if t262 = true then (if 0 < (a1.size : Int) then ((spec_thWalk.f k a0 (bt a1 0) a2).bind fun t263 => (some (t263, true))) else (none)) else (some (0, false)))) = some (r1, r2) := by rw [if_pos rfl] at H; exact H
    clear H
    have H := H1
    clear H1
    replace H := Option.bind_eq_some_iff.mp H
    obtain ⟨t262, A60, H⟩ := H
    replace H : (if t262 = true then (if 0 < (a1.size : Int) then ((spec_thWalk.f k a0 (bt a1 0) a2).bind fun t263 => (some (t263, true))) else (none)) else (some (0, false))) = some (r1, r2) := H
    have A6 := Aside0.mk A60
    clear A60
    by_cases c7 : t262 = true
    · subst c7
      have H1 : (if 0 < (a1.size : Int) then ((spec_thWalk.f k a0 (bt a1 0) a2).bind fun t263 => (some (t263, true))) else (none)) = some (r1, r2) := by rw [if_pos rfl] at H; exact H
      clear H
      have H := H1
      clear H1
      by_cases c8 : 0 < (a1.size : Int)
      · rw [if_pos c8] at H
        have c8b0 : decide (0 < (a1.size : Int)) = true := decide_eq_true c8
        have c8b1 : decide (0 < a1.size) = true := decide_eq_true (by omega)
        clear c8
        replace H := Option.bind_eq_some_iff.mp H
        obtain ⟨t263, A100, H⟩ := H
        replace H : (some (t263, true)) = some (r1, r2) := H
        have A10 := Aside0.mk A100
        clear A100
        simp only [Option.some.injEq, Prod.mk.injEq] at H
        obtain ⟨rfl, rfl⟩ := H
        go_enter Tryz.func20, Tryz.ntmps20
        go_wp2_with (first | ((with_reducible refine gate_callee (f := 42) rfl ?_); refine goesL_ (some 9) rfl rfl Tryz.func42 (by kernel_rfl) rfl #[.string a0] rfl (by (try simp only [List.map_toArray, List.map_cons, List.map_nil]); first | done | rfl | (simp only [List.length_drop, List.length_take]; rfl)) ?_; (with_reducible refine (spec_thGood.calls k a0 true _ A4.out).mono ?_); rintro e w' ⟨rfl, ⟨nd, rfl⟩⟩; refine ⟨_, rfl, ?_⟩) | (go_at_call 55; (with_reducible refine (spec_thOne.calls k a1 true _ A6.out).mono ?_); rintro e w' ⟨rfl, ⟨nd, rfl⟩⟩; have p9 : 0 ≤ (0 : Int) := (by omega); have q9 : 0 < a1.size := (by have : (0 : Int) < (a1.size : Int) := of_decide_eq_true (by first | (with_reducible assumption) | assumption); omega); have hx9 : ∀ h : 0 < a1.size, ((a1[0]'h).toNat : Int) = bt a1 0 := bt_at a1 0; clear p9; have qi9 : (0 < (a1.size : Int)) = True := eq_true (of_decide_eq_true (by first | (with_reducible assumption) | assumption)); replace q9 := eq_true q9) | ((with_reducible refine gate_callee (f := 56) rfl ?_); refine goesL_ (some 20) rfl rfl Tryz.func56 (by kernel_rfl) rfl #[.string a0, .int .u8 (bt a1 0), .bool a2] rfl (by (try simp only [List.map_toArray, List.map_cons, List.map_nil]); first | done | rfl | (simp only [List.length_drop, List.length_take]; rfl)) ?_; (with_reducible refine (spec_thWalk.calls k a0 (bt a1 0) a2 t263 _ A10.out).mono ?_); rintro e w' ⟨rfl, ⟨nd, rfl⟩⟩; refine ⟨_, rfl, ?_⟩))
        go_ret2
        exact ⟨by first | rfl | (simp; done) | (simp [*]; done), by repeat (first | exact Drawn0.refl _ | apply Drawn0.step)⟩
      · rw [if_neg c8] at H
        exact absurd H (by simp)
    · replace c7 := Bool.eq_false_iff.mpr c7
      subst c7
      have H1 : (some (0, false)) = some (r1, r2) := by rw [if_neg (show ¬ (false = true) by decide)] at H; exact H
      clear H
      have H := H1
      clear H1
      simp only [Option.some.injEq, Prod.mk.injEq] at H
      obtain ⟨rfl, rfl⟩ := H
      go_enter Tryz.func20, Tryz.ntmps20
      go_wp2_with (first | ((with_reducible refine gate_callee (f := 42) rfl ?_); refine goesL_ (some 9) rfl rfl Tryz.func42 (by kernel_rfl) rfl #[.string a0] rfl (by (try simp only [List.map_toArray, List.map_cons, List.map_nil]); first | done | rfl | (simp only [List.length_drop, List.length_take]; rfl)) ?_; (with_reducible refine (spec_thGood.calls k a0 true _ A4.out).mono ?_); rintro e w' ⟨rfl, ⟨nd, rfl⟩⟩; refine ⟨_, rfl, ?_⟩) | (go_at_call 55; (with_reducible refine (spec_thOne.calls k a1 false _ A6.out).mono ?_); rintro e w' ⟨rfl, ⟨nd, rfl⟩⟩))
      go_ret2
      exact ⟨by first | rfl | (simp; done) | (simp [*]; done), by repeat (first | exact Drawn0.refl _ | apply Drawn0.step)⟩
  · replace c5 := Bool.eq_false_iff.mpr c5
    subst c5
    have H1 : (some (0, false)) = some (r1, r2) := by rw [if_neg (show ¬ (false = true) by decide)] at H; exact H
    clear H
    have H := H1
    clear H1
    simp only [Option.some.injEq, Prod.mk.injEq] at H
    obtain ⟨rfl, rfl⟩ := H
    go_enter Tryz.func20, Tryz.ntmps20
    go_wp2_with (first | ((with_reducible refine gate_callee (f := 42) rfl ?_); refine goesL_ (some 9) rfl rfl Tryz.func42 (by kernel_rfl) rfl #[.string a0] rfl (by (try simp only [List.map_toArray, List.map_cons, List.map_nil]); first | done | rfl | (simp only [List.length_drop, List.length_take]; rfl)) ?_; (with_reducible refine (spec_thGood.calls k a0 false _ A4.out).mono ?_); rintro e w' ⟨rfl, ⟨nd, rfl⟩⟩; refine ⟨_, rfl, ?_⟩))
    go_ret2
    exact ⟨by first | rfl | (simp; done) | (simp [*]; done), by repeat (first | exact Drawn0.refl _ | apply Drawn0.step)⟩
end Go.Proofs.YtldnddehmpbbpaaGreatDoor.P
end

section
namespace Go.Proofs.YtldnddehmpbbpaaGreatDoor.P
open Go.RowKit Go.Proofs.YtldnddehmpbbpaaGreatDoorW.PrintWords Go.Proofs.YtldnddehmpbbpaaGreatDoorW.PrintLast Go.Proofs.YtldnddehmpbbpaaGreatDoorW.PrintMore
attribute [local go_sem] max2_int min2_int max_two min_two max_three min_three max_four min_four   -- for this text's walks alone
set_option linter.unusedVariables false
set_option linter.unusedSimpArgs false
def spec_l1Cur_among.f (s0_0 : List Int) (s0_1 : Int) (s0_2 : Int) (l1 : List Int) : Option (Int × Int × Int) := (spec_l1Cur_pick.f s0_0 s0_1 s0_2 (l1.length : Int)).bind fun bt264 => (if 0 ≤ bt264.1 then (if bt264.1 < (l1.length : Int) then (some (rd l1 bt264.1, bt264.2.1, bt264.2.2)) else (none)) else (none))
set_option maxHeartbeats 8000000 in
set_option maxRecDepth 100000 in
theorem spec_l1Cur_among.calls (g : Nat) (s0_0 : List Int) (s0_1 : Int) (s0_2 : Int) (A1 : Option Addr) (c1 : Nat) (l1 : List Int) (r1 : Int) (r2 : Int) (r3 : Int) (w0 w : World) (hI : IsS80 w0 w g s0_0 s0_1 s0_2) (hB : Below w0.heap.size w0 w) (hr1 : Kd.C (Kd.int .i64) w A1 l1.length l1) (hc1 : l1.length ≤ c1) (hf1 : ∀ ad, A1 = some ad → 0 < l1.length → ad.block ≠ g) (h : spec_l1Cur_among.f s0_0 s0_1 s0_2 l1 = some (r1, r2, r3)) :
    Calls Tryz.prog 58 #[.pointer (some ⟨g, 0, none⟩), .slice A1 l1.length c1] w fun e w' => e = .returned (.int .i64 r1) ∧ IsS80 w0 w' g s0_0 r2 r3 ∧ Below w0.heap.size w0 w' ∧ KeepBut w w' g none := by
  have HR1 := Aside0.mk hr1
  have HC1 := Aside0.mk hc1
  clear hr1 hc1
  have HI0 := Aside0.mk hI
  have HK := Aside0.mk (KeepBut.refl w g none)
  have HL := Aside0.mk hB.size
  clear hI
  have HW0 := Aside0.mk hB.size
  have HB := Aside0.mk hB
  clear hB
  have H : ((spec_l1Cur_pick.f s0_0 s0_1 s0_2 (l1.length : Int)).bind fun bt264 => (if 0 ≤ bt264.1 then (if bt264.1 < (l1.length : Int) then (some (rd l1 bt264.1, bt264.2.1, bt264.2.2)) else (none)) else (none))) = some (r1, r2, r3) := h
  clear h
  replace H := Option.bind_eq_some_iff.mp H
  obtain ⟨⟨t264, t265, t266⟩, A30, H⟩ := H
  replace H : (if 0 ≤ t264 then (if t264 < (l1.length : Int) then (some (rd l1 t264, t265, t266)) else (none)) else (none)) = some (r1, r2, r3) := H
  have A3 := Aside0.mk A30
  clear A30
  by_cases c4 : 0 ≤ t264
  · rw [if_pos c4] at H
    have c4b0 : decide (0 ≤ t264) = true := decide_eq_true c4
    clear c4
    by_cases c5 : t264 < (l1.length : Int)
    · rw [if_pos c5] at H
      have c5b0 : decide (t264 < (l1.length : Int)) = true := decide_eq_true c5
      clear c5
      simp only [Option.some.injEq, Prod.mk.injEq] at H
      obtain ⟨rfl, rfl, rfl⟩ := H
      go_enter Tryz.func58, Tryz.ntmps58
      go_wp2_with (first | ((with_reducible refine gate_callee (f := 57) rfl ?_); refine goesL_ (some 9) rfl rfl Tryz.func57 (by kernel_rfl) rfl #[.pointer (some ⟨g, 0, none⟩), .int .i64 (l1.length : Int)] rfl (by (try simp only [List.map_toArray, List.map_cons, List.map_nil]); first | done | rfl | (simp only [List.length_drop, List.length_take]; rfl)) ?_; (with_reducible refine (spec_l1Cur_pick.calls g s0_0 s0_1 s0_2 (l1.length : Int) t264 t265 t266 w0 _ ?side1 ?side2 A3.out).mono ?_); (case side1 => repeat (first | (with_reducible first | exact HI0.out | apply IsS80.alloc | apply IsS80.drewN | apply IsS80.drew | apply IsS80.set_1 | apply IsS80.set_2) | exact HI0.out)); (case side2 => repeat (first | (with_reducible first | exact HB.out | apply below_alloc | apply pw_below_drewN | apply below_drew1 | refine below_set ?_ (IsS80.ge HI0.out)) | exact HB.out)); rintro e w6 ⟨rfl, hi, hb, hk⟩; refine ⟨_, rfl, ?_⟩; have n0_ := Aside0.mk (KeepBut.trans (by repeat (first | (with_reducible first | exact HK.out | apply KeepBut.set_ | apply keep_drewN | apply keep_drew | apply keep_alloc) | exact HK.out)) hk (.inl rfl)); have n1_ := Aside0.mk (hb); have n2_ := Aside0.mk (hi); clear HK; clear HB; clear HI0; have HK := n0_; have HB := n1_; have HI0 := n2_; clear n0_ n1_ n2_; (try clear hb); (try clear hb2); (try clear hk); (try clear hi); have p267 : 0 ≤ (t264 : Int) := of_decide_eq_true (by first | (with_reducible assumption) | assumption); have q267 : t264 < (l1.length : Int) := of_decide_eq_true (by first | (with_reducible assumption) | assumption); obtain ⟨ad267, e267, hx267_0⟩ := Kd.at_int HR1.out t264 p267 q267; cases e267; replace hx267_0 := keep_cell HK.out hx267_0 (by first | (rw [add_block]; exact hf1 _ rfl (by omega)) | exact hf1 _ rfl (by omega) | exact hf1 ad267 rfl (by omega)); replace p267 := eq_true p267; replace q267 := eq_true q267))
      go_ret
      exact ⟨by first | rfl | (simp [errW_none, errW_some] <;> rfl) | (simp [*, errW_none, errW_some] <;> rfl), by repeat (first | (with_reducible first | exact HI0.out | apply IsS80.alloc | apply IsS80.drewN | apply IsS80.drew | apply IsS80.set_1 | apply IsS80.set_2) | exact HI0.out), by repeat (first | (with_reducible first | exact HB.out | apply below_alloc | apply pw_below_drewN | apply below_drew1 | refine below_set ?_ (IsS80.ge HI0.out)) | exact HB.out), by repeat (first | (with_reducible first | exact HK.out | apply KeepBut.set_ | apply keep_drewN | apply keep_drew | apply keep_alloc) | exact HK.out)⟩
    · rw [if_neg c5] at H
      exact absurd H (by simp)
  · rw [if_neg c4] at H
    exact absurd H (by simp)
end Go.Proofs.YtldnddehmpbbpaaGreatDoor.P
end

section
namespace Go.Proofs.YtldnddehmpbbpaaGreatDoor.P
open Go.RowKit Go.Proofs.YtldnddehmpbbpaaGreatDoorW.PrintWords Go.Proofs.YtldnddehmpbbpaaGreatDoorW.PrintLast Go.Proofs.YtldnddehmpbbpaaGreatDoorW.PrintMore
attribute [local go_sem] max2_int min2_int max_two min_two max_three min_three max_four min_four   -- for this text's walks alone
set_option linter.unusedVariables false
set_option linter.unusedSimpArgs false
theorem spec_DrawThumbPlan.lit {α : Type} {enc : α → Value} {h1 : ∀ x, (enc x).oneCell' = true} {w : World} {b : Nat} {t : TypeId} {l : List α} {cs : Array Value} (h : w.heap[b]? = some (.cells cs t (0, 0))) (e : cs = (l.map enc).toArray) (hn : l.length ≤ 9223372036854775807) : Kd.C (Kd.scalar enc h1) w (some ⟨b, 0, none⟩) l.length l := by
  refine ⟨rfl, hn, fun _ => ⟨_, rfl, fun j p hj => ⟨[enc p], rfl, rfl, fun i u hu => ?_⟩⟩⟩
  have hi : i = 0 := by
    cases i with
    | zero => rfl
    | succ i => simp at hu
  subst hi
  obtain rfl : enc p = u := by simpa using hu
  show w.cell? ((⟨b, 0, none⟩ : Addr).add (j * 1 + 0)) = _
  rw [Nat.mul_one, Nat.add_zero, add_at, Nat.zero_add, blk_cell h, e]
  simp [hj]
def spec_DrawThumbPlan.asc (s : ByteArray) : Bool := s.data.toList.all fun b => decide (b < 128)
theorem spec_DrawThumbPlan.ascii_at {s : ByteArray} (h : spec_DrawThumbPlan.asc s = true) {i : Nat} (hi : i < s.size) : (s[i]'hi) < 128 := by
  unfold spec_DrawThumbPlan.asc at h
  have := List.all_eq_true.1 h (s[i]'hi) (by
    have : s[i]'hi = s.data.toList[i]'(by simpa using hi) := by simp [ByteArray.getElem_eq_getElem_data]
    rw [this]
    exact List.getElem_mem _)
  simpa using this
def spec_DrawThumbPlan.ab : List Int := [-1, 0, 2]
def spec_DrawThumbPlan.lp (l0 : List Int) : Nat → Int → Int → List Int → Option (List Int × Int × Int)
  | 0, p, q, acc => some (acc, p, q)
  | d + 1, p, q, acc => (spec_l1Cur_pick.f l0 p q 2).bind fun b => spec_DrawThumbPlan.lp l0 d b.2.1 b.2.2 (acc ++ [b.1])
def spec_DrawThumbPlan.more (l0 : List Int) (m : List Int × Int × Int) (o : Bool × Int × Int) : Option (List Int × Int × Int) := if o.1 = true then (spec_l1Cur_among.f l0 o.2.1 o.2.2 spec_DrawThumbPlan.ab).bind fun a => some (m.1 ++ [a.1], a.2.1, a.2.2) else some (m.1, o.2.1, o.2.2)
def spec_DrawThumbPlan.f (k : Nat) (l0 : List Int) : Option (ByteArray × ByteArray × ByteArray × List Int × Bool) := (spec_l1Cur_dialed.f k l0 0 0).bind fun b1 => (spec_l1Cur_key.f l0 b1.2.1 b1.2.2).bind fun b2 => (spec_l1Cur_key.f l0 b2.2.1 b2.2.2).bind fun b3 => if b1.1.size ≤ 1000 ∧ spec_DrawThumbPlan.asc b1.1 = true then (spec_DrawThumbPlan.lp l0 b1.1.size b3.2.1 b3.2.2 []).bind fun m => (spec_l1Cur_one.f l0 m.2.1 m.2.2 10).bind fun o => (spec_DrawThumbPlan.more l0 m o).bind fun t => (spec_l1Cur_one.f l0 t.2.1 t.2.2 2).bind fun z => some (b1.1, b2.1, b3.1, t.1, z.1) else none
theorem spec_DrawThumbPlan.mono : ∀ l0 k, LeO (spec_DrawThumbPlan.f k l0) (spec_DrawThumbPlan.f (k + 1) l0) := by
  intro l0 k
  unfold spec_DrawThumbPlan.f
  exact LeO.bind (spec_l1Cur_dialed.mono _ _ _ _) (fun _ => LeO.refl _)
theorem spec_DrawThumbPlan.lp_len (l0 : List Int) : ∀ (d : Nat) (p q : Int) (acc : List Int) {r : List Int × Int × Int}, spec_DrawThumbPlan.lp l0 d p q acc = some r → r.1.length = acc.length + d
  | 0, p, q, acc, r, h => by
    obtain rfl := Option.some.inj h
    rfl
  | d + 1, p, q, acc, r, h => by
    rw [spec_DrawThumbPlan.lp] at h
    obtain ⟨b, _, h⟩ := Option.bind_eq_some_iff.1 h
    have := spec_DrawThumbPlan.lp_len l0 d _ _ _ h
    rw [List.length_append, List.length_singleton] at this
    omega
set_option maxHeartbeats 8000000 in
set_option maxRecDepth 100000 in
theorem spec_DrawThumbPlan.calls (k : Nat) (A0 : Option Addr) (c0 : Nat) (l0 : List Int) (r1 : ByteArray) (r2 : ByteArray) (r3 : ByteArray) (r4 : List Int) (r5 : Bool) (w : World) (hr0 : Kd.C (Kd.int .u8) w A0 l0.length l0) (hc0 : l0.length ≤ c0) (h : spec_DrawThumbPlan.f k l0 = some (r1, r2, r3, r4, r5)) :
    Calls Tryz.prog 21 #[.slice A0 l0.length c0] w fun e w' => ∃ v0_ : Value, e = .returned (.tuple #[.string r1, .string r2, .string r3, v0_, .bool r5]) ∧ Kd.R (Kd.int .i64) 3 w' w.heap.size (fun _ => True) v0_ r4 ∧ Below w.heap.size w w' := by
  unfold spec_DrawThumbPlan.f at h
  obtain ⟨⟨x1, p1, q1⟩, h1, h01⟩ := Option.bind_eq_some_iff.1 h
  obtain ⟨⟨x2, p2, q2⟩, h2, h02⟩ := Option.bind_eq_some_iff.1 h01
  obtain ⟨⟨x3, p3, q3⟩, h3, h03⟩ := Option.bind_eq_some_iff.1 h02
  clear h h01 h02
  split at h03
  · rename_i hasc
    obtain ⟨⟨ms, p4, q4⟩, h4, h04⟩ := Option.bind_eq_some_iff.1 h03
    obtain ⟨⟨o, p5, q5⟩, h5, h05⟩ := Option.bind_eq_some_iff.1 h04
    obtain ⟨⟨ts, p6, q6⟩, h6, h06⟩ := Option.bind_eq_some_iff.1 h05
    obtain ⟨⟨z, p7, q7⟩, h7, h07⟩ := Option.bind_eq_some_iff.1 h06
    clear h03 h04 h05 h06
    simp only [Option.some.injEq, Prod.mk.injEq] at h07
    obtain ⟨rfl, rfl, rfl, rfl, rfl⟩ := h07
    dsimp only at hasc h4 h5 h6 h7
    have hml := spec_DrawThumbPlan.lp_len l0 _ _ _ _ h4
    have hsz : x1.size ≤ 1000 := hasc.1
    have HAs := Aside0.mk hasc.2
    have H0 := Aside0.mk (IsS80.new w w A0 c0 l0 0 0 (Below.refl _ _) hr0)
    have HB0 := Aside0.mk (below_alloc (Below.refl w.heap.size w) (.cells #[.slice A0 l0.length c0, .int .i64 0, .int .u64 0] 80))
    have H1 := Aside0.mk h1
    have H2 := Aside0.mk h2
    have H3 := Aside0.mk h3
    have H4 := Aside0.mk h4
    have H5 := Aside0.mk h5
    have H6 := Aside0.mk h6
    have H7 := Aside0.mk h7
    have hu := Tryz.underlying80
    clear h1 h2 h3 h4 h5 h6 h7 hr0 hasc
    go_enter Tryz.func21, Tryz.ntmps21
    go_upto_region 5 with (first | (go_at_call 52; with_reducible refine (spec_l1Cur_dialed.calls k _ l0 0 0 x1 p1 q1 w _ H0.out HB0.out H1.out).mono ?_; rintro e w2 ⟨rfl, hI1, hB1, _⟩) | (go_at_call 53; with_reducible refine (spec_l1Cur_key.calls _ l0 p1 q1 x2 p2 q2 w _ hI1 hB1 H2.out).mono ?_; rintro e w3 ⟨rfl, hI2, hB2, _⟩) | (go_at_call 53; with_reducible refine (spec_l1Cur_key.calls _ l0 p2 q2 x3 p3 q3 w _ hI2 hB2 H3.out).mono ?_; rintro e w4 ⟨rfl, hI3, hB3, _⟩))
    have HI3 := Aside0.mk hI3
    have HB3 := Aside0.mk hB3
    clear hI1 hB1 hI2 hB2 hI3 hB3 H0 HB0 H1 H2 H3
    obtain ⟨g, hg⟩ : ∃ g, g = w.heap.size := ⟨_, rfl⟩
    rw [← hg] at HI3
    simp only [← hg]
    have HG := Aside0.mk hg
    clear hg
    go_wp2
    obtain ⟨it, hit⟩ : ∃ it, it = w4.heap.size := ⟨_, rfl⟩
    have hlg : g < it := by rw [hit]; exact IsS80.lt HI3.out
    have hwi : w.heap.size ≤ it := by rw [hit]; exact HB3.out.size
    have HIt0 : Aside0 ((w4.alloc (.stringIter x1 0)).heap[it]? = some (.stringIter x1 0)) := ⟨by rw [hit]; exact World.iter_heap w4 x1 0⟩
    simp only [← hit]
    clear hit
    go_loopg [11] x1.size (fun gg v11 wr => ∃ (i : Nat) (p q : Int) (acc : List Int), i + gg = x1.size ∧ acc.length = i ∧ Aside0 (spec_DrawThumbPlan.lp l0 gg p q acc = some (ms, p4, q4)) ∧ Aside0 (IsS80 w wr g l0 p q) ∧ Aside0 (Below w.heap.size w wr) ∧ Aside0 (wr.heap[it]? = some (.stringIter x1 i)) ∧ Aside0 (wr.ownsRow (w.heap.size + 1) 3 1 v11 acc.length (encs (Value.int .i64) acc)))
    case atStart => exact ⟨0, p3, q3, [], by omega, rfl, H4, ⟨IsS80.alloc HI3.out _⟩, ⟨below_alloc HB3.out _⟩, HIt0, ⟨Go.Proofs.YtldnddehmpbbpaaGreatDoorW.PrintWords.own_nil _ _ _ _⟩⟩
    case round =>
      clear HIt0 HI3 HB3 H4
      obtain ⟨i, p, q, acc, hi, hal, HL, HI, HB, HIt, HO⟩ := hrel
      obtain ⟨i9, hi9, hz9, hz91, hz92⟩ := info_parts info3
      by_cases hlt : i < x1.size
      · obtain ⟨d, rfl⟩ : ∃ d, gk = d + 1 := ⟨gk - 1, by omega⟩
        have hl := HL.out
        rw [spec_DrawThumbPlan.lp] at hl
        obtain ⟨⟨x, p8, q8⟩, k5, hl2⟩ := Option.bind_eq_some_iff.1 hl
        have K5 := Aside0.mk k5
        have HL2 : Aside0 (spec_DrawThumbPlan.lp l0 d p8 q8 (acc ++ [x]) = some (ms, p4, q4)) := ⟨hl2⟩
        clear HL hl k5 hl2
        have hnx : ∀ ty, (Instr.next (.pointer (some ⟨it, 0, none⟩)) true ty).run Tryz.prog wr = .ok (.tuple #[.bool true, .int .i64 i, .int .i32 (x1[i]'hlt).toNat]) (wr.iterAt it x1 (i + 1)) := fun ty => Go.Lib.run_next_ascii_at wr it x1 i ty HIt.out hlt (spec_DrawThumbPlan.ascii_at HAs.out hlt)
        have hitne : ∀ kk, u11.ownBlock = some kk → kk ≠ it := fun kk hk e => by
          obtain ⟨cells, hc⟩ := Go.Proofs.YtldnddehmpbbpaaGreatDoorW.PrintWords.own_typed HO.out kk hk
          rw [e, HIt.out] at hc
          cases hc
        have HO2 : Aside0 ((wr.iterAt it x1 (i + 1)).ownsRow (w.heap.size + 1) 3 1 u11 acc.length (encs (Value.int .i64) acc)) := ⟨Go.Proofs.YtldnddehmpbbpaaGreatDoorW.PrintWords.own_move HO.out (fun kk hk => Go.Lib.iterAt_other _ _ _ _ _ (hitne kk hk))⟩
        have HB2 : Aside0 (Below w.heap.size w (wr.iterAt it x1 (i + 1))) := ⟨Go.Lib.below_iterAt HB.out hwi _ _⟩
        have HIt2 : Aside0 ((wr.iterAt it x1 (i + 1)).heap[it]? = some (.stringIter x1 (i + 1))) := ⟨Go.Lib.iterAt_heap _ _ _ _ _ HIt.out⟩
        have HI2 : Aside0 (IsS80 w (wr.iterAt it x1 (i + 1)) g l0 p q) := ⟨by
          obtain ⟨A1, c1, hb, hge, hr⟩ := HI.out
          exact ⟨A1, c1, (Go.Lib.iterAt_other _ _ _ _ _ (by omega)).trans hb, hge, hr⟩⟩
        generalize (x1[i]'hlt).toNat = ch at hnx
        generalize wr.iterAt it x1 (i + 1) = W2 at *
        clear HO HB HIt HI hitne
        go_upto_region 8 with fail
        clear hnx
        have hne11 : u11.ownBlock ≠ some g := fun e => by
          have := Go.Proofs.YtldnddehmpbbpaaGreatDoorW.PrintWords.own_base HO2.out g e
          have := HG.out
          omega
        go_wp2_with (first | (go_at_call 57; refine (spec_l1Cur_pick.calls g l0 p q 2 x p8 q8 w _ HI2.out HB2.out K5.out).mono ?_; rintro e w6 ⟨rfl, hI6, hB6, hK6⟩; have hO6 := KeepBut.own hK6 HO2.out hne11 (Decidable.or_iff_not_imp_left.2 fun hx => hx); have hIt6 := hK6.blk HIt2.out (by omega) (by simp)) | ((with_reducible refine gate_builtin (b := .append) (xs := #[.tmp 25, .tmp 28]) rfl ?_); at_builtin; refine wpList_append_own _ rfl (.tmp 25) (.tmp 28) 26 rfl (w.heap.size + 1) 3 i9 (.int .i64 0) 1 8 Tryz.underlying26 hi9 hz9 hz91 hz92 rfl (by omega) u11 acc.length (encs (Value.int .i64) acc) rfl (hO6.alloc _) ⟨w6.heap.size, 0, none⟩ 1 1 [.int .i64 x] (by first | rfl | simp) rfl ?hn (by simp [Value.oneCell']) (by simp only [maxLen]; omega) (by omega) (by have := hB6.size; have := IsS80.lt hI6; simp; omega) ?hK; (case hn => exact World.news_of_block (cs := #[.int .i64 x]) (t := 3) (fr := (0, 0)) (heap_alloc_new w6 _)); intro v' w7 hO7 hG7 hz7))
        have hneg : some g ≠ u11.ownBlock := fun e => hne11 e.symm
        have hnei : some it ≠ u11.ownBlock := fun e => by
          obtain ⟨cells, hc⟩ := Go.Proofs.YtldnddehmpbbpaaGreatDoorW.PrintWords.own_typed HO2.out it e.symm
          rw [HIt2.out] at hc
          cases hc
        have HI8 : Aside0 (IsS80 w w7 g l0 p8 q8) := ⟨IsS80.grown (IsS80.alloc hI6 _) hG7 hneg⟩
        have HB8 : Aside0 (Below w.heap.size w w7) := ⟨Below.grown (below_alloc hB6 _) hG7 (below_alloc hB6 _).size (fun kk hk => by have := Go.Proofs.YtldnddehmpbbpaaGreatDoorW.PrintWords.own_base HO2.out kk hk; omega)⟩
        have HIt8 : Aside0 (w7.heap[it]? = some (.stringIter x1 (i + 1))) := ⟨blk_grown (blk_alloc hIt6 _) hG7 hnei⟩
        have HO8 : Aside0 (w7.ownsRow (w.heap.size + 1) 3 1 v' (acc ++ [x]).length (encs (Value.int .i64) (acc ++ [x]))) := ⟨by rw [List.length_append, List.length_singleton, show encs (Value.int .i64) (acc ++ [x]) = encs (Value.int .i64) acc ++ [.int .i64 x] by simp [encs]]; exact hO7⟩
        clear hI6 hB6 hK6 hO6 hIt6 hO7 hG7 hz7 HI2 HB2 HIt2 HO2 K5
        go_roundg d
        case measure => omega
        case rel => exact ⟨i + 1, p8, q8, acc ++ [x], by omega, by rw [List.length_append, List.length_singleton, hal], HL2, HI8, HB8, HIt8, HO8⟩
      · obtain rfl : gk = 0 := by omega
        have hl := HL.out
        rw [spec_DrawThumbPlan.lp] at hl
        simp only [Option.some.injEq, Prod.mk.injEq] at hl
        obtain ⟨rfl, rfl, rfl⟩ := hl
        have hnx : ∀ ty, (Instr.next (.pointer (some ⟨it, 0, none⟩)) true ty).run Tryz.prog wr = .ok (.tuple #[.bool false]) wr := fun ty => Go.Lib.run_next_end_at wr it x1 i ty HIt.out (by omega)
        have hne11 : u11.ownBlock ≠ some g := fun e => by
          have := Go.Proofs.YtldnddehmpbbpaaGreatDoorW.PrintWords.own_base HO.out g e
          have := HG.out
          omega
        have hH6 := H6.out
        unfold spec_DrawThumbPlan.more at hH6
        clear HL HIt H6
        cases o with
        | false =>
          rw [if_neg (by simp)] at hH6
          simp only [Option.some.injEq, Prod.mk.injEq] at hH6
          obtain ⟨rfl, rfl, rfl⟩ := hH6
          go_wp2_with (first | (go_at_call 54; with_reducible refine (spec_l1Cur_one.calls g l0 p q 10 false p5 q5 w _ HI.out HB.out H5.out).mono ?_; rintro e w6 ⟨rfl, hI6, hB6, hK6⟩; have hO6 := KeepBut.own hK6 HO.out hne11 (Decidable.or_iff_not_imp_left.2 fun hx => hx)) | (go_at_call 54; with_reducible refine (spec_l1Cur_one.calls g l0 p5 q5 2 z p7 q7 w _ hI6 hB6 H7.out).mono ?_; rintro e w7 ⟨rfl, hI7, hB7, hK7⟩; have hO7 := KeepBut.own hK7 hO6 hne11 (Decidable.or_iff_not_imp_left.2 fun hx => hx)))
          refine bodyPost_ret (results_list (rs := [.tmp 2, .tmp 3, .tmp 4, .tmp 5, .tmp 6]) rfl (by simp) (.tmp (.tmp (.tmp (.tmp (.tmp .nil)))))) rfl ?_
          exact ⟨_, rfl, Kd.R_lower (Kd.R_of_own hO7 (fun _ _ => trivial)) (by omega), hB7⟩
        | true =>
          rw [if_pos rfl] at hH6
          obtain ⟨⟨a, pa, qa⟩, ka, hH7⟩ := Option.bind_eq_some_iff.1 hH6
          simp only [Option.some.injEq, Prod.mk.injEq] at hH7
          obtain ⟨rfl, rfl, rfl⟩ := hH7
          have KA := Aside0.mk ka
          clear ka hH6
          have KA2 : Aside0 (spec_l1Cur_among.f l0 p5 q5 spec_DrawThumbPlan.ab = some (a, pa, qa)) := ⟨KA.out⟩
          clear KA
          have hal2 : acc.length ≤ 1000 := by omega
          have OR : ∀ {x : Option Nat}, x = none ∨ x ≠ none := fun {x} => Decidable.or_iff_not_imp_left.2 fun hx => hx
          go_upto_region 11 with (first | (go_at_call 54; with_reducible refine (spec_l1Cur_one.calls g l0 p q 10 true p5 q5 w _ HI.out HB.out H5.out).mono ?_; rintro e w6 ⟨rfl, hI6, hB6, hK6⟩; have hO6 := KeepBut.own hK6 HO.out hne11 OR; have hlt6 := IsS80.lt hI6) | (go_at_call 58; refine (spec_l1Cur_among.calls g l0 p5 q5 (some ⟨w6.heap.size, 0, none⟩) 3 spec_DrawThumbPlan.ab a pa qa w _ (IsS80.alloc hI6 _) (below_alloc hB6 _) (spec_DrawThumbPlan.lit (blk_new w6 _) rfl (by decide)) (by decide) (fun ad e _ => by cases e; exact Nat.ne_of_gt hlt6) KA2.out).mono ?_; rintro e w8 ⟨rfl, hI8, hB8, hK8⟩; have hO8 := KeepBut.own hK8 (hO6.alloc (.cells #[.int .i64 (-1), .int .i64 0, .int .i64 2] 3)) hne11 OR; have hbs : w.heap.size + 1 ≤ w8.heap.size + 1 := (by have := hB8.size; omega)) | ((with_reducible refine gate_builtin (b := .append) (xs := #[.tmp 32, .tmp 36]) rfl ?_); at_builtin; refine wpList_append_own _ rfl (.tmp 32) (.tmp 36) 26 rfl (w.heap.size + 1) 3 i9 (.int .i64 0) 1 8 Tryz.underlying26 hi9 hz9 hz91 hz92 rfl (by omega) u11 acc.length (encs (Value.int .i64) acc) rfl (hO8.alloc _) ⟨w8.heap.size, 0, none⟩ 1 1 [.int .i64 a] (by first | rfl | simp) rfl ?hn2 (by simp [Value.oneCell']) (by simp only [maxLen]; omega) (by omega) (by simpa using hbs) ?hK2; (case hn2 => exact World.news_of_block (cs := #[.int .i64 a]) (t := 3) (fr := (0, 0)) (heap_alloc_new w8 _)); intro v' w9 hO9 hG9 hz9))
          have hneg : some g ≠ u11.ownBlock := fun e => hne11 e.symm
          have hI9 := Aside0.mk (IsS80.grown (IsS80.alloc hI8 (.cells #[.int .i64 a] 3)) hG9 hneg)
          have hB9 : Aside0 (Below w.heap.size w w9) := ⟨Below.grown (below_alloc hB8 _) hG9 (below_alloc hB8 (.cells #[.int .i64 a] 3)).size (fun kk hk => by have := Go.Proofs.YtldnddehmpbbpaaGreatDoorW.PrintWords.own_base HO.out kk hk; omega)⟩
          have hne9 : v'.ownBlock ≠ some g := fun e => by
            have := Go.Proofs.YtldnddehmpbbpaaGreatDoorW.PrintWords.own_base hO9 g e
            have := HG.out
            omega
          have hO9' := Aside0.mk hO9
          clear hI6 hB6 hK6 hO6 hI8 hB8 hK8 hO8 hG9 hz9 hO9
          go_wp2_with (first | (go_at_call 54; with_reducible refine (spec_l1Cur_one.calls g l0 pa qa 2 z p7 q7 w _ hI9.out hB9.out H7.out).mono ?_; rintro e w10 ⟨rfl, hI10, hB10, hK10⟩; have hO10 := KeepBut.own hK10 hO9'.out hne9 OR))
          refine bodyPost_ret (results_list (rs := [.tmp 2, .tmp 3, .tmp 4, .tmp 5, .tmp 6]) rfl (by simp) (.tmp (.tmp (.tmp (.tmp (.tmp .nil)))))) rfl ?_
          have hO11 : w10.ownsRow (w.heap.size + 1) 3 1 v' (acc ++ [a]).length (encs (Value.int .i64) (acc ++ [a])) := by
            rw [List.length_append, List.length_singleton, show encs (Value.int .i64) (acc ++ [a]) = encs (Value.int .i64) acc ++ [.int .i64 a] by simp [encs]]
            exact hO10
          exact ⟨_, rfl, Kd.R_lower (Kd.R_of_own hO11 (fun _ _ => trivial)) (by omega), hB10⟩
  · cases h03
end Go.Proofs.YtldnddehmpbbpaaGreatDoor.P
end

section
namespace Go.Proofs.YtldnddehmpbbpaaGreatDoor.P
open Go.RowKit Go.Proofs.YtldnddehmpbbpaaGreatDoorW.PrintWords Go.Proofs.YtldnddehmpbbpaaGreatDoorW.PrintLast Go.Proofs.YtldnddehmpbbpaaGreatDoorW.PrintMore
attribute [local go_sem] max2_int min2_int max_two min_two max_three min_three max_four min_four   -- for this text's walks alone
set_option linter.unusedVariables false
set_option linter.unusedSimpArgs false
def spec_l1In.f (a0 : Int) (a1 : Int) (a2 : Int) : Option (Bool) := if a0 ≥ a1 then (some (decide (a0 ≤ a2))) else (some false)
set_option maxHeartbeats 8000000 in
set_option maxRecDepth 100000 in
theorem spec_l1In.calls (a0 : Int) (a1 : Int) (a2 : Int) (r : Bool) (w : World) (h : spec_l1In.f a0 a1 a2 = some r) :
    Calls Tryz.prog 66 #[.int .i64 a0, .int .i64 a1, .int .i64 a2] w fun e w' => e = .returned (.bool r) ∧ Drawn0 w w' := by
  have H : (if a0 ≥ a1 then (some (decide (a0 ≤ a2))) else (some false)) = some r := h
  clear h
  by_cases c4 : a0 ≥ a1
  · rw [if_pos c4] at H
    have c4b0 : decide (a1 ≤ a0) = true := decide_eq_true c4
    clear c4
    obtain rfl := Option.some.inj H
    go_enter Tryz.func66, Tryz.ntmps66
    go_wp2
    go_ret
    exact ⟨by first | rfl | (simp; done) | (simp [*]; done), by repeat (first | exact Drawn0.refl _ | apply Drawn0.step)⟩
  · rw [if_neg c4] at H
    have c4b0 : decide (a1 ≤ a0) = false := decide_eq_false c4
    clear c4
    obtain rfl := Option.some.inj H
    go_enter Tryz.func66, Tryz.ntmps66
    go_wp2
    go_ret
    exact ⟨by first | rfl | (simp; done) | (simp [*]; done), by repeat (first | exact Drawn0.refl _ | apply Drawn0.step)⟩
end Go.Proofs.YtldnddehmpbbpaaGreatDoor.P
end

section
namespace Go.Proofs.YtldnddehmpbbpaaGreatDoor.P
open Go.RowKit Go.Proofs.YtldnddehmpbbpaaGreatDoorW.PrintWords Go.Proofs.YtldnddehmpbbpaaGreatDoorW.PrintLast Go.Proofs.YtldnddehmpbbpaaGreatDoorW.PrintMore
attribute [local go_sem] max2_int min2_int max_two min_two max_three min_three max_four min_four   -- for this text's walks alone
set_option linter.unusedVariables false
set_option linter.unusedSimpArgs false
def spec_l1All.l0 : Nat → Int → Int → List Int → Int → Int → Option (Bool)
  | 0, _, _, _, _, _ => none
  | k + 1, x1, x2, x9, x10, x11 => if x11 < x10 then (if 0 ≤ x11 then (if x11 < (x9.length : Int) then ((spec_l1In.f (rd x9 x11) x1 x2).bind fun t269 => (if t269 = true then (spec_l1All.l0 k x1 x2 x9 x10 (wrap64 (x11 + 1))) else (some false))) else (none)) else (none)) else (some true)
def spec_l1All.f (k : Nat) (l0 : List Int) (a1 : Int) (a2 : Int) : Option (Bool) := spec_l1All.l0 k a1 a2 l0 (l0.length : Int) 0
theorem spec_l1All.mono_l : ∀ k, (∀ y0 y1 y2 y3 y4, LeO (spec_l1All.l0 k y0 y1 y2 y3 y4) (spec_l1All.l0 (k + 1) y0 y1 y2 y3 y4))
  | 0 => fun _ _ _ _ _ r h => by simp [spec_l1All.l0] at h
  | k + 1 => by
    have ih0 := spec_l1All.mono_l k
    · intro y0 y1 y2 y3 y4
      unfold spec_l1All.l0
      repeat' first
      | (with_reducible exact ih0 _ _ _ _ _)
      | (with_reducible exact LeO.refl _)
      | (with_reducible exact LeO.none _)
      | (with_reducible refine LeO.ite ?_ ?_)
      | (with_reducible refine LeO.bind ?_ (fun _ => ?_))
      | exact ih0 _ _ _ _ _
      | exact LeO.none _
      | refine LeO.ite ?_ ?_
      | refine LeO.bind ?_ (fun _ => ?_)
theorem spec_l1All.mono : ∀ a0 a1 a2 k, LeO (spec_l1All.f k a0 a1 a2) (spec_l1All.f (k + 1) a0 a1 a2) := by
  intro a0 a1 a2 k
  have ih0 := spec_l1All.mono_l k
  unfold spec_l1All.f
  repeat' first
      | (with_reducible exact ih0 _ _ _ _ _)
      | (with_reducible exact LeO.refl _)
      | (with_reducible exact LeO.none _)
      | (with_reducible refine LeO.ite ?_ ?_)
      | (with_reducible refine LeO.bind ?_ (fun _ => ?_))
      | exact ih0 _ _ _ _ _
      | exact LeO.none _
      | refine LeO.ite ?_ ?_
      | refine LeO.bind ?_ (fun _ => ?_)
set_option maxHeartbeats 8000000 in
set_option maxRecDepth 100000 in
theorem spec_l1All.calls (k : Nat) (A0 : Option Addr) (c0 : Nat) (l0 : List Int) (a1 : Int) (a2 : Int) (r : Bool) (w : World) (hr0 : Kd.C (Kd.int .i64) w A0 l0.length l0) (hc0 : l0.length ≤ c0) (h : spec_l1All.f k l0 a1 a2 = some r) :
    Calls Tryz.prog 59 #[.slice A0 l0.length c0, .int .i64 a1, .int .i64 a2] w fun e w' => e = .returned (.bool r) ∧ Drawn0 w w' := by
  have HR0 := Aside0.mk hr0
  have HC0 := Aside0.mk hc0
  clear hr0 hc0
  have H : (spec_l1All.l0 k a1 a2 l0 (l0.length : Int) 0) = some r := h
  clear h
  have H' := Aside0.mk H
  clear H
  go_enter Tryz.func59, Tryz.ntmps59
  go_wp2
  go_loopg [11] k (fun kq v11 w' => ∃ (x11_1 : Int), v11 = .int .i64 x11_1 ∧ Aside0 (spec_l1All.l0 kq a1 a2 l0 (l0.length : Int) x11_1 = some r) ∧ Aside0 (kq ≤ k) ∧ Drawn0 w w')
  case atStart => exact ⟨(0), (by first | rfl | (simp; done) | (simp [*]; done)), H', ⟨Nat.le_refl _⟩, by repeat (first | exact Drawn0.refl _ | apply Drawn0.step)⟩
  case round =>
    clear H'
    try clear p2
    obtain ⟨x11_1, rfl, HA, HK1, ⟨m1, rfl⟩⟩ := hrel
    cases gk with
    | zero => exact absurd HA.out (by simp [spec_l1All.l0])
    | succ k1 =>
      have H := HA.out
      clear HA
      simp only [spec_l1All.l0] at H
      by_cases c4 : x11_1 < (l0.length : Int)
      · rw [if_pos c4] at H
        have c4b0 : decide (x11_1 < (l0.length : Int)) = true := decide_eq_true c4
        clear c4
        by_cases c5 : 0 ≤ x11_1
        · rw [if_pos c5] at H
          have c5b0 : decide (0 ≤ x11_1) = true := decide_eq_true c5
          clear c5
          by_cases c6 : x11_1 < (l0.length : Int)
          · rw [if_pos c6] at H
            have c6b0 : decide (x11_1 < (l0.length : Int)) = true := decide_eq_true c6
            clear c6
            replace H := Option.bind_eq_some_iff.mp H
            obtain ⟨t269, A70, H⟩ := H
            replace H : (if t269 = true then (spec_l1All.l0 k1 a1 a2 l0 (l0.length : Int) (wrap64 (x11_1 + 1))) else (some false)) = some r := H
            have A7 := Aside0.mk A70
            clear A70
            by_cases c8 : t269 = true
            · subst c8
              have H1 : (spec_l1All.l0 k1 a1 a2 l0 (l0.length : Int) (wrap64 (x11_1 + 1))) = some r := by rw [if_pos rfl] at H; exact H
              clear H
              have H := H1
              clear H1
              have H' := Aside0.mk H
              clear H
              have p268 : 0 ≤ (x11_1 : Int) := of_decide_eq_true (by first | (with_reducible assumption) | assumption)
              have q268 : x11_1 < (l0.length : Int) := of_decide_eq_true (by first | (with_reducible assumption) | assumption)
              obtain ⟨ad268, e268, hx268_0⟩ := Kd.at_int HR0.out x11_1 p268 q268
              cases e268
              replace p268 := eq_true p268
              replace q268 := eq_true q268
              go_wp2_with (first | ((with_reducible refine gate_callee (f := 66) rfl ?_); refine goesL_ (some 18) rfl rfl Tryz.func66 (by kernel_rfl) rfl #[.int .i64 (rd l0 x11_1), .int .i64 a1, .int .i64 a2] rfl (by (try simp only [List.map_toArray, List.map_cons, List.map_nil]); first | done | rfl | (simp only [List.length_drop, List.length_take]; rfl)) ?_; (with_reducible refine (spec_l1In.calls (rd l0 x11_1) a1 a2 true _ A7.out).mono ?_); rintro e w' ⟨rfl, ⟨nd, rfl⟩⟩; refine ⟨_, rfl, ?_⟩))
              go_roundg k1
              case measure => have := HK1.out; omega
              case rel => exact ⟨(wrap64 (x11_1 + 1)), (by first | rfl | (simp; done) | (simp [*]; done)), H', ⟨by have := HK1.out; omega⟩, by repeat (first | exact Drawn0.refl _ | apply Drawn0.step)⟩
            · replace c8 := Bool.eq_false_iff.mpr c8
              subst c8
              have H1 : (some false) = some r := by rw [if_neg (show ¬ (false = true) by decide)] at H; exact H
              clear H
              have H := H1
              clear H1
              obtain rfl := Option.some.inj H
              have p268 : 0 ≤ (x11_1 : Int) := of_decide_eq_true (by first | (with_reducible assumption) | assumption)
              have q268 : x11_1 < (l0.length : Int) := of_decide_eq_true (by first | (with_reducible assumption) | assumption)
              obtain ⟨ad268, e268, hx268_0⟩ := Kd.at_int HR0.out x11_1 p268 q268
              cases e268
              replace p268 := eq_true p268
              replace q268 := eq_true q268
              go_wp2_with (first | ((with_reducible refine gate_callee (f := 66) rfl ?_); refine goesL_ (some 18) rfl rfl Tryz.func66 (by kernel_rfl) rfl #[.int .i64 (rd l0 x11_1), .int .i64 a1, .int .i64 a2] rfl (by (try simp only [List.map_toArray, List.map_cons, List.map_nil]); first | done | rfl | (simp only [List.length_drop, List.length_take]; rfl)) ?_; (with_reducible refine (spec_l1In.calls (rd l0 x11_1) a1 a2 false _ A7.out).mono ?_); rintro e w' ⟨rfl, ⟨nd, rfl⟩⟩; refine ⟨_, rfl, ?_⟩))
              go_ret
              exact ⟨by first | rfl | (simp; done) | (simp [*]; done), by repeat (first | exact Drawn0.refl _ | apply Drawn0.step)⟩
          · rw [if_neg c6] at H
            exact absurd H (by simp)
        · rw [if_neg c5] at H
          exact absurd H (by simp)
      · rw [if_neg c4] at H
        have c4b0 : decide (x11_1 < (l0.length : Int)) = false := decide_eq_false c4
        clear c4
        obtain rfl := Option.some.inj H
        go_wp2
        go_ret
        exact ⟨by first | rfl | (simp; done) | (simp [*]; done), by repeat (first | exact Drawn0.refl _ | apply Drawn0.step)⟩
end Go.Proofs.YtldnddehmpbbpaaGreatDoor.P
end

section
namespace Go.Proofs.YtldnddehmpbbpaaGreatDoor.P
open Go.RowKit Go.Proofs.YtldnddehmpbbpaaGreatDoorW.PrintWords Go.Proofs.YtldnddehmpbbpaaGreatDoorW.PrintLast Go.Proofs.YtldnddehmpbbpaaGreatDoorW.PrintMore
attribute [local go_sem] max2_int min2_int max_two min_two max_three min_three max_four min_four   -- for this text's walks alone
set_option linter.unusedVariables false
set_option linter.unusedSimpArgs false
mutual
def spec_ThumbPlan.j0 : Nat → ByteArray → ByteArray → ByteArray → List Int → Bool → Bool → Option (Int × Bool)
  | 0, _, _, _, _, _, _ => none
  | k + 1, x0, x1, x2, x3, x4, x32 => if x32 = true then (some (0, false)) else (if 0 < (x1.size : Int) then (if 0 < (x2.size : Int) then (spec_ThumbPlan.l0 k x0 x4 (([bt x1 0, bt x2 0] : List Int)) 0 x3 (x3.length : Int) 0) else (none)) else (none))
def spec_ThumbPlan.l0 : Nat → ByteArray → Bool → List Int → Int → List Int → Int → Int → Option (Int × Bool)
  | 0, _, _, _, _, _, _, _ => none
  | k + 1, x0, x4, x12, x13, x38, x39, x40 => if x40 < x39 then (if 0 ≤ x40 then (if x40 < (x38.length : Int) then (if 0 ≤ (rd x38 x40) then (if (rd x38 x40) < (x12.length : Int) then (if x40 < (x0.size : Int) then ((spec_thFar.f k (rd x12 (rd x38 x40)) (bt x0 x40) x4).bind fun t277 => (spec_ThumbPlan.l0 k x0 x4 (x12.set ((rd x38 x40) : Int).toNat (bt x0 x40)) (wrap64 (x13 + t277)) x38 x39 (wrap64 (x40 + 1)))) else (none)) else (none)) else (none)) else (none)) else (none)) else (some (x13, true))
end
def spec_ThumbPlan.f (k : Nat) (a0 : ByteArray) (a1 : ByteArray) (a2 : ByteArray) (l3 : List Int) (a4 : Bool) : Option (Int × Bool) := (spec_thBoth.f k a0 a1 a2).bind fun t270 => (if t270 = true then (if (l3.length : Int) = (a0.size : Int) then ((spec_l1All.f k l3 0 1).bind fun t271 => (spec_ThumbPlan.j0 k a0 a1 a2 l3 a4 (!t271))) else (spec_ThumbPlan.j0 k a0 a1 a2 l3 a4 true)) else (spec_ThumbPlan.j0 k a0 a1 a2 l3 a4 true))
theorem spec_ThumbPlan.mono_l : ∀ k, (∀ y0 y1 y2 y3 y4 y5, LeO (spec_ThumbPlan.j0 k y0 y1 y2 y3 y4 y5) (spec_ThumbPlan.j0 (k + 1) y0 y1 y2 y3 y4 y5)) ∧ (∀ y0 y1 y2 y3 y4 y5 y6, LeO (spec_ThumbPlan.l0 k y0 y1 y2 y3 y4 y5 y6) (spec_ThumbPlan.l0 (k + 1) y0 y1 y2 y3 y4 y5 y6))
  | 0 => ⟨fun _ _ _ _ _ _ r h => by simp [spec_ThumbPlan.j0] at h, fun _ _ _ _ _ _ _ r h => by simp [spec_ThumbPlan.l0] at h⟩
  | k + 1 => by
    obtain ⟨ih0, ih1⟩ := spec_ThumbPlan.mono_l k
    refine ⟨?_, ?_⟩
    · intro y0 y1 y2 y3 y4 y5
      unfold spec_ThumbPlan.j0
      repeat' first
      | (with_reducible exact ih0 _ _ _ _ _ _)
      | (with_reducible exact ih1 _ _ _ _ _ _ _)
      | (with_reducible exact spec_l1All.mono _ _ _ _)
      | (with_reducible exact spec_thBoth.mono _ _ _ _)
      | (with_reducible exact spec_thFar.mono _ _ _ _)
      | (with_reducible exact LeO.refl _)
      | (with_reducible exact LeO.none _)
      | (with_reducible refine LeO.ite ?_ ?_)
      | (with_reducible refine LeO.bind ?_ (fun _ => ?_))
      | exact ih0 _ _ _ _ _ _
      | exact ih1 _ _ _ _ _ _ _
      | exact spec_l1All.mono _ _ _ _
      | exact spec_thBoth.mono _ _ _ _
      | exact spec_thFar.mono _ _ _ _
      | exact LeO.none _
      | refine LeO.ite ?_ ?_
      | refine LeO.bind ?_ (fun _ => ?_)
    · intro y0 y1 y2 y3 y4 y5 y6
      unfold spec_ThumbPlan.l0
      repeat' first
      | (with_reducible exact ih0 _ _ _ _ _ _)
      | (with_reducible exact ih1 _ _ _ _ _ _ _)
      | (with_reducible exact spec_l1All.mono _ _ _ _)
      | (with_reducible exact spec_thBoth.mono _ _ _ _)
      | (with_reducible exact spec_thFar.mono _ _ _ _)
      | (with_reducible exact LeO.refl _)
      | (with_reducible exact LeO.none _)
      | (with_reducible refine LeO.ite ?_ ?_)
      | (with_reducible refine LeO.bind ?_ (fun _ => ?_))
      | exact ih0 _ _ _ _ _ _
      | exact ih1 _ _ _ _ _ _ _
      | exact spec_l1All.mono _ _ _ _
      | exact spec_thBoth.mono _ _ _ _
      | exact spec_thFar.mono _ _ _ _
      | exact LeO.none _
      | refine LeO.ite ?_ ?_
      | refine LeO.bind ?_ (fun _ => ?_)
theorem spec_ThumbPlan.mono : ∀ a0 a1 a2 a3 a4 k, LeO (spec_ThumbPlan.f k a0 a1 a2 a3 a4) (spec_ThumbPlan.f (k + 1) a0 a1 a2 a3 a4) := by
  intro a0 a1 a2 a3 a4 k
  obtain ⟨ih0, ih1⟩ := spec_ThumbPlan.mono_l k
  unfold spec_ThumbPlan.f
  repeat' first
      | (with_reducible exact ih0 _ _ _ _ _ _)
      | (with_reducible exact ih1 _ _ _ _ _ _ _)
      | (with_reducible exact spec_l1All.mono _ _ _ _)
      | (with_reducible exact spec_thBoth.mono _ _ _ _)
      | (with_reducible exact spec_thFar.mono _ _ _ _)
      | (with_reducible exact LeO.refl _)
      | (with_reducible exact LeO.none _)
      | (with_reducible refine LeO.ite ?_ ?_)
      | (with_reducible refine LeO.bind ?_ (fun _ => ?_))
      | exact ih0 _ _ _ _ _ _
      | exact ih1 _ _ _ _ _ _ _
      | exact spec_l1All.mono _ _ _ _
      | exact spec_thBoth.mono _ _ _ _
      | exact spec_thFar.mono _ _ _ _
      | exact LeO.none _
      | refine LeO.ite ?_ ?_
      | refine LeO.bind ?_ (fun _ => ?_)
def spec_ThumbPlan.T8 : Bool × List (List Nat × List Nat) := (true, [([], []), ([], []), ([], []), ([1, 2], [1, 2]), ([3], [3]), ([], []), ([], []), ([5, 6], [5, 6]), ([], []), ([4, 7, 8], [4, 7, 8]), ([0, 9], [0, 9]), ([10, 9, 0, 1, 2, 3, 4, 5, 6, 7, 8, 9, 10], [0, 10])])
def spec_ThumbPlan.B8 : List Nat := [0, 0, 0, 6, 14, 0, 0, 96, 0, 510, 1023, 2047]
theorem spec_ThumbPlan.tab8 : rtab .any (opsOf Tryz.f22 8) = spec_ThumbPlan.T8 := by kernel_rfl
theorem spec_ThumbPlan.bits8 : waitsOk spec_ThumbPlan.T8.2 spec_ThumbPlan.B8 = true := by kernel_rfl
set_option maxHeartbeats 8000000 in
set_option maxRecDepth 100000 in
theorem spec_ThumbPlan.calls (k : Nat) (a0 : ByteArray) (a1 : ByteArray) (a2 : ByteArray) (A3 : Option Addr) (c3 : Nat) (l3 : List Int) (a4 : Bool) (r1 : Int) (r2 : Bool) (w : World) (hr3 : Kd.C (Kd.int .i64) w A3 l3.length l3) (hc3 : l3.length ≤ c3) (h : spec_ThumbPlan.f k a0 a1 a2 l3 a4 = some (r1, r2)) :
    Calls Tryz.prog 22 #[.string a0, .string a1, .string a2, .slice A3 l3.length c3, .bool a4] w fun e w' => e = .returned (.tuple #[.int .i64 r1, .bool r2]) ∧ Below w.heap.size w w' := by
  have HR3 := Aside0.mk hr3
  have HC3 := Aside0.mk hc3
  clear hr3 hc3
  have HB := Aside0.mk (Below.refl w.heap.size w)
  have H : ((spec_thBoth.f k a0 a1 a2).bind fun t270 => (if t270 = true then (if (l3.length : Int) = (a0.size : Int) then ((spec_l1All.f k l3 0 1).bind fun t271 => (spec_ThumbPlan.j0 k a0 a1 a2 l3 a4 (!t271))) else (spec_ThumbPlan.j0 k a0 a1 a2 l3 a4 true)) else (spec_ThumbPlan.j0 k a0 a1 a2 l3 a4 true))) = some (r1, r2) := h
  clear h
  have HC6 := Aside0.mk H
  clear H
  go_enter Tryz.func22, Tryz.ntmps22
  go_upto_region 1 with (fail)
  go_cut [32] (fun v32 wc => ∃ (kq : Nat) (x32_5 : Bool), v32 = .bool x32_5 ∧ Aside0 (spec_ThumbPlan.j0 kq a0 a1 a2 l3 a4 x32_5 = some (r1, r2)) ∧ Aside0 (kq ≤ k) ∧ Aside0 (Below w.heap.size w wc))
  case first =>
    have H := HC6.out
    clear HC6
    replace H := Option.bind_eq_some_iff.mp H
    obtain ⟨t270, A70, H⟩ := H
    replace H : (if t270 = true then (if (l3.length : Int) = (a0.size : Int) then ((spec_l1All.f k l3 0 1).bind fun t271 => (spec_ThumbPlan.j0 k a0 a1 a2 l3 a4 (!t271))) else (spec_ThumbPlan.j0 k a0 a1 a2 l3 a4 true)) else (spec_ThumbPlan.j0 k a0 a1 a2 l3 a4 true)) = some (r1, r2) := H
    have A7 := Aside0.mk A70
    clear A70
    by_cases c8 : t270 = true
    · subst c8
      have H1 : (if (l3.length : Int) = (a0.size : Int) then ((spec_l1All.f k l3 0 1).bind fun t271 => (spec_ThumbPlan.j0 k a0 a1 a2 l3 a4 (!t271))) else (spec_ThumbPlan.j0 k a0 a1 a2 l3 a4 true)) = some (r1, r2) := by rw [if_pos rfl] at H; exact H
      clear H
      have H := H1
      clear H1
      by_cases c9 : (l3.length : Int) = (a0.size : Int)
      · rw [if_pos c9] at H
        have c9b0 : ((l3.length : Int) == (a0.size : Int)) = true := beq_iff_eq.mpr c9
        have c9b1 : ((l3.length : Int) != (a0.size : Int)) = false := bne_eq_false_iff_eq.mpr c9
        have c9b2 : (l3.length == a0.size) = true := by first | simpa using c9 | (simp at c9 ⊢; omega)
        clear c9
        (first | rw [c9b0] | (simp only [i64_w, i32_w]; rw [c9b0]) | skip)
        replace H := Option.bind_eq_some_iff.mp H
        obtain ⟨t271, A100, H⟩ := H
        replace H : (spec_ThumbPlan.j0 k a0 a1 a2 l3 a4 (!t271)) = some (r1, r2) := H
        have A10 := Aside0.mk A100
        clear A100
        have H' := Aside0.mk H
        clear H
        go_wp2_with (first | ((with_reducible refine gate_callee (f := 36) rfl ?_); refine goesL_ (some 19) rfl rfl Tryz.func36 (by kernel_rfl) rfl #[.string a0, .string a1, .string a2] rfl (by (try simp only [List.map_toArray, List.map_cons, List.map_nil]); first | done | rfl | (simp only [List.length_drop, List.length_take]; rfl)) ?_; (with_reducible refine (spec_thBoth.calls k a0 a1 a2 true _ A7.out).mono ?_); rintro e w' ⟨rfl, ⟨nd, rfl⟩⟩; refine ⟨_, rfl, ?_⟩) | (go_at_call 59; (with_reducible refine (spec_l1All.calls k _ _ l3 0 1 t271 _ ?side1 ?side2 A10.out).mono ?_); (case side1 => repeat (first | exact (Kd.C_below HR3.out (by repeat (first | (with_reducible first | exact HB.out | apply below_alloc | apply pw_below_drewN | apply below_drew1) | exact HB.out))) | (with_reducible refine Kd.C_alloc ?_ _) | (with_reducible refine Kd.C_drewN ?_ _) | (with_reducible refine Kd.C_drew ?_))); (case side2 => exact HC3.out); rintro e w' ⟨rfl, ⟨nd, rfl⟩⟩))
        go_meet
        case rel => exact ⟨_, (!t271), (by first | rfl | (simp; done) | (simp [*]; done)), H', ⟨by first | omega | exact Nat.le_refl _⟩, ⟨by repeat (first | (with_reducible first | exact HB.out | apply below_alloc | apply pw_below_drewN | apply below_drew1) | exact HB.out)⟩⟩
      · rw [if_neg c9] at H
        have c9b0 : ((l3.length : Int) == (a0.size : Int)) = false := beq_eq_false_iff_ne.mpr c9
        have c9b1 : ((l3.length : Int) != (a0.size : Int)) = true := bne_iff_ne.mpr c9
        have c9b2 : (l3.length == a0.size) = false := by first | simpa using c9 | (simp at c9 ⊢; omega)
        (first | rw [c9b0] | (simp only [i64_w, i32_w]; rw [c9b0]) | skip)
        have H' := Aside0.mk H
        clear H
        go_wp2_with (first | ((with_reducible refine gate_callee (f := 36) rfl ?_); refine goesL_ (some 19) rfl rfl Tryz.func36 (by kernel_rfl) rfl #[.string a0, .string a1, .string a2] rfl (by (try simp only [List.map_toArray, List.map_cons, List.map_nil]); first | done | rfl | (simp only [List.length_drop, List.length_take]; rfl)) ?_; (with_reducible refine (spec_thBoth.calls k a0 a1 a2 true _ A7.out).mono ?_); rintro e w' ⟨rfl, ⟨nd, rfl⟩⟩; refine ⟨_, rfl, ?_⟩))
        go_meet
        case rel => exact ⟨_, (true), (by first | rfl | (simp; done) | (simp [*]; done)), H', ⟨by first | omega | exact Nat.le_refl _⟩, ⟨by repeat (first | (with_reducible first | exact HB.out | apply below_alloc | apply pw_below_drewN | apply below_drew1) | exact HB.out)⟩⟩
    · replace c8 := Bool.eq_false_iff.mpr c8
      subst c8
      have H1 : (spec_ThumbPlan.j0 k a0 a1 a2 l3 a4 true) = some (r1, r2) := by rw [if_neg (show ¬ (false = true) by decide)] at H; exact H
      clear H
      have H := H1
      clear H1
      have H' := Aside0.mk H
      clear H
      go_wp2_with (first | ((with_reducible refine gate_callee (f := 36) rfl ?_); refine goesL_ (some 19) rfl rfl Tryz.func36 (by kernel_rfl) rfl #[.string a0, .string a1, .string a2] rfl (by (try simp only [List.map_toArray, List.map_cons, List.map_nil]); first | done | rfl | (simp only [List.length_drop, List.length_take]; rfl)) ?_; (with_reducible refine (spec_thBoth.calls k a0 a1 a2 false _ A7.out).mono ?_); rintro e w' ⟨rfl, ⟨nd, rfl⟩⟩; refine ⟨_, rfl, ?_⟩))
      go_meet
      case rel => exact ⟨_, (true), (by first | rfl | (simp; done) | (simp [*]; done)), H', ⟨by first | omega | exact Nat.le_refl _⟩, ⟨by repeat (first | (with_reducible first | exact HB.out | apply below_alloc | apply pw_below_drewN | apply below_drew1) | exact HB.out)⟩⟩
  case rest =>
    clear HC6
    try clear c2
    try clear p2
    try clear c3
    try clear c8
    try clear c9
    try clear c9b0
    try clear c9b1
    try clear c9b2
    obtain ⟨kq, x32_5, rfl, HA, HJ5, HB⟩ := hcut
    cases kq with
    | zero => exact absurd HA.out (by simp [spec_ThumbPlan.j0])
    | succ kj5 =>
      have H := HA.out
      clear HA
      simp only [spec_ThumbPlan.j0] at H
      by_cases c11 : x32_5 = true
      · subst c11
        have H1 : (some (0, false)) = some (r1, r2) := by rw [if_pos rfl] at H; exact H
        clear H
        have H := H1
        clear H1
        simp only [Option.some.injEq, Prod.mk.injEq] at H
        obtain ⟨rfl, rfl⟩ := H
        go_wp2
        go_ret2
        exact ⟨by first | rfl | (simp [errW_none, errW_some] <;> rfl) | (simp [*, errW_none, errW_some] <;> rfl), by repeat (first | (with_reducible first | exact HB.out | apply below_alloc | apply pw_below_drewN | apply below_drew1) | exact HB.out)⟩
      · replace c11 := Bool.eq_false_iff.mpr c11
        subst c11
        have H1 : (if 0 < (a1.size : Int) then (if 0 < (a2.size : Int) then (spec_ThumbPlan.l0 kj5 a0 a4 (([bt a1 0, bt a2 0] : List Int)) 0 l3 (l3.length : Int) 0) else (none)) else (none)) = some (r1, r2) := by rw [if_neg (show ¬ (false = true) by decide)] at H; exact H
        clear H
        have H := H1
        clear H1
        by_cases c12 : 0 < (a1.size : Int)
        · rw [if_pos c12] at H
          have c12b0 : decide (0 < (a1.size : Int)) = true := decide_eq_true c12
          have c12b1 : decide (0 < a1.size) = true := decide_eq_true (by omega)
          clear c12
          by_cases c14 : 0 < (a2.size : Int)
          · rw [if_pos c14] at H
            have c14b0 : decide (0 < (a2.size : Int)) = true := decide_eq_true c14
            have c14b1 : decide (0 < a2.size) = true := decide_eq_true (by omega)
            clear c14
            obtain ⟨y272, hy272⟩ : ∃ y_ : List Int, y_ = (([bt a1 0, bt a2 0] : List Int)) := ⟨_, rfl⟩
            replace H : (spec_ThumbPlan.l0 kj5 a0 a4 y272 0 l3 (l3.length : Int) 0) = some (r1, r2) := by first | (rw [hy272]; with_reducible exact H) | (have H2_ := (Option.bind_some _ _).symm.trans H; rw [hy272]; with_reducible exact H2_) | (have H2_ := (Option.bind_some _ _).symm.trans H; with_reducible exact H2_) | with_reducible exact H | (rw [hy272]; exact H) | exact H
            have Ny272 := Aside0.mk hy272
            clear hy272
            have H' := Aside0.mk H
            clear H
            try go_wp2
            have n0_ := Aside0.mk (below_drew1 HB.out)
            clear HB
            have HB := n0_
            clear n0_
            have p13 : 0 ≤ (0 : Int) := (by omega)
            have q13 : 0 < a1.size := (by have : (0 : Int) < (a1.size : Int) := of_decide_eq_true (by first | (with_reducible assumption) | assumption); omega)
            have hx13 : ∀ h : 0 < a1.size, ((a1[0]'h).toNat : Int) = bt a1 0 := bt_at a1 0
            clear p13
            have qi13 : (0 < (a1.size : Int)) = True := eq_true (of_decide_eq_true (by first | (with_reducible assumption) | assumption))
            replace q13 := eq_true q13
            have p15 : 0 ≤ (0 : Int) := (by omega)
            have q15 : 0 < a2.size := (by have : (0 : Int) < (a2.size : Int) := of_decide_eq_true (by first | (with_reducible assumption) | assumption); omega)
            have hx15 : ∀ h : 0 < a2.size, ((a2[0]'h).toNat : Int) = bt a2 0 := bt_at a2 0
            clear p15
            have qi15 : (0 < (a2.size : Int)) = True := eq_true (of_decide_eq_true (by first | (with_reducible assumption) | assumption))
            replace q15 := eq_true q15
            refine start_ (n := 6) (S := fun w' => True) (ds := []) #[false, false, false, false, false, false] (by kernel_rfl) rfl rfl trivial (fun hHeld => ?_)
            generalize wc.drew = w16 at HB hHeld ⊢
            refine pure_ (i := 0) (N := some 33) (v := ?_) (a' := ?_) #[true, false, false, false, false, false] rfl rfl (by kernel_rfl) (fun _ _ _ h => h) (Or.inl ⟨by rfl, ?_⟩) ?_ ?_
            rotate_left
            · intro w'
              go_simp
              with_reducible rfl
            rotate_left
            · simp only [Act.put, List.setIfInBounds_toArray, List.set_cons_zero, List.set_cons_succ, i64_w, i32_w]
              rfl
            refine pure_ (i := 2) (N := some 35) (v := ?_) (a' := ?_) #[true, false, true, false, false, false] rfl rfl (by kernel_rfl) (fun _ _ _ h => h) (Or.inl ⟨by rfl, ?_⟩) ?_ ?_
            rotate_left
            · intro w'
              go_simp
              with_reducible rfl
            rotate_left
            · simp only [Act.put, List.setIfInBounds_toArray, List.set_cons_zero, List.set_cons_succ, i64_w, i32_w]
              rfl
            refine take_ (i := 1) (N := some 34) (v := ?_) (a' := ?_) #[true, true, true, false, false, false] rfl rfl (by kernel_rfl) (fun _ _ _ h => h) (Or.inl ⟨by rfl, ?_⟩) hHeld ?_ ?_
            rotate_left
            · intro w' _
              go_simp
              with_reducible rfl
            rotate_left
            · simp only [Act.put, List.setIfInBounds_toArray, List.set_cons_zero, List.set_cons_succ, i64_w, i32_w]
              rfl
            refine take_ (i := 3) (N := some 36) (v := ?_) (a' := ?_) #[true, true, true, true, false, false] rfl rfl (by kernel_rfl) (fun _ _ _ h => h) (Or.inl ⟨by rfl, ?_⟩) hHeld ?_ ?_
            rotate_left
            · intro w' _
              go_simp
              with_reducible rfl
            rotate_left
            · simp only [Act.put, List.setIfInBounds_toArray, List.set_cons_zero, List.set_cons_succ, i64_w, i32_w]
              rfl
            refine one_ (i := 4) (N := some 37) #[true, true, true, true, true, false] rfl rfl (by kernel_rfl) (by decide) (fun K hK => ?_)
            refine Kd.R_lit_step (Kd.int .u8) _ 5 ?hg (N := 37) ?hd (xs := ([bt a1 0, bt a2 0] : List Int)) (inner := [.int .u8 (bt a1 0), .int .u8 (bt a2 0)]) (ok := fun _ => True) (okp := fun _ => True) ?hr ?hp (fun _ hk => hk) trivial (Below.refl _ _) (Nat.le_refl _) (by simp) ?_; (case hd => rfl); (case hg => rfl); (case hr => first | (go_simp; done) | (go_simp; rfl)); (case hp => exact (Reps.one (show Kd.M (Kd.int .u8) _ _ _ (bt a1 0) [.int .u8 (bt a1 0)] from rfl) (Reps.one (show Kd.M (Kd.int .u8) _ _ _ (bt a2 0) [.int .u8 (bt a2 0)] from rfl) (Reps.none _ _))))
            intro v273 w17 ho18 hb hg_ hnew_
            clear hg_ hnew_
            (first | rw [← Ny272.out] at ho18 | (simp only [Int.reduceToNat] at ho18; rw [← Ny272.out] at ho18))
            have n0_ := Aside0.mk (Kd.R_lower ho18 (below_size (by repeat (first | (with_reducible first | exact HB.out | apply below_alloc | apply pw_below_drewN | apply below_drew1) | exact HB.out))))
            have n1_ := Aside0.mk (below_step (by repeat (first | (with_reducible first | exact HB.out | apply below_alloc | apply pw_below_drewN | apply below_drew1) | exact HB.out)) hb)
            clear HB
            have HO274 := n0_
            have HB := n1_
            clear n0_ n1_
            clear hb ho18
            refine hK.out _ _ trivial (fun hHeld => ?_)
            clear hK K
            refine norm_ (a' := ?_) ?_ ?_
            rotate_left
            · show Act.put _ (some 37) _ = _
              simp only [Act.put, List.setIfInBounds_toArray, List.set_cons_zero, List.set_cons_succ, i64_w, i32_w]
              rfl
            refine pure_ (i := 5) (N := some 12) (v := ?_) (a' := ?_) #[true, true, true, true, true, true] rfl rfl (by kernel_rfl) (fun _ _ _ h => h) (Or.inl ⟨by rfl, ?_⟩) ?_ ?_
            rotate_left
            · intro w'
              go_simp
              with_reducible rfl
            rotate_left
            · simp only [Act.put, List.setIfInBounds_toArray, List.set_cons_zero, List.set_cons_succ, i64_w, i32_w]
              rfl
            refine done_ (by kernel_rfl) ?_
            try go_wp2
            go_loopg [13, 40] kj5 (fun kq v13 v40 w' => ∃ (x12_2 : List Int) (x13_2 : Int) (x40_2 : Int), v13 = .int .i64 x13_2 ∧ v40 = .int .i64 x40_2 ∧ Aside0 (spec_ThumbPlan.l0 kq a0 a4 x12_2 x13_2 l3 (l3.length : Int) x40_2 = some (r1, r2)) ∧ Aside0 (kq ≤ kj5) ∧ Aside0 (Kd.R (Kd.int .u8) 5 w' w.heap.size (fun _ => True) v273 x12_2) ∧ Aside0 (Below w.heap.size w w'))
            case atStart => exact ⟨(y272), (0), (0), (by first | rfl | (simp; done) | (simp [*]; done)), (by first | rfl | (simp; done) | (simp [*]; done)), H', ⟨Nat.le_refl _⟩, ⟨by (with_reducible repeat (first | apply Kd.R_alloc | apply Kd.R_drewN | apply Kd.R_drew)); exact HO274.out⟩, ⟨by repeat (first | (with_reducible first | exact HB.out | apply below_alloc | apply pw_below_drewN | apply below_drew1) | exact HB.out)⟩⟩
            case round =>
              clear H'
              try clear c1
              try clear p1
              try clear q1
              try clear hx1
              try clear qi1
              try clear c2
              try clear p2
              try clear c3
              try clear c8
              try clear c9
              try clear c9b0
              try clear c9b1
              try clear c9b2
              try clear c11
              try clear c12
              try clear c12b0
              try clear c12b1
              try clear p13
              try clear q13
              try clear hx13
              try clear qi13
              try clear c14
              try clear c14b0
              try clear c14b1
              try clear p15
              try clear q15
              try clear hx15
              try clear qi15
              try clear p13
              try clear p15
              try clear p2
              try clear q13
              try clear q15
              obtain ⟨x12_2, x13_2, x40_2, rfl, rfl, HA, HK2, HO_12, HB⟩ := hrel
              cases gk with
              | zero => exact absurd HA.out (by simp [spec_ThumbPlan.l0])
              | succ k2 =>
                have H := HA.out
                clear HA
                simp only [spec_ThumbPlan.l0] at H
                by_cases c19 : x40_2 < (l3.length : Int)
                · rw [if_pos c19] at H
                  have c19b0 : decide (x40_2 < (l3.length : Int)) = true := decide_eq_true c19
                  clear c19
                  by_cases c20 : 0 ≤ x40_2
                  · rw [if_pos c20] at H
                    have c20b0 : decide (0 ≤ x40_2) = true := decide_eq_true c20
                    clear c20
                    by_cases c21 : x40_2 < (l3.length : Int)
                    · rw [if_pos c21] at H
                      have c21b0 : decide (x40_2 < (l3.length : Int)) = true := decide_eq_true c21
                      clear c21
                      by_cases c22 : 0 ≤ (rd l3 x40_2)
                      · rw [if_pos c22] at H
                        have c22b0 : decide (0 ≤ (rd l3 x40_2)) = true := decide_eq_true c22
                        clear c22
                        by_cases c23 : (rd l3 x40_2) < (x12_2.length : Int)
                        · rw [if_pos c23] at H
                          have c23b0 : decide ((rd l3 x40_2) < (x12_2.length : Int)) = true := decide_eq_true c23
                          clear c23
                          by_cases c24 : x40_2 < (a0.size : Int)
                          · rw [if_pos c24] at H
                            have c24b0 : decide (x40_2 < (a0.size : Int)) = true := decide_eq_true c24
                            clear c24
                            replace H := Option.bind_eq_some_iff.mp H
                            obtain ⟨t277, A260, H⟩ := H
                            replace H : (spec_ThumbPlan.l0 k2 a0 a4 (x12_2.set ((rd l3 x40_2) : Int).toNat (bt a0 x40_2)) (wrap64 (x13_2 + t277)) l3 (l3.length : Int) (wrap64 (x40_2 + 1))) = some (r1, r2) := H
                            have A26 := Aside0.mk A260
                            clear A260
                            obtain ⟨y278, hy278⟩ : ∃ y_ : List Int, y_ = (x12_2.set ((rd l3 x40_2) : Int).toNat (bt a0 x40_2)) := ⟨_, rfl⟩
                            replace H : (spec_ThumbPlan.l0 k2 a0 a4 y278 (wrap64 (x13_2 + t277)) l3 (l3.length : Int) (wrap64 (x40_2 + 1))) = some (r1, r2) := by first | (rw [hy278]; with_reducible exact H) | (have H2_ := (Option.bind_some _ _).symm.trans H; rw [hy278]; with_reducible exact H2_) | (have H2_ := (Option.bind_some _ _).symm.trans H; with_reducible exact H2_) | with_reducible exact H | (rw [hy278]; exact H) | exact H
                            have Ny278 := Aside0.mk hy278
                            clear hy278
                            have H' := Aside0.mk H
                            clear H
                            have p275 : 0 ≤ (x40_2 : Int) := of_decide_eq_true (by first | (with_reducible assumption) | assumption)
                            have q275 : x40_2 < (l3.length : Int) := of_decide_eq_true (by first | (with_reducible assumption) | assumption)
                            obtain ⟨ad275, e275, hx275_0⟩ := Kd.at_int HR3.out x40_2 p275 q275
                            cases e275
                            replace hx275_0 := (HB.out.cell (World.block_lt_of_cell? w _ hx275_0)).trans hx275_0
                            replace p275 := eq_true p275
                            replace q275 := eq_true q275
                            try go_wp2
                            have n0_ := Aside0.mk (Kd.R_drew HO_12.out)
                            have n1_ := Aside0.mk (below_drew1 HB.out)
                            clear HO_12
                            clear HB
                            have HO_12 := n0_
                            have HB := n1_
                            clear n0_ n1_
                            obtain ⟨Ao30, co30, eo30⟩ := Kd.R_slice HO_12.out
                            (first | subst eo30 | (injection eo30 with f1_ f2_ f3_; have f4_ := f1_.symm; have f5_ := f3_.symm; clear f1_ f2_ f3_; subst f4_; subst f5_))
                            have p276 : 0 ≤ ((rd l3 x40_2) : Int) := of_decide_eq_true (by first | (with_reducible assumption) | assumption)
                            have q276 : (rd l3 x40_2) < (x12_2.length : Int) := of_decide_eq_true (by first | (with_reducible assumption) | assumption)
                            (try (obtain ⟨Aq_, cq_, eq_⟩ := Kd.R_slice HO_12.out; subst eq_))
                            obtain ⟨ad276, e276, hx276_0⟩ := Kd.at_int (Kd.R_reads' HO_12.out).2.2 (rd l3 x40_2) p276 q276
                            cases e276
                            replace p276 := eq_true p276
                            replace q276 := eq_true q276
                            have p25 : 0 ≤ (x40_2 : Int) := of_decide_eq_true (by first | (with_reducible assumption) | assumption)
                            have q25 : x40_2 < (a0.size : Int) := of_decide_eq_true (by first | (with_reducible assumption) | assumption)
                            have hx25 := bt_at a0 x40_2
                            replace p25 := eq_true p25
                            replace q25 := eq_true q25
                            refine start_ (n := 12) (S := fun w' => w'.cell? (ad276.add ((rd l3 x40_2)).toNat) = some (.int .u8 (rd x12_2 (rd l3 x40_2)))) (ds := []) #[false, false, false, false, false, false, false, false, false, false, false, false] (by kernel_rfl) rfl rfl (hx276_0) (fun hHeld => ?_); refine with_tabW spec_ThumbPlan.tab8 spec_ThumbPlan.bits8 (fun HT_ HW_ => ?_)
                            generalize wr.drew = w29 at HO_12 HB hx276_0 hHeld ⊢
                            refine pure_ (i := 0) (N := some 45) (v := ?_) (a' := ?_) #[true, false, false, false, false, false, false, false, false, false, false, false] rfl rfl (any_of HT_.out (by kernel_rfl)) (fun _ _ _ h => h) (Or.inl ⟨by rfl, ?_⟩) ?_ ?_
                            rotate_left
                            · intro w'
                              go_simp
                              with_reducible rfl
                            rotate_left
                            · simp only [Act.put, List.setIfInBounds_toArray, List.set_cons_zero, List.set_cons_succ, i64_w, i32_w]
                              rfl
                            refine pure_ (i := 1) (N := some 46) (v := ?_) (a' := ?_) #[true, true, false, false, false, false, false, false, false, false, false, false] rfl rfl (any_of HT_.out (by kernel_rfl)) (fun _ _ _ h => h) (Or.inl ⟨by rfl, ?_⟩) ?_ ?_
                            rotate_left
                            · intro w'
                              go_simp
                              with_reducible rfl
                            rotate_left
                            · simp only [Act.put, List.setIfInBounds_toArray, List.set_cons_zero, List.set_cons_succ, i64_w, i32_w]
                              rfl
                            refine pure_ (i := 2) (N := some 47) (v := ?_) (a' := ?_) #[true, true, true, false, false, false, false, false, false, false, false, false] rfl rfl (any_of HT_.out (by kernel_rfl)) (fun _ _ _ h => h) (Or.inl ⟨by rfl, ?_⟩) ?_ ?_
                            rotate_left
                            · intro w'
                              go_simp
                              with_reducible rfl
                            rotate_left
                            · simp only [Act.put, List.setIfInBounds_toArray, List.set_cons_zero, List.set_cons_succ, i64_w, i32_w]
                              rfl
                            refine pure_ (i := 3) (N := some 48) (v := ?_) (a' := ?_) #[true, true, true, true, false, false, false, false, false, false, false, false] rfl rfl (any_of HT_.out (by kernel_rfl)) (fun _ _ _ h => h) (Or.inl ⟨by rfl, ?_⟩) ?_ ?_
                            rotate_left
                            · intro w'
                              go_simp
                              with_reducible rfl
                            rotate_left
                            · simp only [Act.put, List.setIfInBounds_toArray, List.set_cons_zero, List.set_cons_succ, i64_w, i32_w]
                              rfl
                            refine pure_ (i := 5) (N := some 50) (v := ?_) (a' := ?_) #[true, true, true, true, false, true, false, false, false, false, false, false] rfl rfl (any_of HT_.out (by kernel_rfl)) (fun _ _ _ h => h) (Or.inl ⟨by rfl, ?_⟩) ?_ ?_
                            rotate_left
                            · intro w'
                              go_simp
                              with_reducible rfl
                            rotate_left
                            · simp only [Act.put, List.setIfInBounds_toArray, List.set_cons_zero, List.set_cons_succ, i64_w, i32_w]
                              rfl
                            refine pure_ (i := 6) (N := some 51) (v := ?_) (a' := ?_) #[true, true, true, true, false, true, true, false, false, false, false, false] rfl rfl (any_of HT_.out (by kernel_rfl)) (fun _ _ _ h => h) (Or.inl ⟨by rfl, ?_⟩) ?_ ?_
                            rotate_left
                            · intro w'
                              go_simp
                              with_reducible rfl
                            rotate_left
                            · simp only [Act.put, List.setIfInBounds_toArray, List.set_cons_zero, List.set_cons_succ, i64_w, i32_w]
                              rfl
                            refine pure_ (i := 8) (N := some 53) (v := ?_) (a' := ?_) #[true, true, true, true, false, true, true, false, true, false, false, false] rfl rfl (any_of HT_.out (by kernel_rfl)) (fun _ _ _ h => h) (Or.inl ⟨by rfl, ?_⟩) ?_ ?_
                            rotate_left
                            · intro w'
                              go_simp
                              with_reducible rfl
                            rotate_left
                            · simp only [Act.put, List.setIfInBounds_toArray, List.set_cons_zero, List.set_cons_succ, i64_w, i32_w]
                              rfl
                            refine take_ (i := 4) (N := some 49) (v := ?_) (a' := ?_) #[true, true, true, true, true, true, true, false, true, false, false, false] rfl rfl (take_ofW HT_.out HW_.out (by kernel_rfl)) (fun _ _ _ h => h) (Or.inl ⟨by rfl, ?_⟩) hHeld ?_ ?_
                            rotate_left
                            · intro w' s0
                              go_simp
                              with_reducible rfl
                            rotate_left
                            · simp only [Act.put, List.setIfInBounds_toArray, List.set_cons_zero, List.set_cons_succ, i64_w, i32_w]
                              rfl
                            refine take_ (i := 7) (N := some 52) (v := ?_) (a' := ?_) #[true, true, true, true, true, true, true, true, true, false, false, false] rfl rfl (take_ofW HT_.out HW_.out (by kernel_rfl)) (fun _ _ _ h => h) (Or.inl ⟨by rfl, ?_⟩) hHeld ?_ ?_
                            rotate_left
                            · intro w' s0
                              go_simp
                              with_reducible rfl
                            rotate_left
                            · simp only [Act.put, List.setIfInBounds_toArray, List.set_cons_zero, List.set_cons_succ, i64_w, i32_w]
                              rfl
                            refine one_ (i := 9) (N := some 54) #[true, true, true, true, true, true, true, true, true, true, false, false] rfl rfl (one_of HT_.out (by kernel_rfl)) (by decide) (fun K hK => ?_)
                            refine goes_ Tryz.func40 (by kernel_rfl) rfl #[.int .u8 (rd x12_2 (rd l3 x40_2)), .int .u8 (bt a0 x40_2), .bool a4] (by rfl) rfl rfl (by (try simp only [List.map_toArray, List.map_cons, List.map_nil]); first | done | rfl | (simp only [List.length_drop, List.length_take]; rfl)) ?_
                            with_reducible refine (spec_thFar.calls k2 (rd x12_2 (rd l3 x40_2)) (bt a0 x40_2) a4 t277 _ A26.out).mono ?_
                            rintro e w' ⟨rfl, ⟨nd, rfl⟩⟩
                            refine ⟨_, rfl, ?_⟩
                            refine hK.out _ _ (hHeld) (fun hHeld => ?_)
                            clear hK K
                            refine norm_ (a' := ?_) ?_ ?_
                            rotate_left
                            · show Act.put _ (some 54) _ = _
                              simp only [Act.put, List.setIfInBounds_toArray, List.set_cons_zero, List.set_cons_succ, i64_w, i32_w]
                              rfl
                            refine pure_ (i := 10) (N := some 55) (v := ?_) (a' := ?_) #[true, true, true, true, true, true, true, true, true, true, true, false] rfl rfl (any_of HT_.out (by kernel_rfl)) (fun _ _ _ h => h) (Or.inl ⟨by rfl, ?_⟩) ?_ ?_
                            rotate_left
                            · intro w'
                              go_simp
                              with_reducible rfl
                            rotate_left
                            · simp only [Act.put, List.setIfInBounds_toArray, List.set_cons_zero, List.set_cons_succ, i64_w, i32_w]
                              rfl
                            refine pure_ (i := 11) (N := some 13) (v := ?_) (a' := ?_) #[true, true, true, true, true, true, true, true, true, true, true, true] rfl rfl (any_of HT_.out (by kernel_rfl)) (fun _ _ _ h => h) (Or.inl ⟨by rfl, ?_⟩) ?_ ?_
                            rotate_left
                            · intro w'
                              go_simp
                              with_reducible rfl
                            rotate_left
                            · simp only [Act.put, List.setIfInBounds_toArray, List.set_cons_zero, List.set_cons_succ, i64_w, i32_w]
                              rfl
                            refine done_ (done_of HT_.out (by kernel_rfl)) ?_
                            (try (rw [drewN_self w29]; generalize hq_ : World.drewN w29 _ = w29; have n0_ : Aside0 (Kd.R (Kd.int .u8) 5 w29 w.heap.size (fun _ => True) (.slice (some ad276) x12_2.length co30) x12_2) := ⟨by rw [← hq_]; exact (by (with_reducible repeat (first | apply Kd.R_alloc | apply Kd.R_drewN | apply Kd.R_drew)); exact HO_12.out)⟩; have n1_ : Aside0 (Below w.heap.size w w29) := ⟨by rw [← hq_]; exact (by repeat (first | (with_reducible first | exact HB.out | apply below_alloc | apply pw_below_drewN | apply below_drew1) | exact HB.out))⟩; clear HO_12 HB hq_; have HO_12 := n0_; have HB := n1_; clear n0_ n1_))
                            have p27 : 0 ≤ (x40_2 : Int) := of_decide_eq_true (by first | (with_reducible assumption) | assumption)
                            have q27 : x40_2 < (a0.size : Int) := of_decide_eq_true (by first | (with_reducible assumption) | assumption)
                            have hx27 := bt_at a0 x40_2
                            replace p27 := eq_true p27
                            replace q27 := eq_true q27
                            have p28 : 0 ≤ ((rd l3 x40_2) : Int) := of_decide_eq_true (by first | (with_reducible assumption) | assumption)
                            have q28 : ((rd l3 x40_2) : Int) < ((x12_2.length : Int) : Int) := of_decide_eq_true (by first | (with_reducible assumption) | assumption)
                            obtain ⟨go28, co28, eo28, gb28, gl28, cl28, HG28⟩ := Kd.R_form HO_12.out (by omega)
                            (first | cases eo28 | (injection eo28 with ea_ en_ ec_; (first | subst ea_ | (injection ea_ with ea_; subst ea_)); subst ec_; clear en_))
                            have GB28 := Aside0.mk gb28
                            have GG28 := Aside0.mk HG28
                            clear gb28 gl28 HG28
                            (first | simp only [add_plain] at hx276_0 | skip)
                            obtain ⟨hx28_0, hf28_0⟩ := Kd.R_celln 0 HO_12.out ((rd l3 x40_2) : Int) p28 q28
                            replace p28 := eq_true p28
                            replace q28 := eq_true q28
                            obtain ⟨hy31_, hz31_⟩ := Kd.R_celln 0 HO_12.out ((rd l3 x40_2) : Int) (of_decide_eq_true (by first | (with_reducible assumption) | assumption)) (of_decide_eq_true (by first | (with_reducible assumption) | assumption))
                            have HP31 := Kd.R_putg HO_12.out ((rd l3 x40_2) : Int) (bt a0 x40_2)
                            try go_wp2_with (first | ((with_reducible refine gate_store (t := 5) (p := 61) rfl ?_); refine store_event (t := 5) (p := 61) (v := ?vo_w32) (w1 := (w29.setCell ⟨go28, ((rd l3 x40_2) : Int).toNat, none⟩ (.int .u8 (bt a0 x40_2)))) ?hg ?ho ?hn ?hr ?_; (case ho => rfl); (case hg => rfl); (case hn => rfl); (case hr => first | (go_simp; done) | (go_simp; rfl)); intro w32 hw; have hg : w29.grownBy w32 (some go28) := (by rw [hw]; exact HP31.2); have hp_ : Kd.R (Kd.int .u8) 5 w32 w.heap.size (fun _ => True) (.slice (some ⟨go28, 0, none⟩) x12_2.length co30) y278 := (by rw [hw, Ny278.out]; exact HP31.1); clear HP31; have n0_ := Aside0.mk (hp_); have n1_ := Aside0.mk ((by rw [hw]; exact below_set (HB.out) GB28.out : Below w.heap.size w w32)); clear HO_12; clear HB; have HO_12 := n0_; have HB := n1_; clear n0_ n1_; clear hg hw hp_))
                            go_roundg k2
                            case measure => have := HJ5.out; have := HK2.out; omega
                            case rel => exact ⟨(y278), (wrap64 (x13_2 + t277)), (wrap64 (x40_2 + 1)), (by first | rfl | (simp; done) | (simp [*]; done)), (by first | rfl | (simp; done) | (simp [*]; done)), H', ⟨by have := HJ5.out; have := HK2.out; omega⟩, ⟨by (with_reducible repeat (first | apply Kd.R_alloc | apply Kd.R_drewN | apply Kd.R_drew)); exact HO_12.out⟩, ⟨by repeat (first | (with_reducible first | exact HB.out | apply below_alloc | apply pw_below_drewN | apply below_drew1) | exact HB.out)⟩⟩
                          · rw [if_neg c24] at H
                            exact absurd H (by simp)
                        · rw [if_neg c23] at H
                          exact absurd H (by simp)
                      · rw [if_neg c22] at H
                        exact absurd H (by simp)
                    · rw [if_neg c21] at H
                      exact absurd H (by simp)
                  · rw [if_neg c20] at H
                    exact absurd H (by simp)
                · rw [if_neg c19] at H
                  have c19b0 : decide (x40_2 < (l3.length : Int)) = false := decide_eq_false c19
                  clear c19
                  simp only [Option.some.injEq, Prod.mk.injEq] at H
                  obtain ⟨rfl, rfl⟩ := H
                  go_wp2
                  go_ret2
                  exact ⟨by first | rfl | (simp [errW_none, errW_some] <;> rfl) | (simp [*, errW_none, errW_some] <;> rfl), by repeat (first | (with_reducible first | exact HB.out | apply below_alloc | apply pw_below_drewN | apply below_drew1) | exact HB.out)⟩
          · rw [if_neg c14] at H
            exact absurd H (by simp)
        · rw [if_neg c12] at H
          exact absurd H (by simp)
end Go.Proofs.YtldnddehmpbbpaaGreatDoor.P
end

section
namespace Go.Proofs.YtldnddehmpbbpaaGreatDoor.P
open Go.RowKit Go.Proofs.YtldnddehmpbbpaaGreatDoorW.PrintWords Go.Proofs.YtldnddehmpbbpaaGreatDoorW.PrintLast Go.Proofs.YtldnddehmpbbpaaGreatDoorW.PrintMore
attribute [local go_sem] max2_int min2_int max_two min_two max_three min_three max_four min_four   -- for this text's walks alone
set_option linter.unusedVariables false
set_option linter.unusedSimpArgs false
def spec_DrawMovesOf.f (k : Nat) (l0 : List Int) : Option (ByteArray × ByteArray) := (spec_l1Cur_dialed.f k l0 0 0).bind fun b1 => (spec_l1Cur_key.f l0 b1.2.1 b1.2.2).bind fun b2 => some (b1.1, b2.1)
theorem spec_DrawMovesOf.mono : ∀ l0 k, LeO (spec_DrawMovesOf.f k l0) (spec_DrawMovesOf.f (k + 1) l0) := by
  intro l0 k
  unfold spec_DrawMovesOf.f
  repeat' first
      | (with_reducible exact spec_l1Cur_dialed.mono _ _ _ _)
      | (with_reducible exact LeO.refl _)
      | (with_reducible refine LeO.bind ?_ (fun _ => ?_))
      | exact LeO.refl _
      | refine LeO.bind ?_ (fun _ => ?_)
set_option maxHeartbeats 8000000 in
set_option maxRecDepth 100000 in
theorem spec_DrawMovesOf.calls (k : Nat) (A0 : Option Addr) (c0 : Nat) (l0 : List Int) (r1 : ByteArray) (r2 : ByteArray) (w : World) (hr0 : Kd.C (Kd.int .u8) w A0 l0.length l0) (hc0 : l0.length ≤ c0) (h : spec_DrawMovesOf.f k l0 = some (r1, r2)) :
    Calls Tryz.prog 23 #[.slice A0 l0.length c0] w fun e w' => e = .returned (.tuple #[.string r1, .string r2]) ∧ Below w.heap.size w w' := by
  unfold spec_DrawMovesOf.f at h
  obtain ⟨⟨x1, p1, q1⟩, h1, h⟩ := Option.bind_eq_some_iff.1 h
  obtain ⟨⟨x2, p2, q2⟩, h2, h⟩ := Option.bind_eq_some_iff.1 h
  simp only [Option.some.injEq, Prod.mk.injEq] at h
  obtain ⟨rfl, rfl⟩ := h
  have HI := Aside0.mk (IsS80.new w w A0 c0 l0 0 0 (Below.refl _ _) hr0)
  have HB := Aside0.mk (below_alloc (Below.refl w.heap.size w) (.cells #[.slice A0 l0.length c0, .int .i64 0, .int .u64 0] 80))
  have H1 := Aside0.mk h1
  have H2 := Aside0.mk h2
  clear h1 h2 hr0
  have hu := Tryz.underlying80
  go_enter Tryz.func23, Tryz.ntmps23
  go_wp2_with (first | (go_at_call 52; with_reducible refine (spec_l1Cur_dialed.calls k _ l0 0 0 x1 p1 q1 w _ HI.out HB.out H1.out).mono ?_; rintro e w2 ⟨rfl, hI1, hB1, _⟩) | (go_at_call 53; with_reducible refine (spec_l1Cur_key.calls _ l0 p1 q1 x2 p2 q2 w _ hI1 hB1 H2.out).mono ?_; rintro e w3 ⟨rfl, hI2, hB2, _⟩))
  go_ret2
  exact ⟨rfl, hB2⟩
end Go.Proofs.YtldnddehmpbbpaaGreatDoor.P
end

section
namespace Go.Proofs.YtldnddehmpbbpaaGreatDoor.P
open Go.RowKit Go.Proofs.YtldnddehmpbbpaaGreatDoorW.PrintWords Go.Proofs.YtldnddehmpbbpaaGreatDoorW.PrintLast Go.Proofs.YtldnddehmpbbpaaGreatDoorW.PrintMore
attribute [local go_sem] max2_int min2_int max_two min_two max_three min_three max_four min_four   -- for this text's walks alone
set_option linter.unusedVariables false
set_option linter.unusedSimpArgs false
def strings_Repeat.f (a0 : ByteArray) (a1 : Int) : Option (ByteArray) := if 0 ≤ a1 then (if a1 ≤ 1000000 then (if a0.size ≤ 1000000 then (some ⟨(Lib.repeatL a0.data.toList a1.toNat).toArray⟩) else (none)) else (none)) else (none)
theorem strings_Repeat.calls (a0 : ByteArray) (a1 : Int) (r : ByteArray) (w : World) (h : strings_Repeat.f a0 a1 = some r) :
    Calls Tryz.prog 77 #[.string a0, .int .i64 a1] w fun e w' => e = .returned (.string r) ∧ Below w.heap.size w w' := by
  unfold strings_Repeat.f at h
  split at h
  · rename_i h0
    split at h
    · rename_i h1
      split at h
      · rename_i h2
        obtain rfl := Option.some.inj h
        exact Go.Proofs.YtldnddehmpbbpaaGreatDoor.Bld.repeat_ a0 a1 w h0 h1 h2
      · cases h
    · cases h
  · cases h
end Go.Proofs.YtldnddehmpbbpaaGreatDoor.P
end

section
namespace Go.Proofs.YtldnddehmpbbpaaGreatDoor.P
open Go.RowKit Go.Proofs.YtldnddehmpbbpaaGreatDoorW.PrintWords Go.Proofs.YtldnddehmpbbpaaGreatDoorW.PrintLast Go.Proofs.YtldnddehmpbbpaaGreatDoorW.PrintMore
attribute [local go_sem] max2_int min2_int max_two min_two max_three min_three max_four min_four   -- for this text's walks alone
set_option linter.unusedVariables false
set_option linter.unusedSimpArgs false
def impl_repeated.f (a0 : ByteArray) (a1 : ByteArray) (a2 : Int) : Option (ByteArray) := if a2 < 0 then ((strings_Repeat.f a0 (wrap64 (-a2))).bind fun t279 => (some t279)) else ((strings_Repeat.f a1 a2).bind fun t280 => (some t280))
set_option maxHeartbeats 8000000 in
set_option maxRecDepth 100000 in
theorem impl_repeated.calls (a0 : ByteArray) (a1 : ByteArray) (a2 : Int) (r : ByteArray) (w : World) (h : impl_repeated.f a0 a1 a2 = some r) :
    Calls Tryz.prog 61 #[.string a0, .string a1, .int .i64 a2] w fun e w' => e = .returned (.string r) ∧ Below w.heap.size w w' := by
  have HB := Aside0.mk (Below.refl w.heap.size w)
  have H : (if a2 < 0 then ((strings_Repeat.f a0 (wrap64 (-a2))).bind fun t279 => (some t279)) else ((strings_Repeat.f a1 a2).bind fun t280 => (some t280))) = some r := h
  clear h
  by_cases c4 : a2 < 0
  · rw [if_pos c4] at H
    have c4b0 : decide (a2 < 0) = true := decide_eq_true c4
    clear c4
    replace H := Option.bind_eq_some_iff.mp H
    obtain ⟨t279, A50, H⟩ := H
    replace H : (some t279) = some r := H
    have A5 := Aside0.mk A50
    clear A50
    obtain rfl := Option.some.inj H
    go_enter Tryz.func61, Tryz.ntmps61
    go_wp2_with (first | ((with_reducible refine gate_callee (f := 77) rfl ?_); refine goesL_ (some 12) rfl rfl Tryz.func77 (by kernel_rfl) rfl #[.string a0, .int .i64 (wrap64 (-a2))] rfl (by (try simp only [List.map_toArray, List.map_cons, List.map_nil]); first | done | rfl | (simp only [List.length_drop, List.length_take]; rfl)) ?_; (with_reducible refine (strings_Repeat.calls a0 (wrap64 (-a2)) t279 _ A5.out).mono ?_); rintro e w6 ⟨rfl, hb⟩; refine ⟨_, rfl, ?_⟩; have n0_ := Aside0.mk (below_step (by repeat (first | (with_reducible first | exact HB.out | apply below_alloc | apply pw_below_drewN | apply below_drew1) | exact HB.out)) hb); clear HB; have HB := n0_; clear n0_; (try clear hb); (try clear hb2); (try clear hk); (try clear hi)))
    go_ret
    exact ⟨by first | rfl | (simp [errW_none, errW_some] <;> rfl) | (simp [*, errW_none, errW_some] <;> rfl), by repeat (first | (with_reducible first | exact HB.out | apply below_alloc | apply pw_below_drewN | apply below_drew1) | exact HB.out)⟩
  · rw [if_neg c4] at H
    have c4b0 : decide (a2 < 0) = false := decide_eq_false c4
    clear c4
    replace H := Option.bind_eq_some_iff.mp H
    obtain ⟨t280, A70, H⟩ := H
    replace H : (some t280) = some r := H
    have A7 := Aside0.mk A70
    clear A70
    obtain rfl := Option.some.inj H
    go_enter Tryz.func61, Tryz.ntmps61
    go_wp2_with (first | ((with_reducible refine gate_callee (f := 77) rfl ?_); refine goesL_ (some 15) rfl rfl Tryz.func77 (by kernel_rfl) rfl #[.string a1, .int .i64 a2] rfl (by (try simp only [List.map_toArray, List.map_cons, List.map_nil]); first | done | rfl | (simp only [List.length_drop, List.length_take]; rfl)) ?_; (with_reducible refine (strings_Repeat.calls a1 a2 t280 _ A7.out).mono ?_); rintro e w8 ⟨rfl, hb⟩; refine ⟨_, rfl, ?_⟩; have n0_ := Aside0.mk (below_step (by repeat (first | (with_reducible first | exact HB.out | apply below_alloc | apply pw_below_drewN | apply below_drew1) | exact HB.out)) hb); clear HB; have HB := n0_; clear n0_; (try clear hb); (try clear hb2); (try clear hk); (try clear hi)))
    go_ret
    exact ⟨by first | rfl | (simp [errW_none, errW_some] <;> rfl) | (simp [*, errW_none, errW_some] <;> rfl), by repeat (first | (with_reducible first | exact HB.out | apply below_alloc | apply pw_below_drewN | apply below_drew1) | exact HB.out)⟩
end Go.Proofs.YtldnddehmpbbpaaGreatDoor.P
end

section
namespace Go.Proofs.YtldnddehmpbbpaaGreatDoor.P
open Go.RowKit Go.Proofs.YtldnddehmpbbpaaGreatDoorW.PrintWords Go.Proofs.YtldnddehmpbbpaaGreatDoorW.PrintLast Go.Proofs.YtldnddehmpbbpaaGreatDoorW.PrintMore
attribute [local go_sem] max2_int min2_int max_two min_two max_three min_three max_four min_four   -- for this text's walks alone
set_option linter.unusedVariables false
set_option linter.unusedSimpArgs false
def impl_MovesOf.go : List Int → Int → List UInt8 → Option (List UInt8)
  | [], _, out => some out
  | q :: L, p, out => (impl_repeated.f (⟨#[108]⟩ : ByteArray) (⟨#[114]⟩ : ByteArray) (wrap64 (Int.tmod q 3 - Int.tmod p 3))).bind fun x => (impl_repeated.f (⟨#[117]⟩ : ByteArray) (⟨#[100]⟩ : ByteArray) (wrap64 (wrap64 (Int.tdiv q 3) - wrap64 (Int.tdiv p 3)))).bind fun y => (if x.size ≤ 1000000 then (if y.size ≤ 1000000 then (if out.length ≤ 1000000 then (impl_MovesOf.go L q (out ++ ((x ++ y) ++ (⟨#[46]⟩ : ByteArray)).data.toList)) else (none)) else (none)) else (none))
def impl_MovesOf.f (k : Nat) (a0 : ByteArray) (a1 : ByteArray) : Option (ByteArray × Bool) := (impl_IsDialed.f a0).bind fun b => (if b = true then ((impl_isKey.f a1).bind fun c => (if c = true then (if 0 < a1.size then ((impl_place.f (bt a1 0)).bind fun p => ((impl_places.f k a0).bind fun L => (if L.length ≤ 1000000 then ((impl_MovesOf.go L p []).bind fun o => some (⟨o.toArray⟩, true)) else (none)))) else (none)) else (some ((⟨#[]⟩ : ByteArray), false)))) else (some ((⟨#[]⟩ : ByteArray), false)))
theorem impl_MovesOf.mono : ∀ a0 a1 k, LeO (impl_MovesOf.f k a0 a1) (impl_MovesOf.f (k + 1) a0 a1) := by
  intro a0 a1 k r h
  unfold impl_MovesOf.f at h ⊢
  obtain ⟨b, hb, h⟩ := Option.bind_eq_some_iff.1 h
  rw [hb, Option.bind_some]
  split at h
  · rename_i h0
    rw [if_pos h0]
    obtain ⟨c, hc, h⟩ := Option.bind_eq_some_iff.1 h
    rw [hc, Option.bind_some]
    split at h
    · rename_i h1
      rw [if_pos h1]
      split at h
      · rename_i h2
        rw [if_pos h2]
        obtain ⟨p, hp, h⟩ := Option.bind_eq_some_iff.1 h
        rw [hp, Option.bind_some]
        obtain ⟨L, hL, h⟩ := Option.bind_eq_some_iff.1 h
        rw [impl_places.mono a0 k L hL, Option.bind_some]
        exact h
      · cases h
    · rename_i h1
      rw [if_neg h1]
      exact h
  · rename_i h0
    rw [if_neg h0]
    exact h
def impl_MovesOf.Row (B : Nat) (A : Option Addr) (L : List Int) (W : World) : Prop := L = [] ∨ ∃ g cur, A = some ⟨g, 0, none⟩ ∧ B < g ∧ W.heap[g]? = some (.cells cur 3 (0, 0)) ∧ ∀ t : Nat, t < L.length → cur[t]? = some (.int .i64 (rd L (t : Int)))
theorem impl_MovesOf.Row_of {W : World} {B base : Nat} {A : Option Addr} {L : List Int} {c : Nat} (h : W.ownsRow base 3 1 (.slice A L.length c) L.length (encs (Value.int .i64) L)) (hb : B < base) : impl_MovesOf.Row B A L W := by
  rcases h.2 with ⟨hv, h0⟩ | ⟨g, cap, cur, hv, hbase, hg, h1, h2, h3, h4⟩
  · exact .inl (List.eq_nil_of_length_eq_zero h0)
  · injection hv with hA _ _
    refine .inr ⟨g, cur, hA, by omega, hg, fun t ht => ?_⟩
    rw [Nat.mul_one] at h4
    have h5 := congrArg (fun l => l[t]?) h4
    rw [List.getElem?_take_of_lt ht, Array.getElem?_toList] at h5
    rw [h5]
    simp [encs, rd, List.getElem?_eq_getElem ht, List.getD_eq_getElem?_getD]
theorem impl_MovesOf.Row_below {B : Nat} {A : Option Addr} {L : List Int} {W W' : World} (h : impl_MovesOf.Row B A L W) (hb : Below W.heap.size W W') : impl_MovesOf.Row B A L W' := by
  rcases h with h | ⟨g, cur, hA, hB, hg, hc⟩
  · exact .inl h
  · exact .inr ⟨g, cur, hA, hB, (hb.block g (Array.getElem?_eq_some_iff.1 hg).1).trans hg, hc⟩
theorem impl_MovesOf.Row_others {B : Nat} {A : Option Addr} {L : List Int} {W W' : World} (h : impl_MovesOf.Row B A L W) (hb : Lib.OthersKept 5 (some B) W W') : impl_MovesOf.Row B A L W' := by
  rcases h with h | ⟨g, cur, hA, hB, hg, hc⟩
  · exact .inl h
  · exact .inr ⟨g, cur, hA, hB, Go.Proofs.YtldnddehmpbbpaaGreatDoor.Bld.others_row hb hg (by omega) (by decide), hc⟩
theorem impl_MovesOf.Row_cell {B : Nat} {A : Option Addr} {L : List Int} {W : World} {t : Nat} (h : impl_MovesOf.Row B A L W) (ht : t < L.length) : ∃ g, A = some ⟨g, 0, none⟩ ∧ W.cell? ⟨g, t, none⟩ = some (.int .i64 (rd L (t : Int))) := by
  rcases h with h | ⟨g, cur, hA, hB, hg, hc⟩
  · subst h; cases ht
  · exact ⟨g, hA, (cell_of_row _ g t _ _ _ hg).trans (hc t ht)⟩
set_option maxHeartbeats 8000000 in
set_option maxRecDepth 100000 in
theorem impl_MovesOf.calls (k : Nat) (a0 : ByteArray) (a1 : ByteArray) (r1 : ByteArray) (r2 : Bool) (w : World) (h : impl_MovesOf.f k a0 a1 = some (r1, r2)) :
    Calls Tryz.prog 24 #[.string a0, .string a1] w fun e w' => e = .returned (.tuple #[.string r1, .bool r2]) ∧ Below w.heap.size w w' := by
  unfold impl_MovesOf.f at h
  obtain ⟨b, hb, h⟩ := Option.bind_eq_some_iff.1 h
  have hD := Aside0.mk (fun W => impl_IsDialed.calls a0 b W hb)
  clear hb
  cases b with
  | false =>
    rw [if_neg (by simp)] at h
    obtain ⟨rfl, rfl⟩ := Prod.mk.inj (Option.some.inj h)
    go_enter Tryz.func24, Tryz.ntmps24
    go_wp2_with (go_at_call 13; refine (hD.out _).mono ?_; rintro e w2 ⟨rfl, hb2⟩)
    go_ret2
    exact ⟨rfl, hb2⟩
  | true =>
    rw [if_pos rfl] at h
    obtain ⟨c, hc, h⟩ := Option.bind_eq_some_iff.1 h
    have hK := Aside0.mk (fun W => impl_isKey.calls a1 c W hc)
    clear hc
    cases c with
    | false =>
      rw [if_neg (by simp)] at h
      obtain ⟨rfl, rfl⟩ := Prod.mk.inj (Option.some.inj h)
      go_enter Tryz.func24, Tryz.ntmps24
      go_wp2_with (first
        | (go_at_call 13; refine (hD.out _).mono ?_; rintro e w2 ⟨rfl, hb2⟩)
        | (go_at_call 47; refine (hK.out _).mono ?_; rintro e w3 ⟨rfl, hb3⟩))
      go_ret2
      exact ⟨rfl, below_step hb2 hb3⟩
    | true =>
      rw [if_pos rfl] at h
      split at h
      · rename_i hpos
        obtain ⟨p, hp, h⟩ := Option.bind_eq_some_iff.1 h
        obtain ⟨L, hL, h⟩ := Option.bind_eq_some_iff.1 h
        split at h
        · rename_i hLl
          obtain ⟨o, ho, h⟩ := Option.bind_eq_some_iff.1 h
          have h' := Option.some.inj h
          obtain ⟨rfl, rfl⟩ := Prod.mk.inj h'
          have HP := Aside0.mk (fun W => impl_place.calls (bt a1 0) p W hp)
          have HL := Aside0.mk (fun W => impl_places.calls k a0 L W hL)
          have HG := Aside0.mk ho
          clear h h' hp hL ho
          have hposz : (0 : Int) < (a1.size : Int) := by omega
          have hx0 : ∀ h : 0 < a1.size, ((a1[0]'h).toNat : Int) = bt a1 0 := bt_at a1 0
          generalize bt a1 0 = c0 at *
          go_enter Tryz.func24, Tryz.ntmps24
          go_wp2_with (first
            | (go_at_call 13; refine (hD.out _).mono ?_; rintro e w2 ⟨rfl, hb2⟩)
            | (go_at_call 47; refine (hK.out _).mono ?_; rintro e w3 ⟨rfl, hb3⟩)
            | (go_at_call 49; refine (HP.out _).mono ?_; rintro e w4 ⟨rfl, hd4⟩; have hb4 := hd4.below; clear hd4)
            | (go_at_call 46; refine (HL.out _).mono ?_; rintro e w5 ⟨v5, rfl, hR5, hb5⟩; obtain ⟨A5, c5, rfl⟩ := Kd.R_slice hR5))
          have hsz4 : (w4.alloc (Obj.cells #[Value.pointer none, Value.slice none 0 0] 87)).heap.size = w4.heap.size + 1 := by simp
          have HI0 := Aside0.mk (Go.Proofs.YtldnddehmpbbpaaGreatDoor.Bld.below (Go.Proofs.YtldnddehmpbbpaaGreatDoor.Bld.fresh 87 5 w4) hb5)
          have HR0 := Aside0.mk (impl_MovesOf.Row_of (B := w4.heap.size) (Kd.own_of_R hR5) (by omega))
          have HB0 := Aside0.mk (below_step (below_alloc (below_step (below_step hb2 hb3) hb4) _) hb5)
          have HS0 : Aside0 (w4.heap.size ≤ w5.heap.size) := ⟨by have := hb5.size; omega⟩
          have hwB : w.heap.size ≤ w4.heap.size := (below_step (below_step hb2 hb3) hb4).size
          clear hR5 hb5 hb2 hb3 hb4 hsz4 HL HP hD hK
          generalize w4.heap.size = B at *
          go_loopg [7, 25] L.length (fun gg s7 s25 wr => ∃ (t : Nat) (q : Int) (out : List UInt8), s7 = .int .i64 q ∧ s25 = .int .i64 t ∧ t + gg = L.length ∧ Aside0 (impl_MovesOf.go (L.drop t) q out = some o) ∧ Aside0 (Lib.IsBuilderF 87 5 B B (Lib.byteCells out) wr) ∧ Aside0 (impl_MovesOf.Row B A5 L wr) ∧ Aside0 (Below w.heap.size w wr) ∧ Aside0 (B ≤ wr.heap.size))
          case atStart => exact ⟨0, p, [], rfl, rfl, by omega, by rw [List.drop_zero]; exact HG, HI0, HR0, HB0, HS0⟩
          case round =>
            obtain ⟨t, q, out, rfl, rfl, ht, HO, HI, HRw, HB, HS⟩ := hrel
            by_cases hlt : t < L.length
            · obtain ⟨d, rfl⟩ : ∃ d, gk = d + 1 := ⟨gk - 1, by omega⟩
              have hL := HO.out
              have hdr : L.drop t = rd L (t : Int) :: L.drop (t + 1) := by
                rw [List.drop_eq_getElem_cons hlt, rd, Int.toNat_natCast, List.getD_eq_getElem?_getD, List.getElem?_eq_getElem hlt]
                rfl
              rw [hdr, impl_MovesOf.go] at hL
              obtain ⟨x, hx, hL⟩ := Option.bind_eq_some_iff.1 hL
              obtain ⟨y, hy, hL⟩ := Option.bind_eq_some_iff.1 hL
              split at hL
              · rename_i hxl
                split at hL
                · rename_i hyl
                  split at hL
                  · rename_i hol
                    have HX := Aside0.mk (fun W => impl_repeated.calls _ _ _ x W hx)
                    have HY := Aside0.mk (fun W => impl_repeated.calls _ _ _ y W hy)
                    have HN := Aside0.mk hL
                    obtain ⟨g5, rfl, hcell⟩ := impl_MovesOf.Row_cell HRw.out hlt
                    clear hL hx hy HO hdr
                    have htz0 : (0 : Int) ≤ (t : Int) := Int.natCast_nonneg _
                    have htz1 : (t : Int) < (L.length : Int) := by omega
                    generalize rd L (t : Int) = z at *
                    have hw1 := i64_w (Int.tmod z 3 - Int.tmod q 3)
                    have hw2 := i64_w (Int.tdiv z 3)
                    have hw3 := i64_w (Int.tdiv q 3)
                    have hw4 := i64_w (wrap64 (Int.tdiv z 3) - wrap64 (Int.tdiv q 3))
                    generalize wrap64 (Int.tmod z 3 - Int.tmod q 3) = dx at hw1 HX
                    generalize wrap64 (wrap64 (Int.tdiv z 3) - wrap64 (Int.tdiv q 3)) = dy at hw4 HY
                    generalize wrap64 (Int.tdiv z 3) = zy at hw2 hw4
                    generalize wrap64 (Int.tdiv q 3) = qy at hw3 hw4
                    have hs1 : x.size + y.size ≤ 9223372036854775807 := by omega
                    have hs2 : (x ++ y).size + 1 ≤ 9223372036854775807 := by rw [ByteArray.size_append]; omega
                    have hs3 : x.size + y.size + 1 ≤ 9223372036854775807 := by omega
                    have HWs : Aside0 (∀ W, Lib.IsBuilderF 87 5 B B (Lib.byteCells out) W → B ≤ W.heap.size → _) := ⟨fun W h1 h2 => Go.Proofs.YtldnddehmpbbpaaGreatDoor.Bld.writeString B B out ((x ++ y) ++ (⟨#[46]⟩ : ByteArray)) W h1 (by rw [ByteArray.size_append, ByteArray.size_append, show (⟨#[46]⟩ : ByteArray).size = 1 from rfl]; omega) h2⟩
                    go_wp2_with (first
                      | (go_at_call 61; with_reducible refine (HX.out _).mono ?_; rintro e w6 ⟨rfl, hb6⟩)
                      | (go_at_call 61; with_reducible refine (HY.out _).mono ?_; rintro e w7 ⟨rfl, hb7⟩)
                      | (go_at_call 60; refine (HWs.out _ (Go.Proofs.YtldnddehmpbbpaaGreatDoor.Bld.below (Go.Proofs.YtldnddehmpbbpaaGreatDoor.Bld.below HI.out hb6) hb7) (Nat.le_trans (Nat.le_trans HS.out hb6.size) hb7.size)).mono ?_; rintro e w8 ⟨rfl, h8, hb8, ho8⟩))
                    go_roundg d
                    case measure => omega
                    case rel => exact ⟨t + 1, z, _, rfl, by go_num, by omega, HN, ⟨h8⟩, ⟨impl_MovesOf.Row_others (impl_MovesOf.Row_below (impl_MovesOf.Row_below HRw.out hb6) hb7) ho8⟩, ⟨(below_step (below_step HB.out hb6) hb7).trans (hb8.mono (by omega))⟩, ⟨by have := hb8.size; have := hb7.size; have := hb6.size; have := HS.out; omega⟩⟩
                  · cases hL
                · cases hL
              · cases hL
            · obtain rfl : gk = 0 := by omega
              obtain rfl : t = L.length := by omega
              have hL := HO.out
              rw [List.drop_length, impl_MovesOf.go] at hL
              obtain rfl := Option.some.inj hL
              have HSt := Aside0.mk (Go.Proofs.YtldnddehmpbbpaaGreatDoor.Bld.toString_ B B out wr HI.out HS.out)
              go_wp2_with (go_at_call 62; refine HSt.out.mono ?_; rintro e w9 ⟨rfl, hb9⟩)
              go_ret2
              exact ⟨rfl, HB.out.trans (hb9.mono (by omega))⟩
        · cases h
      · cases h
end Go.Proofs.YtldnddehmpbbpaaGreatDoor.P
end

section
namespace Go.Proofs.YtldnddehmpbbpaaGreatDoor.P
open Go.RowKit Go.Proofs.YtldnddehmpbbpaaGreatDoorW.PrintWords Go.Proofs.YtldnddehmpbbpaaGreatDoorW.PrintLast Go.Proofs.YtldnddehmpbbpaaGreatDoorW.PrintMore
attribute [local go_sem] max2_int min2_int max_two min_two max_three min_three max_four min_four   -- for this text's walks alone
set_option linter.unusedVariables false
set_option linter.unusedSimpArgs false
mutual
def spec_thSteps.l0 : Nat → Int → ByteArray → ByteArray → ByteArray → Option (ByteArray)
  | 0, _, _, _, _ => none
  | k + 1, x0, x1, x2, x7 => if x0 < 0 then (if x7.size + x1.size ≤ 9223372036854775807 then (spec_thSteps.l0 k (wrap64 (x0 + 1)) x1 x2 (x7 ++ x1)) else (none)) else (spec_thSteps.l1 k x0 x2 x7)
def spec_thSteps.l1 : Nat → Int → ByteArray → ByteArray → Option (ByteArray)
  | 0, _, _, _ => none
  | k + 1, x0, x2, x7 => if x0 > 0 then (if x7.size + x2.size ≤ 9223372036854775807 then (spec_thSteps.l1 k (wrap64 (x0 - 1)) x2 (x7 ++ x2)) else (none)) else (some x7)
end
def spec_thSteps.f (k : Nat) (a0 : Int) (a1 : ByteArray) (a2 : ByteArray) : Option (ByteArray) := spec_thSteps.l0 k a0 a1 a2 (⟨#[]⟩ : ByteArray)
theorem spec_thSteps.mono_l : ∀ k, (∀ y0 y1 y2 y3, LeO (spec_thSteps.l0 k y0 y1 y2 y3) (spec_thSteps.l0 (k + 1) y0 y1 y2 y3)) ∧ (∀ y0 y1 y2, LeO (spec_thSteps.l1 k y0 y1 y2) (spec_thSteps.l1 (k + 1) y0 y1 y2))
  | 0 => ⟨fun _ _ _ _ r h => by simp [spec_thSteps.l0] at h, fun _ _ _ r h => by simp [spec_thSteps.l1] at h⟩
  | k + 1 => by
    obtain ⟨ih0, ih1⟩ := spec_thSteps.mono_l k
    refine ⟨?_, ?_⟩
    · intro y0 y1 y2 y3
      unfold spec_thSteps.l0
      repeat' first
      | (with_reducible exact ih0 _ _ _ _)
      | (with_reducible exact ih1 _ _ _)
      | (with_reducible exact LeO.refl _)
      | (with_reducible exact LeO.none _)
      | (with_reducible refine LeO.ite ?_ ?_)
      | (with_reducible refine LeO.bind ?_ (fun _ => ?_))
      | exact ih0 _ _ _ _
      | exact ih1 _ _ _
      | exact LeO.none _
      | refine LeO.ite ?_ ?_
      | refine LeO.bind ?_ (fun _ => ?_)
    · intro y0 y1 y2
      unfold spec_thSteps.l1
      repeat' first
      | (with_reducible exact ih0 _ _ _ _)
      | (with_reducible exact ih1 _ _ _)
      | (with_reducible exact LeO.refl _)
      | (with_reducible exact LeO.none _)
      | (with_reducible refine LeO.ite ?_ ?_)
      | (with_reducible refine LeO.bind ?_ (fun _ => ?_))
      | exact ih0 _ _ _ _
      | exact ih1 _ _ _
      | exact LeO.none _
      | refine LeO.ite ?_ ?_
      | refine LeO.bind ?_ (fun _ => ?_)
theorem spec_thSteps.mono : ∀ a0 a1 a2 k, LeO (spec_thSteps.f k a0 a1 a2) (spec_thSteps.f (k + 1) a0 a1 a2) := by
  intro a0 a1 a2 k
  obtain ⟨ih0, ih1⟩ := spec_thSteps.mono_l k
  unfold spec_thSteps.f
  repeat' first
      | (with_reducible exact ih0 _ _ _ _)
      | (with_reducible exact ih1 _ _ _)
      | (with_reducible exact LeO.refl _)
      | (with_reducible exact LeO.none _)
      | (with_reducible refine LeO.ite ?_ ?_)
      | (with_reducible refine LeO.bind ?_ (fun _ => ?_))
      | exact ih0 _ _ _ _
      | exact ih1 _ _ _
      | exact LeO.none _
      | refine LeO.ite ?_ ?_
      | refine LeO.bind ?_ (fun _ => ?_)
set_option maxHeartbeats 8000000 in
set_option maxRecDepth 100000 in
theorem spec_thSteps.calls (k : Nat) (a0 : Int) (a1 : ByteArray) (a2 : ByteArray) (r : ByteArray) (w : World) (h : spec_thSteps.f k a0 a1 a2 = some r) :
    Calls Tryz.prog 63 #[.int .i64 a0, .string a1, .string a2] w fun e w' => e = .returned (.string r) ∧ Drawn0 w w' := by
  have H : (spec_thSteps.l0 k a0 a1 a2 (⟨#[]⟩ : ByteArray)) = some r := h
  clear h
  have H' := Aside0.mk H
  clear H
  go_enter Tryz.func63, Tryz.ntmps63
  go_wp2
  go_loopg [0, 7] k (fun kq v0 v7 w' => ∃ (x0_1 : Int) (x7_1 : ByteArray), v0 = .int .i64 x0_1 ∧ v7 = .string x7_1 ∧ Aside0 (spec_thSteps.l0 kq x0_1 a1 a2 x7_1 = some r) ∧ Aside0 (kq ≤ k) ∧ Drawn0 w w')
  case atStart => exact ⟨(a0), ((⟨#[]⟩ : ByteArray)), (by first | rfl | (simp; done) | (simp [*]; done)), (by first | rfl | (simp; done) | (simp [*]; done)), H', ⟨Nat.le_refl _⟩, by repeat (first | exact Drawn0.refl _ | apply Drawn0.step)⟩
  case round =>
    clear H'
    try clear p2
    obtain ⟨x0_1, x7_1, rfl, rfl, HA, HK1, ⟨m1, rfl⟩⟩ := hrel
    cases gk with
    | zero => exact absurd HA.out (by simp [spec_thSteps.l0])
    | succ k1 =>
      have H := HA.out
      clear HA
      simp only [spec_thSteps.l0] at H
      by_cases c4 : x0_1 < 0
      · rw [if_pos c4] at H
        have c4b0 : decide (x0_1 < 0) = true := decide_eq_true c4
        clear c4
        by_cases c5 : x7_1.size + a1.size ≤ 9223372036854775807
        · rw [if_pos c5] at H
          have c5b0 := eq_true c5
          have c5b1 : decide (x7_1.size + a1.size ≤ 9223372036854775807) = true := decide_eq_true c5
          try have c5b2 : (9223372036854775807 < x7_1.size + a1.size) = False := eq_false (Nat.not_lt.2 c5)
          have H' := Aside0.mk H
          clear H
          go_wp2
          go_roundg k1
          case measure => have := HK1.out; omega
          case rel => exact ⟨(wrap64 (x0_1 + 1)), (x7_1 ++ a1), (by first | rfl | (simp; done) | (simp [*]; done)), (by first | rfl | (simp; done) | (simp [*]; done)), H', ⟨by have := HK1.out; omega⟩, by repeat (first | exact Drawn0.refl _ | apply Drawn0.step)⟩
        · rw [if_neg c5] at H
          exact absurd H (by simp)
      · rw [if_neg c4] at H
        have c4b0 : decide (x0_1 < 0) = false := decide_eq_false c4
        clear c4
        have H' := Aside0.mk H
        clear H
        go_wp2
        go_loopg [0, 7] k1 (fun kq v0 v7 w' => ∃ (x0_2 : Int) (x7_2 : ByteArray), v0 = .int .i64 x0_2 ∧ v7 = .string x7_2 ∧ Aside0 (spec_thSteps.l1 kq x0_2 a2 x7_2 = some r) ∧ Aside0 (kq ≤ k1) ∧ Drawn0 w w')
        case atStart => exact ⟨(x0_1), (x7_1), (by first | rfl | (simp; done) | (simp [*]; done)), (by first | rfl | (simp; done) | (simp [*]; done)), H', ⟨Nat.le_refl _⟩, by repeat (first | exact Drawn0.refl _ | apply Drawn0.step)⟩
        case round =>
          clear H'
          try clear p2
          try clear c4
          try clear c4b0
          try clear c5
          try clear c5b0
          try clear c5b1
          try clear c5b2
          try clear p2
          obtain ⟨x0_2, x7_2, rfl, rfl, HA, HK2, ⟨m2, rfl⟩⟩ := hrel
          cases gk with
          | zero => exact absurd HA.out (by simp [spec_thSteps.l1])
          | succ k2 =>
            have H := HA.out
            clear HA
            simp only [spec_thSteps.l1] at H
            by_cases c6 : x0_2 > 0
            · rw [if_pos c6] at H
              have c6b0 : decide (0 < x0_2) = true := decide_eq_true c6
              clear c6
              by_cases c7 : x7_2.size + a2.size ≤ 9223372036854775807
              · rw [if_pos c7] at H
                have c7b0 := eq_true c7
                have c7b1 : decide (x7_2.size + a2.size ≤ 9223372036854775807) = true := decide_eq_true c7
                try have c7b2 : (9223372036854775807 < x7_2.size + a2.size) = False := eq_false (Nat.not_lt.2 c7)
                have H' := Aside0.mk H
                clear H
                go_wp2
                go_roundg k2
                case measure => have := HK1.out; have := HK2.out; omega
                case rel => exact ⟨(wrap64 (x0_2 - 1)), (x7_2 ++ a2), (by first | rfl | (simp; done) | (simp [*]; done)), (by first | rfl | (simp; done) | (simp [*]; done)), H', ⟨by have := HK1.out; have := HK2.out; omega⟩, by repeat (first | exact Drawn0.refl _ | apply Drawn0.step)⟩
              · rw [if_neg c7] at H
                exact absurd H (by simp)
            · rw [if_neg c6] at H
              have c6b0 : decide (0 < x0_2) = false := decide_eq_false c6
              clear c6
              obtain rfl := Option.some.inj H
              go_wp2
              go_ret
              exact ⟨by first | rfl | (simp; done) | (simp [*]; done), by repeat (first | exact Drawn0.refl _ | apply Drawn0.step)⟩
end Go.Proofs.YtldnddehmpbbpaaGreatDoor.P
end

section
namespace Go.Proofs.YtldnddehmpbbpaaGreatDoor.P
open Go.RowKit Go.Proofs.YtldnddehmpbbpaaGreatDoorW.PrintWords Go.Proofs.YtldnddehmpbbpaaGreatDoorW.PrintLast Go.Proofs.YtldnddehmpbbpaaGreatDoorW.PrintMore
attribute [local go_sem] max2_int min2_int max_two min_two max_three min_three max_four min_four   -- for this text's walks alone
set_option linter.unusedVariables false
set_option linter.unusedSimpArgs false
mutual
def spec_MovesOf.j0 : Nat → ByteArray → ByteArray → Bool → Option (ByteArray × Bool)
  | 0, _, _, _ => none
  | k + 1, x0, x1, x17 => if x17 = true then (some ((⟨#[]⟩ : ByteArray), false)) else (if 0 < (x1.size : Int) then ((spec_thPlace.f k (bt x1 0)).bind fun t283 => (spec_MovesOf.l0 k x0 (⟨#[]⟩ : ByteArray) t283 0)) else (none))
def spec_MovesOf.l0 : Nat → ByteArray → ByteArray → Int → Int → Option (ByteArray × Bool)
  | 0, _, _, _, _ => none
  | k + 1, x0, x6, x7, x8 => if x8 < (x0.size : Int) then (if 0 ≤ x8 then ((spec_thPlace.f k (bt x0 x8)).bind fun t284 => ((spec_thSteps.f k (wrap64 ((Int.tmod t284 3) - (Int.tmod x7 3))) (⟨#[108]⟩ : ByteArray) (⟨#[114]⟩ : ByteArray)).bind fun t285 => ((spec_thSteps.f k (wrap64 ((wrap64 (Int.tdiv t284 3)) - (wrap64 (Int.tdiv x7 3)))) (⟨#[117]⟩ : ByteArray) (⟨#[100]⟩ : ByteArray)).bind fun t286 => (if t285.size + t286.size ≤ 9223372036854775807 then (if (t285 ++ t286).size + 1 ≤ 9223372036854775807 then (if x6.size + ((t285 ++ t286) ++ (⟨#[46]⟩ : ByteArray)).size ≤ 9223372036854775807 then (spec_MovesOf.l0 k x0 (x6 ++ ((t285 ++ t286) ++ (⟨#[46]⟩ : ByteArray))) t284 (wrap64 (x8 + 1))) else (none)) else (none)) else (none))))) else (none)) else (some (x6, true))
end
def spec_MovesOf.f (k : Nat) (a0 : ByteArray) (a1 : ByteArray) : Option (ByteArray × Bool) := (spec_thGood.f k a0).bind fun t281 => (if t281 = true then ((spec_thOne.f k a1).bind fun t282 => (spec_MovesOf.j0 k a0 a1 (!t282))) else (spec_MovesOf.j0 k a0 a1 true))
theorem spec_MovesOf.mono_l : ∀ k, (∀ y0 y1 y2, LeO (spec_MovesOf.j0 k y0 y1 y2) (spec_MovesOf.j0 (k + 1) y0 y1 y2)) ∧ (∀ y0 y1 y2 y3, LeO (spec_MovesOf.l0 k y0 y1 y2 y3) (spec_MovesOf.l0 (k + 1) y0 y1 y2 y3))
  | 0 => ⟨fun _ _ _ r h => by simp [spec_MovesOf.j0] at h, fun _ _ _ _ r h => by simp [spec_MovesOf.l0] at h⟩
  | k + 1 => by
    obtain ⟨ih0, ih1⟩ := spec_MovesOf.mono_l k
    refine ⟨?_, ?_⟩
    · intro y0 y1 y2
      unfold spec_MovesOf.j0
      repeat' first
      | (with_reducible exact ih0 _ _ _)
      | (with_reducible exact ih1 _ _ _ _)
      | (with_reducible exact spec_thGood.mono _ _)
      | (with_reducible exact spec_thOne.mono _ _)
      | (with_reducible exact spec_thPlace.mono _ _)
      | (with_reducible exact spec_thSteps.mono _ _ _ _)
      | (with_reducible exact LeO.refl _)
      | (with_reducible exact LeO.none _)
      | (with_reducible refine LeO.ite ?_ ?_)
      | (with_reducible refine LeO.bind ?_ (fun _ => ?_))
      | exact ih0 _ _ _
      | exact ih1 _ _ _ _
      | exact spec_thGood.mono _ _
      | exact spec_thOne.mono _ _
      | exact spec_thPlace.mono _ _
      | exact spec_thSteps.mono _ _ _ _
      | exact LeO.none _
      | refine LeO.ite ?_ ?_
      | refine LeO.bind ?_ (fun _ => ?_)
    · intro y0 y1 y2 y3
      unfold spec_MovesOf.l0
      repeat' first
      | (with_reducible exact ih0 _ _ _)
      | (with_reducible exact ih1 _ _ _ _)
      | (with_reducible exact spec_thGood.mono _ _)
      | (with_reducible exact spec_thOne.mono _ _)
      | (with_reducible exact spec_thPlace.mono _ _)
      | (with_reducible exact spec_thSteps.mono _ _ _ _)
      | (with_reducible exact LeO.refl _)
      | (with_reducible exact LeO.none _)
      | (with_reducible refine LeO.ite ?_ ?_)
      | (with_reducible refine LeO.bind ?_ (fun _ => ?_))
      | exact ih0 _ _ _
      | exact ih1 _ _ _ _
      | exact spec_thGood.mono _ _
      | exact spec_thOne.mono _ _
      | exact spec_thPlace.mono _ _
      | exact spec_thSteps.mono _ _ _ _
      | exact LeO.none _
      | refine LeO.ite ?_ ?_
      | refine LeO.bind ?_ (fun _ => ?_)
theorem spec_MovesOf.mono : ∀ a0 a1 k, LeO (spec_MovesOf.f k a0 a1) (spec_MovesOf.f (k + 1) a0 a1) := by
  intro a0 a1 k
  obtain ⟨ih0, ih1⟩ := spec_MovesOf.mono_l k
  unfold spec_MovesOf.f
  repeat' first
      | (with_reducible exact ih0 _ _ _)
      | (with_reducible exact ih1 _ _ _ _)
      | (with_reducible exact spec_thGood.mono _ _)
      | (with_reducible exact spec_thOne.mono _ _)
      | (with_reducible exact spec_thPlace.mono _ _)
      | (with_reducible exact spec_thSteps.mono _ _ _ _)
      | (with_reducible exact LeO.refl _)
      | (with_reducible exact LeO.none _)
      | (with_reducible refine LeO.ite ?_ ?_)
      | (with_reducible refine LeO.bind ?_ (fun _ => ?_))
      | exact ih0 _ _ _
      | exact ih1 _ _ _ _
      | exact spec_thGood.mono _ _
      | exact spec_thOne.mono _ _
      | exact spec_thPlace.mono _ _
      | exact spec_thSteps.mono _ _ _ _
      | exact LeO.none _
      | refine LeO.ite ?_ ?_
      | refine LeO.bind ?_ (fun _ => ?_)
set_option maxHeartbeats 8000000 in
set_option maxRecDepth 100000 in
theorem spec_MovesOf.calls (k : Nat) (a0 : ByteArray) (a1 : ByteArray) (r1 : ByteArray) (r2 : Bool) (w : World) (h : spec_MovesOf.f k a0 a1 = some (r1, r2)) :
    Calls Tryz.prog 25 #[.string a0, .string a1] w fun e w' => e = .returned (.tuple #[.string r1, .bool r2]) ∧ Drawn0 w w' := by
  have H : ((spec_thGood.f k a0).bind fun t281 => (if t281 = true then ((spec_thOne.f k a1).bind fun t282 => (spec_MovesOf.j0 k a0 a1 (!t282))) else (spec_MovesOf.j0 k a0 a1 true))) = some (r1, r2) := h
  clear h
  have HC3 := Aside0.mk H
  clear H
  go_enter Tryz.func25, Tryz.ntmps25
  go_upto_region 1 with (fail)
  go_cut [17] (fun v17 wc => ∃ (kq : Nat) (x17_2 : Bool), v17 = .bool x17_2 ∧ Aside0 (spec_MovesOf.j0 kq a0 a1 x17_2 = some (r1, r2)) ∧ Aside0 (kq ≤ k) ∧ Drawn0 w wc)
  case first =>
    have H := HC3.out
    clear HC3
    replace H := Option.bind_eq_some_iff.mp H
    obtain ⟨t281, A40, H⟩ := H
    replace H : (if t281 = true then ((spec_thOne.f k a1).bind fun t282 => (spec_MovesOf.j0 k a0 a1 (!t282))) else (spec_MovesOf.j0 k a0 a1 true)) = some (r1, r2) := H
    have A4 := Aside0.mk A40
    clear A40
    by_cases c5 : t281 = true
    · subst c5
      have H1 : ((spec_thOne.f k a1).bind fun t282 => (spec_MovesOf.j0 k a0 a1 (!t282))) = some (r1, r2) := by rw [if_pos rfl] at H; exact H
      clear H
      have H := H1
      clear H1
      replace H := Option.bind_eq_some_iff.mp H
      obtain ⟨t282, A60, H⟩ := H
      replace H : (spec_MovesOf.j0 k a0 a1 (!t282)) = some (r1, r2) := H
      have A6 := Aside0.mk A60
      clear A60
      have H' := Aside0.mk H
      clear H
      go_wp2_with (first | ((with_reducible refine gate_callee (f := 42) rfl ?_); refine goesL_ (some 11) rfl rfl Tryz.func42 (by kernel_rfl) rfl #[.string a0] rfl (by (try simp only [List.map_toArray, List.map_cons, List.map_nil]); first | done | rfl | (simp only [List.length_drop, List.length_take]; rfl)) ?_; (with_reducible refine (spec_thGood.calls k a0 true _ A4.out).mono ?_); rintro e w' ⟨rfl, ⟨nd, rfl⟩⟩; refine ⟨_, rfl, ?_⟩) | (go_at_call 55; (with_reducible refine (spec_thOne.calls k a1 t282 _ A6.out).mono ?_); rintro e w' ⟨rfl, ⟨nd, rfl⟩⟩))
      go_meet
      case rel => exact ⟨_, (!t282), (by first | rfl | (simp; done) | (simp [*]; done)), H', ⟨by first | omega | exact Nat.le_refl _⟩, by repeat (first | exact Drawn0.refl _ | apply Drawn0.step)⟩
    · replace c5 := Bool.eq_false_iff.mpr c5
      subst c5
      have H1 : (spec_MovesOf.j0 k a0 a1 true) = some (r1, r2) := by rw [if_neg (show ¬ (false = true) by decide)] at H; exact H
      clear H
      have H := H1
      clear H1
      have H' := Aside0.mk H
      clear H
      go_wp2_with (first | ((with_reducible refine gate_callee (f := 42) rfl ?_); refine goesL_ (some 11) rfl rfl Tryz.func42 (by kernel_rfl) rfl #[.string a0] rfl (by (try simp only [List.map_toArray, List.map_cons, List.map_nil]); first | done | rfl | (simp only [List.length_drop, List.length_take]; rfl)) ?_; (with_reducible refine (spec_thGood.calls k a0 false _ A4.out).mono ?_); rintro e w' ⟨rfl, ⟨nd, rfl⟩⟩; refine ⟨_, rfl, ?_⟩))
      go_meet
      case rel => exact ⟨_, (true), (by first | rfl | (simp; done) | (simp [*]; done)), H', ⟨by first | omega | exact Nat.le_refl _⟩, by repeat (first | exact Drawn0.refl _ | apply Drawn0.step)⟩
  case rest =>
    clear HC3
    try clear c2
    try clear p2
    try clear c4
    try clear c5
    obtain ⟨kq, x17_2, rfl, HA, HJ2, ⟨mc2, rfl⟩⟩ := hcut
    cases kq with
    | zero => exact absurd HA.out (by simp [spec_MovesOf.j0])
    | succ kj2 =>
      have H := HA.out
      clear HA
      simp only [spec_MovesOf.j0] at H
      by_cases c7 : x17_2 = true
      · subst c7
        have H1 : (some ((⟨#[]⟩ : ByteArray), false)) = some (r1, r2) := by rw [if_pos rfl] at H; exact H
        clear H
        have H := H1
        clear H1
        simp only [Option.some.injEq, Prod.mk.injEq] at H
        obtain ⟨rfl, rfl⟩ := H
        go_wp2
        go_ret2
        exact ⟨by first | rfl | (simp; done) | (simp [*]; done), by repeat (first | exact Drawn0.refl _ | apply Drawn0.step)⟩
      · replace c7 := Bool.eq_false_iff.mpr c7
        subst c7
        have H1 : (if 0 < (a1.size : Int) then ((spec_thPlace.f kj2 (bt a1 0)).bind fun t283 => (spec_MovesOf.l0 kj2 a0 (⟨#[]⟩ : ByteArray) t283 0)) else (none)) = some (r1, r2) := by rw [if_neg (show ¬ (false = true) by decide)] at H; exact H
        clear H
        have H := H1
        clear H1
        by_cases c8 : 0 < (a1.size : Int)
        · rw [if_pos c8] at H
          have c8b0 : decide (0 < (a1.size : Int)) = true := decide_eq_true c8
          have c8b1 : decide (0 < a1.size) = true := decide_eq_true (by omega)
          clear c8
          replace H := Option.bind_eq_some_iff.mp H
          obtain ⟨t283, A100, H⟩ := H
          replace H : (spec_MovesOf.l0 kj2 a0 (⟨#[]⟩ : ByteArray) t283 0) = some (r1, r2) := H
          have A10 := Aside0.mk A100
          clear A100
          have H' := Aside0.mk H
          clear H
          have p9 : 0 ≤ (0 : Int) := (by omega)
          have q9 : 0 < a1.size := (by have : (0 : Int) < (a1.size : Int) := of_decide_eq_true (by first | (with_reducible assumption) | assumption); omega)
          have hx9 : ∀ h : 0 < a1.size, ((a1[0]'h).toNat : Int) = bt a1 0 := bt_at a1 0
          clear p9
          have qi9 : (0 < (a1.size : Int)) = True := eq_true (of_decide_eq_true (by first | (with_reducible assumption) | assumption))
          replace q9 := eq_true q9
          go_wp2_with (first | ((with_reducible refine gate_callee (f := 39) rfl ?_); refine goesL_ (some 20) rfl rfl Tryz.func39 (by kernel_rfl) rfl #[.int .u8 (bt a1 0)] rfl (by (try simp only [List.map_toArray, List.map_cons, List.map_nil]); first | done | rfl | (simp only [List.length_drop, List.length_take]; rfl)) ?_; (with_reducible refine (spec_thPlace.calls kj2 (bt a1 0) t283 _ A10.out).mono ?_); rintro e w' ⟨rfl, ⟨nd, rfl⟩⟩; refine ⟨_, rfl, ?_⟩))
          go_loopg [6, 7, 8] kj2 (fun kq v6 v7 v8 w' => ∃ (x6_2 : ByteArray) (x7_2 : Int) (x8_2 : Int), v6 = .string x6_2 ∧ v7 = .int .i64 x7_2 ∧ v8 = .int .i64 x8_2 ∧ Aside0 (spec_MovesOf.l0 kq a0 x6_2 x7_2 x8_2 = some (r1, r2)) ∧ Aside0 (kq ≤ kj2) ∧ Drawn0 w w')
          case atStart => exact ⟨((⟨#[]⟩ : ByteArray)), (t283), (0), (by first | rfl | (simp; done) | (simp [*]; done)), (by first | rfl | (simp; done) | (simp [*]; done)), (by first | rfl | (simp; done) | (simp [*]; done)), H', ⟨Nat.le_refl _⟩, by repeat (first | exact Drawn0.refl _ | apply Drawn0.step)⟩
          case round =>
            clear H'
            try clear c2
            try clear p2
            try clear c3
            try clear c4
            try clear c5
            try clear c7
            try clear c8
            try clear c8b0
            try clear c8b1
            try clear p9
            try clear q9
            try clear hx9
            try clear qi9
            try clear p2
            try clear p9
            try clear q9
            obtain ⟨x6_2, x7_2, x8_2, rfl, rfl, rfl, HA, HK2, ⟨m2, rfl⟩⟩ := hrel
            cases gk with
            | zero => exact absurd HA.out (by simp [spec_MovesOf.l0])
            | succ k2 =>
              have H := HA.out
              clear HA
              simp only [spec_MovesOf.l0] at H
              by_cases c11 : x8_2 < (a0.size : Int)
              · rw [if_pos c11] at H
                have c11b0 : decide (x8_2 < (a0.size : Int)) = true := decide_eq_true c11
                clear c11
                by_cases c12 : 0 ≤ x8_2
                · rw [if_pos c12] at H
                  have c12b0 : decide (0 ≤ x8_2) = true := decide_eq_true c12
                  clear c12
                  replace H := Option.bind_eq_some_iff.mp H
                  obtain ⟨t284, A140, H⟩ := H
                  replace H : ((spec_thSteps.f k2 (wrap64 ((Int.tmod t284 3) - (Int.tmod x7_2 3))) (⟨#[108]⟩ : ByteArray) (⟨#[114]⟩ : ByteArray)).bind fun t285 => ((spec_thSteps.f k2 (wrap64 ((wrap64 (Int.tdiv t284 3)) - (wrap64 (Int.tdiv x7_2 3)))) (⟨#[117]⟩ : ByteArray) (⟨#[100]⟩ : ByteArray)).bind fun t286 => (if t285.size + t286.size ≤ 9223372036854775807 then (if (t285 ++ t286).size + 1 ≤ 9223372036854775807 then (if x6_2.size + ((t285 ++ t286) ++ (⟨#[46]⟩ : ByteArray)).size ≤ 9223372036854775807 then (spec_MovesOf.l0 k2 a0 (x6_2 ++ ((t285 ++ t286) ++ (⟨#[46]⟩ : ByteArray))) t284 (wrap64 (x8_2 + 1))) else (none)) else (none)) else (none)))) = some (r1, r2) := H
                  have A14 := Aside0.mk A140
                  clear A140
                  replace H := Option.bind_eq_some_iff.mp H
                  obtain ⟨t285, A150, H⟩ := H
                  replace H : ((spec_thSteps.f k2 (wrap64 ((wrap64 (Int.tdiv t284 3)) - (wrap64 (Int.tdiv x7_2 3)))) (⟨#[117]⟩ : ByteArray) (⟨#[100]⟩ : ByteArray)).bind fun t286 => (if t285.size + t286.size ≤ 9223372036854775807 then (if (t285 ++ t286).size + 1 ≤ 9223372036854775807 then (if x6_2.size + ((t285 ++ t286) ++ (⟨#[46]⟩ : ByteArray)).size ≤ 9223372036854775807 then (spec_MovesOf.l0 k2 a0 (x6_2 ++ ((t285 ++ t286) ++ (⟨#[46]⟩ : ByteArray))) t284 (wrap64 (x8_2 + 1))) else (none)) else (none)) else (none))) = some (r1, r2) := H
                  have A15 := Aside0.mk A150
                  clear A150
                  replace H := Option.bind_eq_some_iff.mp H
                  obtain ⟨t286, A160, H⟩ := H
                  replace H : (if t285.size + t286.size ≤ 9223372036854775807 then (if (t285 ++ t286).size + 1 ≤ 9223372036854775807 then (if x6_2.size + ((t285 ++ t286) ++ (⟨#[46]⟩ : ByteArray)).size ≤ 9223372036854775807 then (spec_MovesOf.l0 k2 a0 (x6_2 ++ ((t285 ++ t286) ++ (⟨#[46]⟩ : ByteArray))) t284 (wrap64 (x8_2 + 1))) else (none)) else (none)) else (none)) = some (r1, r2) := H
                  have A16 := Aside0.mk A160
                  clear A160
                  by_cases c17 : t285.size + t286.size ≤ 9223372036854775807
                  · rw [if_pos c17] at H
                    have c17b0 := eq_true c17
                    have c17b1 : decide (t285.size + t286.size ≤ 9223372036854775807) = true := decide_eq_true c17
                    try have c17b2 : (9223372036854775807 < t285.size + t286.size) = False := eq_false (Nat.not_lt.2 c17)
                    by_cases c18 : (t285 ++ t286).size + 1 ≤ 9223372036854775807
                    · rw [if_pos c18] at H
                      have c18b0 := eq_true c18
                      have c18b1 : decide ((t285 ++ t286).size + 1 ≤ 9223372036854775807) = true := decide_eq_true c18
                      try have c18b2 : (9223372036854775807 < (t285 ++ t286).size + 1) = False := eq_false (Nat.not_lt.2 c18)
                      try have c18b3 := c18b2
                      try simp only [ByteArray.size_append] at c18b3
                      by_cases c19 : x6_2.size + ((t285 ++ t286) ++ (⟨#[46]⟩ : ByteArray)).size ≤ 9223372036854775807
                      · rw [if_pos c19] at H
                        have c19b0 := eq_true c19
                        have c19b1 : decide (x6_2.size + ((t285 ++ t286) ++ (⟨#[46]⟩ : ByteArray)).size ≤ 9223372036854775807) = true := decide_eq_true c19
                        try have c19b2 : (9223372036854775807 < x6_2.size + ((t285 ++ t286) ++ (⟨#[46]⟩ : ByteArray)).size) = False := eq_false (Nat.not_lt.2 c19)
                        try have c19b3 := c19b2
                        try simp only [ByteArray.size_append] at c19b3
                        have H' := Aside0.mk H
                        clear H
                        have p13 : 0 ≤ (x8_2 : Int) := of_decide_eq_true (by first | (with_reducible assumption) | assumption)
                        have q13 : x8_2 < (a0.size : Int) := of_decide_eq_true (by first | (with_reducible assumption) | assumption)
                        have hx13 := bt_at a0 x8_2
                        replace p13 := eq_true p13
                        replace q13 := eq_true q13
                        go_wp2_with (first | ((with_reducible refine gate_callee (f := 39) rfl ?_); refine goesL_ (some 30) rfl rfl Tryz.func39 (by kernel_rfl) rfl #[.int .u8 (bt a0 x8_2)] rfl (by (try simp only [List.map_toArray, List.map_cons, List.map_nil]); first | done | rfl | (simp only [List.length_drop, List.length_take]; rfl)) ?_; (with_reducible refine (spec_thPlace.calls k2 (bt a0 x8_2) t284 _ A14.out).mono ?_); rintro e w' ⟨rfl, ⟨nd, rfl⟩⟩; refine ⟨_, rfl, ?_⟩) | ((with_reducible refine gate_callee (f := 63) rfl ?_); refine goesL_ (some 37) rfl rfl Tryz.func63 (by kernel_rfl) rfl #[.int .i64 (wrap64 ((Int.tmod t284 3) - (Int.tmod x7_2 3))), .string (⟨#[108]⟩ : ByteArray), .string (⟨#[114]⟩ : ByteArray)] rfl (by (try simp only [List.map_toArray, List.map_cons, List.map_nil]); first | done | rfl | (simp only [List.length_drop, List.length_take]; rfl)) ?_; (with_reducible refine (spec_thSteps.calls k2 (wrap64 ((Int.tmod t284 3) - (Int.tmod x7_2 3))) (⟨#[108]⟩ : ByteArray) (⟨#[114]⟩ : ByteArray) t285 _ A15.out).mono ?_); rintro e w' ⟨rfl, ⟨nd, rfl⟩⟩; refine ⟨_, rfl, ?_⟩) | ((with_reducible refine gate_callee (f := 63) rfl ?_); refine goesL_ (some 43) rfl rfl Tryz.func63 (by kernel_rfl) rfl #[.int .i64 (wrap64 ((wrap64 (Int.tdiv t284 3)) - (wrap64 (Int.tdiv x7_2 3)))), .string (⟨#[117]⟩ : ByteArray), .string (⟨#[100]⟩ : ByteArray)] rfl (by (try simp only [List.map_toArray, List.map_cons, List.map_nil]); first | done | rfl | (simp only [List.length_drop, List.length_take]; rfl)) ?_; (with_reducible refine (spec_thSteps.calls k2 (wrap64 ((wrap64 (Int.tdiv t284 3)) - (wrap64 (Int.tdiv x7_2 3)))) (⟨#[117]⟩ : ByteArray) (⟨#[100]⟩ : ByteArray) t286 _ A16.out).mono ?_); rintro e w' ⟨rfl, ⟨nd, rfl⟩⟩; refine ⟨_, rfl, ?_⟩))
                        go_roundg k2
                        case measure => have := HJ2.out; have := HK2.out; omega
                        case rel => exact ⟨(x6_2 ++ ((t285 ++ t286) ++ (⟨#[46]⟩ : ByteArray))), (t284), (wrap64 (x8_2 + 1)), (by first | rfl | (simp; done) | (simp [*]; done)), (by first | rfl | (simp; done) | (simp [*]; done)), (by first | rfl | (simp; done) | (simp [*]; done)), H', ⟨by have := HJ2.out; have := HK2.out; omega⟩, by repeat (first | exact Drawn0.refl _ | apply Drawn0.step)⟩
                      · rw [if_neg c19] at H
                        exact absurd H (by simp)
                    · rw [if_neg c18] at H
                      exact absurd H (by simp)
                  · rw [if_neg c17] at H
                    exact absurd H (by simp)
                · rw [if_neg c12] at H
                  exact absurd H (by simp)
              · rw [if_neg c11] at H
                have c11b0 : decide (x8_2 < (a0.size : Int)) = false := decide_eq_false c11
                clear c11
                simp only [Option.some.injEq, Prod.mk.injEq] at H
                obtain ⟨rfl, rfl⟩ := H
                go_wp2
                go_ret2
                exact ⟨by first | rfl | (simp; done) | (simp [*]; done), by repeat (first | exact Drawn0.refl _ | apply Drawn0.step)⟩
        · rw [if_neg c8] at H
          exact absurd H (by simp)
end Go.Proofs.YtldnddehmpbbpaaGreatDoor.P
end

section
namespace Go.Proofs.YtldnddehmpbbpaaGreatDoor.P
open Go.RowKit Go.Proofs.YtldnddehmpbbpaaGreatDoorW.PrintWords Go.Proofs.YtldnddehmpbbpaaGreatDoorW.PrintLast Go.Proofs.YtldnddehmpbbpaaGreatDoorW.PrintMore
attribute [local go_sem] max2_int min2_int max_two min_two max_three min_three max_four min_four   -- for this text's walks alone
set_option linter.unusedVariables false
set_option linter.unusedSimpArgs false
theorem spec_DrawKeysOfMoves.lit {α : Type} {enc : α → Value} {h1 : ∀ x, (enc x).oneCell' = true} {w : World} {b : Nat} {t : TypeId} {l : List α} {cs : Array Value} (h : w.heap[b]? = some (.cells cs t (0, 0))) (e : cs = (l.map enc).toArray) (hn : l.length ≤ 9223372036854775807) : Kd.C (Kd.scalar enc h1) w (some ⟨b, 0, none⟩) l.length l := by
  refine ⟨rfl, hn, fun _ => ⟨_, rfl, fun j p hj => ⟨[enc p], rfl, rfl, fun i u hu => ?_⟩⟩⟩
  have hi : i = 0 := by
    cases i with
    | zero => rfl
    | succ i => simp at hu
  subst hi
  obtain rfl : enc p = u := by simpa using hu
  show w.cell? ((⟨b, 0, none⟩ : Addr).add (j * 1 + 0)) = _
  rw [Nat.mul_one, Nat.add_zero, add_at, Nat.zero_add, blk_cell h, e]
  simp [hj]
def spec_DrawKeysOfMoves.mv : List ByteArray := [(⟨#[108]⟩ : ByteArray), (⟨#[114]⟩ : ByteArray), (⟨#[117]⟩ : ByteArray), (⟨#[100]⟩ : ByteArray), (⟨#[46]⟩ : ByteArray), (⟨#[46]⟩ : ByteArray)]
def spec_DrawKeysOfMoves.xs : List ByteArray := [(⟨#[120]⟩ : ByteArray), (⟨#[32]⟩ : ByteArray)]
def spec_DrawKeysOfMoves.lp (l0 : List Int) : Nat → Int → Int → ByteArray → Option (ByteArray × Int × Int)
  | 0, p, q, s => some (s, p, q)
  | d + 1, p, q, s => (spec_l1Cur_of.f l0 p q spec_DrawKeysOfMoves.mv).bind fun b => if s.size + b.1.size ≤ 9223372036854775807 then spec_DrawKeysOfMoves.lp l0 d b.2.1 b.2.2 (s ++ b.1) else none
def spec_DrawKeysOfMoves.rest (l0 : List Int) (start : ByteArray) (p q : Int) : Option (ByteArray × ByteArray) := (spec_l1Cur_pick.f l0 p q 12).bind fun b => if 0 ≤ b.1 ∧ b.1 ≤ 11 then (spec_DrawKeysOfMoves.lp l0 b.1.toNat b.2.1 b.2.2 (⟨#[]⟩ : ByteArray)).bind fun m => (spec_l1Cur_one.f l0 m.2.1 m.2.2 6).bind fun o => if o.1 = true then (spec_l1Cur_of.f l0 o.2.1 o.2.2 spec_DrawKeysOfMoves.xs).bind fun x => (if m.1.size + x.1.size ≤ 9223372036854775807 then some (start, m.1 ++ x.1) else none) else some (start, m.1) else none
def spec_DrawKeysOfMoves.f (k : Nat) (l0 : List Int) : Option (ByteArray × ByteArray) := (spec_l1Cur_key.f l0 0 0).bind fun b1 => (spec_thOne.f k b1.1).bind fun t => if t = true then (spec_l1Cur_one.f l0 b1.2.1 b1.2.2 3).bind fun o => (if o.1 = true then spec_DrawKeysOfMoves.rest l0 b1.1 o.2.1 o.2.2 else (spec_l1Cur_sureDialed.f k l0 o.2.1 o.2.2 6).bind fun m => (spec_MovesOf.f k m.1 b1.1).bind fun v => some (b1.1, v.1)) else spec_DrawKeysOfMoves.rest l0 b1.1 b1.2.1 b1.2.2
theorem spec_DrawKeysOfMoves.mono : ∀ l0 k, LeO (spec_DrawKeysOfMoves.f k l0) (spec_DrawKeysOfMoves.f (k + 1) l0) := by
  intro l0 k
  unfold spec_DrawKeysOfMoves.f
  repeat' first
      | (with_reducible exact spec_thOne.mono _ _)
      | (with_reducible exact spec_MovesOf.mono _ _ _)
      | (with_reducible exact spec_l1Cur_sureDialed.mono _ _ _ _ _)
      | (with_reducible exact LeO.refl _)
      | (with_reducible refine LeO.ite ?_ ?_)
      | (with_reducible refine LeO.bind ?_ (fun _ => ?_))
set_option maxHeartbeats 8000000 in
set_option maxRecDepth 100000 in
theorem spec_DrawKeysOfMoves.calls (k : Nat) (A0 : Option Addr) (c0 : Nat) (l0 : List Int) (r1 : ByteArray) (r2 : ByteArray) (w : World) (hr0 : Kd.C (Kd.int .u8) w A0 l0.length l0) (hc0 : l0.length ≤ c0) (h : spec_DrawKeysOfMoves.f k l0 = some (r1, r2)) :
    Calls Tryz.prog 26 #[.slice A0 l0.length c0] w fun e w' => e = .returned (.tuple #[.string r1, .string r2]) ∧ Below w.heap.size w w' := by
  unfold spec_DrawKeysOfMoves.f at h
  obtain ⟨⟨x1, p1, q1⟩, h1, h⟩ := Option.bind_eq_some_iff.1 h
  obtain ⟨t, h2, h⟩ := Option.bind_eq_some_iff.1 h
  have H0 := Aside0.mk (IsS80.new w w A0 c0 l0 0 0 (Below.refl _ _) hr0)
  have HB0 := Aside0.mk (below_alloc (Below.refl w.heap.size w) (.cells #[.slice A0 l0.length c0, .int .i64 0, .int .u64 0] 80))
  have H1 := Aside0.mk h1
  have H2 := Aside0.mk h2
  have H := Aside0.mk h
  have hu := Tryz.underlying80
  clear h1 h2 h hr0
  go_enter Tryz.func26, Tryz.ntmps26
  go_upto_region 3 with (first | (go_at_call 53; refine (spec_l1Cur_key.calls _ l0 0 0 x1 p1 q1 w _ H0.out HB0.out H1.out).mono ?_; rintro e w1 ⟨rfl, hI1, hB1, _⟩))
  have HI1 := Aside0.mk hI1
  have HB1 := Aside0.mk hB1
  clear hI1 hB1 H0 HB0 H1
  obtain ⟨g, hg⟩ : ∃ g, g = w.heap.size := ⟨_, rfl⟩
  rw [← hg] at HI1
  simp only [← hg]
  clear hg
  cases t with
  | false =>
    have hR : Aside0 (spec_DrawKeysOfMoves.rest l0 x1 p1 q1 = some (r1, r2)) := ⟨by have := H.out; rw [if_neg (by simp)] at this; exact this⟩
    clear H
    go_upto_region 6 with (first | (go_at_call 55; refine (spec_thOne.calls k x1 false _ H2.out).mono ?_; rintro e w2 ⟨rfl, ⟨nd, rfl⟩⟩))
    have HI2 := Aside0.mk (IsS80.drewN HI1.out nd)
    have HB2 := Aside0.mk (pw_below_drewN HB1.out nd)
    clear HI1 HB1 H2
    generalize w1.drewN nd = W at *
    have hR' := hR.out
    unfold spec_DrawKeysOfMoves.rest at hR'
    obtain ⟨⟨n, p4, q4⟩, k1, hR1⟩ := Option.bind_eq_some_iff.1 hR'
    split at hR1
    · rename_i hn
      obtain ⟨⟨ms, p5, q5⟩, k2, hR2⟩ := Option.bind_eq_some_iff.1 hR1
      obtain ⟨⟨o6, p6, q6⟩, k3, hR3⟩ := Option.bind_eq_some_iff.1 hR2
      clear hR' hR1 hR2
      obtain ⟨nn, rfl⟩ : ∃ nn : Nat, n = (nn : Int) := ⟨n.toNat, by dsimp only at hn; omega⟩
      dsimp only at hn k2 k3 hR3
      rw [Int.toNat_natCast] at k2
      have K1 := Aside0.mk k1
      have K2 := Aside0.mk k2
      have K3 := Aside0.mk k3
      have K4 := Aside0.mk hR3
      clear k1 k2 k3 hR3 hR
      go_wp2_with (first | (go_at_call 57; refine (spec_l1Cur_pick.calls g l0 _ _ 12 (nn : Int) p4 q4 w _ HI2.out HB2.out K1.out).mono ?_; rintro e w6 ⟨rfl, hI6, hB6, _⟩))
      have HI6 := Aside0.mk hI6
      have HB6 := Aside0.mk hB6
      clear hI6 hB6 HI2 HB2 K1
      go_loopg [8, 9] nn (fun gg v8 v9 wr => ∃ (s : ByteArray) (p q : Int), v8 = .string s ∧ v9 = .int .i64 (gg : Int) ∧ gg ≤ nn ∧ Aside0 (spec_DrawKeysOfMoves.lp l0 gg p q s = some (ms, p5, q5)) ∧ Aside0 (IsS80 w wr g l0 p q) ∧ Aside0 (Below w.heap.size w wr))
      case atStart => exact ⟨_, _, _, rfl, rfl, Nat.le_refl _, K2, HI6, HB6⟩
      case round =>
        clear K2 HI6 HB6
        obtain ⟨s, p, q, rfl, rfl, hgg, HL, HI, HB⟩ := hrel
        cases gk with
        | zero =>
          have hl := HL.out
          rw [spec_DrawKeysOfMoves.lp] at hl
          simp only [Option.some.injEq, Prod.mk.injEq] at hl
          obtain ⟨rfl, rfl, rfl⟩ := hl
          have hz : decide ((0 : Int) < ((0 : Nat) : Int)) = false := by decide
          clear HL
          cases o6 with
          | false =>
            have h4 := K4.out
            rw [if_neg (by simp)] at h4
            obtain ⟨rfl, rfl⟩ := Prod.mk.inj (Option.some.inj h4)
            clear K4
            go_wp2_with (first | (go_at_call 54; refine (spec_l1Cur_one.calls g l0 _ _ 6 false p6 q6 w _ HI.out HB.out K3.out).mono ?_; rintro e w7 ⟨rfl, hI7, hB7, _⟩))
            go_ret2
            exact ⟨rfl, hB7⟩
          | true =>
            have h4 := K4.out
            rw [if_pos rfl] at h4
            obtain ⟨⟨x, p7, q7⟩, k5, h5⟩ := Option.bind_eq_some_iff.1 h4
            clear h4
            split at h5
            · rename_i hsz
              obtain ⟨rfl, rfl⟩ := Prod.mk.inj (Option.some.inj h5)
              have K5 := Aside0.mk k5
              clear K4 k5
              go_wp2_with (first | (go_at_call 54; refine (spec_l1Cur_one.calls g l0 _ _ 6 true p6 q6 w _ HI.out HB.out K3.out).mono ?_; rintro e w7 ⟨rfl, hI7, hB7, _⟩; have hlt7 := IsS80.lt hI7) | (go_at_call 65; refine (spec_l1Cur_of.calls g l0 p6 q6 (some ⟨w7.heap.size, 0, none⟩) 2 spec_DrawKeysOfMoves.xs x p7 q7 w _ (IsS80.alloc hI7 _) (below_alloc hB7 _) (spec_DrawKeysOfMoves.lit (blk_new w7 _) rfl (by decide)) (by decide) (fun ad e _ => by cases e; exact Nat.ne_of_gt hlt7) K5.out).mono ?_; rintro e w8 ⟨rfl, hI8, hB8, _⟩))
              go_ret2
              exact ⟨rfl, hB8⟩
            · cases h5
        | succ d =>
          have hl := HL.out
          rw [spec_DrawKeysOfMoves.lp] at hl
          obtain ⟨⟨x, p7, q7⟩, k5, hl2⟩ := Option.bind_eq_some_iff.1 hl
          clear hl
          split at hl2
          · rename_i hsz
            have K5 := Aside0.mk k5
            have HL2 : Aside0 (spec_DrawKeysOfMoves.lp l0 d p7 q7 (s ++ x) = some (ms, p5, q5)) := ⟨hl2⟩
            clear HL k5 hl2
            have hz : decide ((0 : Int) < ((d + 1 : Nat) : Int)) = true := decide_eq_true (by omega)
            have hz0 : (0 : Int) < ((d + 1 : Nat) : Int) := by omega
            have hw : IntKind.i64.wrap (((d + 1 : Nat) : Int) - 1) = (d : Int) := (i64_w _).trans (by unfold wrap64; omega)
            have hlt := IsS80.lt HI.out
            go_wp2_with (first | (go_at_call 65; refine (spec_l1Cur_of.calls g l0 p q (some ⟨wr.heap.size, 0, none⟩) 6 spec_DrawKeysOfMoves.mv x p7 q7 w _ (IsS80.alloc HI.out _) (below_alloc HB.out _) (spec_DrawKeysOfMoves.lit (blk_new wr _) rfl (by decide)) (by decide) (fun ad e _ => by cases e; exact Nat.ne_of_gt hlt) K5.out).mono ?_; rintro e w8 ⟨rfl, hI8, hB8, _⟩))
            have HI8 := Aside0.mk hI8
            have HB8 := Aside0.mk hB8
            clear hI8 hB8 HI HB K5
            go_roundg d
            case measure => omega
            case rel => exact ⟨s ++ x, p7, q7, rfl, by go_num, by omega, HL2, HI8, HB8⟩
          · cases hl2
    · cases hR1
  | true =>
    have h := H.out
    rw [if_pos rfl] at h
    obtain ⟨⟨o, p2, q2⟩, h3, h⟩ := Option.bind_eq_some_iff.1 h
    have H3 := Aside0.mk h3
    have HI1' : Aside0 (∀ m, IsS80 w (w1.drewN m) g l0 p1 q1) := ⟨fun m => IsS80.drewN HI1.out m⟩
    have HB1' : Aside0 (∀ m, Below w.heap.size w (w1.drewN m)) := ⟨fun m => pw_below_drewN HB1.out m⟩
    clear h3 H
    cases o with
    | true =>
      have hR : Aside0 (spec_DrawKeysOfMoves.rest l0 x1 p2 q2 = some (r1, r2)) := ⟨by rw [if_pos rfl] at h; exact h⟩
      clear h
      go_upto_region 6 with (first | (go_at_call 55; refine (spec_thOne.calls k x1 true _ H2.out).mono ?_; rintro e w2 ⟨rfl, ⟨nd, rfl⟩⟩) | (go_at_call 54; refine (spec_l1Cur_one.calls g l0 p1 q1 3 true p2 q2 w _ (HI1'.out _) (HB1'.out _) H3.out).mono ?_; rintro e W ⟨rfl, hI2, hB2, _⟩))
      have HI2 := Aside0.mk hI2
      have HB2 := Aside0.mk hB2
      clear hI2 hB2 HI1 HB1 H2 HI1' HB1' H3
      have hR' := hR.out
      unfold spec_DrawKeysOfMoves.rest at hR'
      obtain ⟨⟨n, p4, q4⟩, k1, hR1⟩ := Option.bind_eq_some_iff.1 hR'
      split at hR1
      · rename_i hn
        obtain ⟨⟨ms, p5, q5⟩, k2, hR2⟩ := Option.bind_eq_some_iff.1 hR1
        obtain ⟨⟨o6, p6, q6⟩, k3, hR3⟩ := Option.bind_eq_some_iff.1 hR2
        clear hR' hR1 hR2
        obtain ⟨nn, rfl⟩ : ∃ nn : Nat, n = (nn : Int) := ⟨n.toNat, by dsimp only at hn; omega⟩
        dsimp only at hn k2 k3 hR3
        rw [Int.toNat_natCast] at k2
        have K1 := Aside0.mk k1
        have K2 := Aside0.mk k2
        have K3 := Aside0.mk k3
        have K4 := Aside0.mk hR3
        clear k1 k2 k3 hR3 hR
        go_wp2_with (first | (go_at_call 57; refine (spec_l1Cur_pick.calls g l0 _ _ 12 (nn : Int) p4 q4 w _ HI2.out HB2.out K1.out).mono ?_; rintro e w6 ⟨rfl, hI6, hB6, _⟩))
        have HI6 := Aside0.mk hI6
        have HB6 := Aside0.mk hB6
        clear hI6 hB6 HI2 HB2 K1
        go_loopg [8, 9] nn (fun gg v8 v9 wr => ∃ (s : ByteArray) (p q : Int), v8 = .string s ∧ v9 = .int .i64 (gg : Int) ∧ gg ≤ nn ∧ Aside0 (spec_DrawKeysOfMoves.lp l0 gg p q s = some (ms, p5, q5)) ∧ Aside0 (IsS80 w wr g l0 p q) ∧ Aside0 (Below w.heap.size w wr))
        case atStart => exact ⟨_, _, _, rfl, rfl, Nat.le_refl _, K2, HI6, HB6⟩
        case round =>
          clear K2 HI6 HB6
          obtain ⟨s, p, q, rfl, rfl, hgg, HL, HI, HB⟩ := hrel
          cases gk with
          | zero =>
            have hl := HL.out
            rw [spec_DrawKeysOfMoves.lp] at hl
            simp only [Option.some.injEq, Prod.mk.injEq] at hl
            obtain ⟨rfl, rfl, rfl⟩ := hl
            have hz : decide ((0 : Int) < ((0 : Nat) : Int)) = false := by decide
            clear HL
            cases o6 with
            | false =>
              have h4 := K4.out
              rw [if_neg (by simp)] at h4
              obtain ⟨rfl, rfl⟩ := Prod.mk.inj (Option.some.inj h4)
              clear K4
              go_wp2_with (first | (go_at_call 54; refine (spec_l1Cur_one.calls g l0 _ _ 6 false p6 q6 w _ HI.out HB.out K3.out).mono ?_; rintro e w7 ⟨rfl, hI7, hB7, _⟩))
              go_ret2
              exact ⟨rfl, hB7⟩
            | true =>
              have h4 := K4.out
              rw [if_pos rfl] at h4
              obtain ⟨⟨x, p7, q7⟩, k5, h5⟩ := Option.bind_eq_some_iff.1 h4
              clear h4
              split at h5
              · rename_i hsz
                obtain ⟨rfl, rfl⟩ := Prod.mk.inj (Option.some.inj h5)
                have K5 := Aside0.mk k5
                clear K4 k5
                go_wp2_with (first | (go_at_call 54; refine (spec_l1Cur_one.calls g l0 _ _ 6 true p6 q6 w _ HI.out HB.out K3.out).mono ?_; rintro e w7 ⟨rfl, hI7, hB7, _⟩; have hlt7 := IsS80.lt hI7) | (go_at_call 65; refine (spec_l1Cur_of.calls g l0 p6 q6 (some ⟨w7.heap.size, 0, none⟩) 2 spec_DrawKeysOfMoves.xs x p7 q7 w _ (IsS80.alloc hI7 _) (below_alloc hB7 _) (spec_DrawKeysOfMoves.lit (blk_new w7 _) rfl (by decide)) (by decide) (fun ad e _ => by cases e; exact Nat.ne_of_gt hlt7) K5.out).mono ?_; rintro e w8 ⟨rfl, hI8, hB8, _⟩))
                go_ret2
                exact ⟨rfl, hB8⟩
              · cases h5
          | succ d =>
            have hl := HL.out
            rw [spec_DrawKeysOfMoves.lp] at hl
            obtain ⟨⟨x, p7, q7⟩, k5, hl2⟩ := Option.bind_eq_some_iff.1 hl
            clear hl
            split at hl2
            · rename_i hsz
              have K5 := Aside0.mk k5
              have HL2 : Aside0 (spec_DrawKeysOfMoves.lp l0 d p7 q7 (s ++ x) = some (ms, p5, q5)) := ⟨hl2⟩
              clear HL k5 hl2
              have hz : decide ((0 : Int) < ((d + 1 : Nat) : Int)) = true := decide_eq_true (by omega)
              have hz0 : (0 : Int) < ((d + 1 : Nat) : Int) := by omega
              have hw : IntKind.i64.wrap (((d + 1 : Nat) : Int) - 1) = (d : Int) := (i64_w _).trans (by unfold wrap64; omega)
              have hlt := IsS80.lt HI.out
              go_wp2_with (first | (go_at_call 65; refine (spec_l1Cur_of.calls g l0 p q (some ⟨wr.heap.size, 0, none⟩) 6 spec_DrawKeysOfMoves.mv x p7 q7 w _ (IsS80.alloc HI.out _) (below_alloc HB.out _) (spec_DrawKeysOfMoves.lit (blk_new wr _) rfl (by decide)) (by decide) (fun ad e _ => by cases e; exact Nat.ne_of_gt hlt) K5.out).mono ?_; rintro e w8 ⟨rfl, hI8, hB8, _⟩))
              have HI8 := Aside0.mk hI8
              have HB8 := Aside0.mk hB8
              clear hI8 hB8 HI HB K5
              go_roundg d
              case measure => omega
              case rel => exact ⟨s ++ x, p7, q7, rfl, by go_num, by omega, HL2, HI8, HB8⟩
            · cases hl2
      · cases hR1
    | false =>
      rw [if_neg (by simp)] at h
      obtain ⟨⟨m, p3, q3⟩, h4, h⟩ := Option.bind_eq_some_iff.1 h
      obtain ⟨⟨v, ok⟩, h5, h⟩ := Option.bind_eq_some_iff.1 h
      obtain ⟨rfl, rfl⟩ := Prod.mk.inj (Option.some.inj h)
      have H4 := Aside0.mk h4
      have H5 := Aside0.mk h5
      clear h4 h5 h
      go_wp2_with (first | (go_at_call 55; refine (spec_thOne.calls k x1 true _ H2.out).mono ?_; rintro e w2 ⟨rfl, ⟨nd, rfl⟩⟩) | (go_at_call 54; refine (spec_l1Cur_one.calls g l0 p1 q1 3 false p2 q2 w _ (HI1'.out _) (HB1'.out _) H3.out).mono ?_; rintro e W ⟨rfl, hI2, hB2, _⟩) | (go_at_call 64; refine (spec_l1Cur_sureDialed.calls k g l0 p2 q2 6 m p3 q3 w _ hI2 hB2 H4.out).mono ?_; rintro e w4 ⟨rfl, hI3, hB3, _⟩) | (go_at_call 25; refine (spec_MovesOf.calls k m x1 v ok _ H5.out).mono ?_; rintro e w5 ⟨rfl, ⟨nd2, rfl⟩⟩))
      go_ret2
      exact ⟨rfl, pw_below_drewN hB3 _⟩
end Go.Proofs.YtldnddehmpbbpaaGreatDoor.P
end

