/- Parts of the proof (printed walks, lemmas of our own, contracts of the library laid for this program), merged into one text by wip/mclaim.py. Conditions: each theorem's own. -/
import Derived.Test.YtldnddehmpbbpaaGreatDoorM0
import Derived.Test.YtldnddehmpbbpaaGreatDoorM3
import Derived.Test.YtldnddehmpbbpaaGreatDoorM1
import Derived.Test.YtldnddehmpbbpaaGreatDoorM4
import Derived.Lib.SlTrimSet
section
namespace Go.Proofs.YtldnddehmpbbpaaGreatDoor.P
open Go.RowKit Go.Proofs.YtldnddehmpbbpaaGreatDoorW.PrintWords Go.Proofs.YtldnddehmpbbpaaGreatDoorW.PrintLast Go.Proofs.YtldnddehmpbbpaaGreatDoorW.PrintMore
attribute [local go_sem] max2_int min2_int max_two min_two max_three min_three max_four min_four   -- for this text's walks alone
set_option linter.unusedVariables false
set_option linter.unusedSimpArgs false
mutual
def impl_KeysOfMoves.j0 : Nat → ByteArray → ByteArray → Bool → Option (ByteArray × Bool)
  | 0, _, _, _ => none
  | k + 1, x0, x1, x17 => if x17 = true then (some ((⟨#[]⟩ : ByteArray), false)) else (if 0 < (x0.size : Int) then ((impl_place.f (bt x0 0)).bind fun t288 => ((impl_place.f (bt x0 0)).bind fun t289 => (impl_KeysOfMoves.l0 k x1 (Int.tmod t288 3) (wrap64 (Int.tdiv t289 3)) (([] : List Int)) (x1.size : Int) 0))) else (none))
def impl_KeysOfMoves.l0 : Nat → ByteArray → Int → Int → List Int → Int → Int → Option (ByteArray × Bool)
  | 0, _, _, _, _, _, _ => none
  | k + 1, x1, x6, x7, x8, x28, x29 => if x29 < x28 then (if 0 ≤ x29 then (if x29 < (x1.size : Int) then (if (bt x1 x29) = 108 then (impl_KeysOfMoves.j2 k x1 (wrap64 (x6 - 1)) x7 x8 x28 x29) else (if (bt x1 x29) = 114 then (impl_KeysOfMoves.j2 k x1 (wrap64 (x6 + 1)) x7 x8 x28 x29) else (if (bt x1 x29) = 117 then (impl_KeysOfMoves.j2 k x1 x6 (wrap64 (x7 - 1)) x8 x28 x29) else (if (bt x1 x29) = 100 then (impl_KeysOfMoves.j2 k x1 x6 (wrap64 (x7 + 1)) x8 x28 x29) else (if (bt x1 x29) = 46 then (if 0 ≤ (wrap64 ((wrap64 (x7 * 3)) + x6)) then (if (wrap64 ((wrap64 (x7 * 3)) + x6)) < 12 then (if x8.length < 140737488355328 then (impl_KeysOfMoves.j2 k x1 x6 x7 (x8 ++ [bt (⟨#[49, 50, 51, 52, 53, 54, 55, 56, 57, 42, 48, 35]⟩ : ByteArray) (wrap64 ((wrap64 (x7 * 3)) + x6))]) x28 x29) else (none)) else (none)) else (none)) else (some ((⟨#[]⟩ : ByteArray), false))))))) else (none)) else (none)) else (if (x8.length : Int) > 30 then (some ((⟨#[]⟩ : ByteArray), false)) else (some (strOfNums x8, true)))
def impl_KeysOfMoves.j2 : Nat → ByteArray → Int → Int → List Int → Int → Int → Option (ByteArray × Bool)
  | 0, _, _, _, _, _, _ => none
  | k + 1, x1, x6, x7, x8, x28, x29 => (impl_in.f x6 0 2).bind fun t296 => (if t296 = true then ((impl_in.f x7 0 3).bind fun t297 => (if t297 = true then (impl_KeysOfMoves.l0 k x1 x6 x7 x8 x28 (wrap64 (x29 + 1))) else (some ((⟨#[]⟩ : ByteArray), false)))) else (some ((⟨#[]⟩ : ByteArray), false)))
end
def impl_KeysOfMoves.f (k : Nat) (a0 : ByteArray) (a1 : ByteArray) : Option (ByteArray × Bool) := (impl_isKey.f a0).bind fun t287 => (if t287 = true then (impl_KeysOfMoves.j0 k a0 a1 (decide ((a1.size : Int) > 200))) else (impl_KeysOfMoves.j0 k a0 a1 true))
theorem impl_KeysOfMoves.mono_l : ∀ k, (∀ y0 y1 y2, LeO (impl_KeysOfMoves.j0 k y0 y1 y2) (impl_KeysOfMoves.j0 (k + 1) y0 y1 y2)) ∧ (∀ y0 y1 y2 y3 y4 y5, LeO (impl_KeysOfMoves.l0 k y0 y1 y2 y3 y4 y5) (impl_KeysOfMoves.l0 (k + 1) y0 y1 y2 y3 y4 y5)) ∧ (∀ y0 y1 y2 y3 y4 y5, LeO (impl_KeysOfMoves.j2 k y0 y1 y2 y3 y4 y5) (impl_KeysOfMoves.j2 (k + 1) y0 y1 y2 y3 y4 y5))
  | 0 => ⟨fun _ _ _ r h => by simp [impl_KeysOfMoves.j0] at h, fun _ _ _ _ _ _ r h => by simp [impl_KeysOfMoves.l0] at h, fun _ _ _ _ _ _ r h => by simp [impl_KeysOfMoves.j2] at h⟩
  | k + 1 => by
    obtain ⟨ih0, ih1, ih2⟩ := impl_KeysOfMoves.mono_l k
    refine ⟨?_, ?_, ?_⟩
    · intro y0 y1 y2
      unfold impl_KeysOfMoves.j0
      repeat' first
      | (with_reducible exact ih0 _ _ _)
      | (with_reducible exact ih1 _ _ _ _ _ _)
      | (with_reducible exact ih2 _ _ _ _ _ _)
      | (with_reducible exact LeO.refl _)
      | (with_reducible exact LeO.none _)
      | (with_reducible refine LeO.ite ?_ ?_)
      | (with_reducible refine LeO.bind ?_ (fun _ => ?_))
      | exact ih0 _ _ _
      | exact ih1 _ _ _ _ _ _
      | exact ih2 _ _ _ _ _ _
      | exact LeO.none _
      | refine LeO.ite ?_ ?_
      | refine LeO.bind ?_ (fun _ => ?_)
    · intro y0 y1 y2 y3 y4 y5
      unfold impl_KeysOfMoves.l0
      repeat' first
      | (with_reducible exact ih0 _ _ _)
      | (with_reducible exact ih1 _ _ _ _ _ _)
      | (with_reducible exact ih2 _ _ _ _ _ _)
      | (with_reducible exact LeO.refl _)
      | (with_reducible exact LeO.none _)
      | (with_reducible refine LeO.ite ?_ ?_)
      | (with_reducible refine LeO.bind ?_ (fun _ => ?_))
      | exact ih0 _ _ _
      | exact ih1 _ _ _ _ _ _
      | exact ih2 _ _ _ _ _ _
      | exact LeO.none _
      | refine LeO.ite ?_ ?_
      | refine LeO.bind ?_ (fun _ => ?_)
    · intro y0 y1 y2 y3 y4 y5
      unfold impl_KeysOfMoves.j2
      repeat' first
      | (with_reducible exact ih0 _ _ _)
      | (with_reducible exact ih1 _ _ _ _ _ _)
      | (with_reducible exact ih2 _ _ _ _ _ _)
      | (with_reducible exact LeO.refl _)
      | (with_reducible exact LeO.none _)
      | (with_reducible refine LeO.ite ?_ ?_)
      | (with_reducible refine LeO.bind ?_ (fun _ => ?_))
      | exact ih0 _ _ _
      | exact ih1 _ _ _ _ _ _
      | exact ih2 _ _ _ _ _ _
      | exact LeO.none _
      | refine LeO.ite ?_ ?_
      | refine LeO.bind ?_ (fun _ => ?_)
theorem impl_KeysOfMoves.mono : ∀ a0 a1 k, LeO (impl_KeysOfMoves.f k a0 a1) (impl_KeysOfMoves.f (k + 1) a0 a1) := by
  intro a0 a1 k
  obtain ⟨ih0, ih1, ih2⟩ := impl_KeysOfMoves.mono_l k
  unfold impl_KeysOfMoves.f
  repeat' first
      | (with_reducible exact ih0 _ _ _)
      | (with_reducible exact ih1 _ _ _ _ _ _)
      | (with_reducible exact ih2 _ _ _ _ _ _)
      | (with_reducible exact LeO.refl _)
      | (with_reducible exact LeO.none _)
      | (with_reducible refine LeO.ite ?_ ?_)
      | (with_reducible refine LeO.bind ?_ (fun _ => ?_))
      | exact ih0 _ _ _
      | exact ih1 _ _ _ _ _ _
      | exact ih2 _ _ _ _ _ _
      | exact LeO.none _
      | refine LeO.ite ?_ ?_
      | refine LeO.bind ?_ (fun _ => ?_)
def impl_KeysOfMoves.T3 : Bool × List (List Nat × List Nat) := (true, [([], []), ([0], [0]), ([1], [1]), ([2], [2]), ([], []), ([4], [4]), ([5, 2], [5]), ([6], [6]), ([], []), ([3, 6, 0, 1, 2, 3], [3]), ([7, 9, 0, 1, 2, 3, 4, 5, 6, 7, 9], [7]), ([8, 10, 0, 1, 2, 3, 4, 5, 6, 7, 8, 9, 10], [8])])
def impl_KeysOfMoves.B3 : List Nat := [0, 1, 3, 7, 0, 16, 55, 119, 0, 127, 767, 2047]
theorem impl_KeysOfMoves.tab3 : rtab .any (opsOf Tryz.f27 3) = impl_KeysOfMoves.T3 := by kernel_rfl
theorem impl_KeysOfMoves.bits3 : waitsOk impl_KeysOfMoves.T3.2 impl_KeysOfMoves.B3 = true := by kernel_rfl
set_option maxHeartbeats 8000000 in
set_option maxRecDepth 100000 in
theorem impl_KeysOfMoves.calls (k : Nat) (a0 : ByteArray) (a1 : ByteArray) (r1 : ByteArray) (r2 : Bool) (w : World) (h : impl_KeysOfMoves.f k a0 a1 = some (r1, r2)) :
    Calls Tryz.prog 27 #[.string a0, .string a1] w fun e w' => e = .returned (.tuple #[.string r1, .bool r2]) ∧ Below w.heap.size w w' := by
  have HB := Aside0.mk (Below.refl w.heap.size w)
  have H : ((impl_isKey.f a0).bind fun t287 => (if t287 = true then (impl_KeysOfMoves.j0 k a0 a1 (decide ((a1.size : Int) > 200))) else (impl_KeysOfMoves.j0 k a0 a1 true))) = some (r1, r2) := h
  clear h
  have HC3 := Aside0.mk H
  clear H
  go_enter Tryz.func27, Tryz.ntmps27
  go_upto_region 1 with (fail)
  go_cut [17] (fun v17 wc => ∃ (kq : Nat) (x17_2 : Bool), v17 = .bool x17_2 ∧ Aside0 (impl_KeysOfMoves.j0 kq a0 a1 x17_2 = some (r1, r2)) ∧ Aside0 (kq ≤ k) ∧ Aside0 (Below w.heap.size w wc))
  case first =>
    have H := HC3.out
    clear HC3
    replace H := Option.bind_eq_some_iff.mp H
    obtain ⟨t287, A40, H⟩ := H
    replace H : (if t287 = true then (impl_KeysOfMoves.j0 k a0 a1 (decide ((a1.size : Int) > 200))) else (impl_KeysOfMoves.j0 k a0 a1 true)) = some (r1, r2) := H
    have A4 := Aside0.mk A40
    clear A40
    by_cases c5 : t287 = true
    · subst c5
      have H1 : (impl_KeysOfMoves.j0 k a0 a1 (decide ((a1.size : Int) > 200))) = some (r1, r2) := by rw [if_pos rfl] at H; exact H
      clear H
      have H := H1
      clear H1
      have H' := Aside0.mk H
      clear H
      go_wp2_with (first | ((with_reducible refine gate_callee (f := 47) rfl ?_); refine goesL_ (some 11) rfl rfl Tryz.func47 (by kernel_rfl) rfl #[.string a0] rfl (by (try simp only [List.map_toArray, List.map_cons, List.map_nil]); first | done | rfl | (simp only [List.length_drop, List.length_take]; rfl)) ?_; (with_reducible refine (impl_isKey.calls a0 true _ A4.out).mono ?_); rintro e w6 ⟨rfl, hb⟩; refine ⟨_, rfl, ?_⟩; have n0_ := Aside0.mk (below_step (by repeat (first | (with_reducible first | exact HB.out | apply below_alloc | apply pw_below_drewN | apply below_drew1) | exact HB.out)) hb); clear HB; have HB := n0_; clear n0_; (try clear hb); (try clear hb2); (try clear hk); (try clear hi)))
      go_meet
      case rel => exact ⟨_, (decide ((a1.size : Int) > 200)), (by first | rfl | (simp; done) | (simp [*]; done)), H', ⟨by first | omega | exact Nat.le_refl _⟩, ⟨by repeat (first | (with_reducible first | exact HB.out | apply below_alloc | apply pw_below_drewN | apply below_drew1) | exact HB.out)⟩⟩
    · replace c5 := Bool.eq_false_iff.mpr c5
      subst c5
      have H1 : (impl_KeysOfMoves.j0 k a0 a1 true) = some (r1, r2) := by rw [if_neg (show ¬ (false = true) by decide)] at H; exact H
      clear H
      have H := H1
      clear H1
      have H' := Aside0.mk H
      clear H
      go_wp2_with (first | ((with_reducible refine gate_callee (f := 47) rfl ?_); refine goesL_ (some 11) rfl rfl Tryz.func47 (by kernel_rfl) rfl #[.string a0] rfl (by (try simp only [List.map_toArray, List.map_cons, List.map_nil]); first | done | rfl | (simp only [List.length_drop, List.length_take]; rfl)) ?_; (with_reducible refine (impl_isKey.calls a0 false _ A4.out).mono ?_); rintro e w7 ⟨rfl, hb⟩; refine ⟨_, rfl, ?_⟩; have n0_ := Aside0.mk (below_step (by repeat (first | (with_reducible first | exact HB.out | apply below_alloc | apply pw_below_drewN | apply below_drew1) | exact HB.out)) hb); clear HB; have HB := n0_; clear n0_; (try clear hb); (try clear hb2); (try clear hk); (try clear hi)))
      go_meet
      case rel => exact ⟨_, (true), (by first | rfl | (simp; done) | (simp [*]; done)), H', ⟨by first | omega | exact Nat.le_refl _⟩, ⟨by repeat (first | (with_reducible first | exact HB.out | apply below_alloc | apply pw_below_drewN | apply below_drew1) | exact HB.out)⟩⟩
  case rest =>
    clear HC3
    try clear c2
    try clear p2
    try clear c4
    try clear c5
    obtain ⟨kq, x17_2, rfl, HA, HJ2, HB⟩ := hcut
    cases kq with
    | zero => exact absurd HA.out (by simp [impl_KeysOfMoves.j0])
    | succ kj2 =>
      have H := HA.out
      clear HA
      simp only [impl_KeysOfMoves.j0] at H
      by_cases c8 : x17_2 = true
      · subst c8
        have H1 : (some ((⟨#[]⟩ : ByteArray), false)) = some (r1, r2) := by rw [if_pos rfl] at H; exact H
        clear H
        have H := H1
        clear H1
        simp only [Option.some.injEq, Prod.mk.injEq] at H
        obtain ⟨rfl, rfl⟩ := H
        go_wp2
        go_ret2
        exact ⟨by first | rfl | (simp [errW_none, errW_some] <;> rfl) | (simp [*, errW_none, errW_some] <;> rfl), by repeat (first | (with_reducible first | exact HB.out | apply below_alloc | apply pw_below_drewN | apply below_drew1) | exact HB.out)⟩
      · replace c8 := Bool.eq_false_iff.mpr c8
        subst c8
        have H1 : (if 0 < (a0.size : Int) then ((impl_place.f (bt a0 0)).bind fun t288 => ((impl_place.f (bt a0 0)).bind fun t289 => (impl_KeysOfMoves.l0 kj2 a1 (Int.tmod t288 3) (wrap64 (Int.tdiv t289 3)) (([] : List Int)) (a1.size : Int) 0))) else (none)) = some (r1, r2) := by rw [if_neg (show ¬ (false = true) by decide)] at H; exact H
        clear H
        have H := H1
        clear H1
        by_cases c9 : 0 < (a0.size : Int)
        · rw [if_pos c9] at H
          have c9b0 : decide (0 < (a0.size : Int)) = true := decide_eq_true c9
          have c9b1 : decide (0 < a0.size) = true := decide_eq_true (by omega)
          clear c9
          replace H := Option.bind_eq_some_iff.mp H
          obtain ⟨t288, A110, H⟩ := H
          replace H : ((impl_place.f (bt a0 0)).bind fun t289 => (impl_KeysOfMoves.l0 kj2 a1 (Int.tmod t288 3) (wrap64 (Int.tdiv t289 3)) (([] : List Int)) (a1.size : Int) 0)) = some (r1, r2) := H
          have A11 := Aside0.mk A110
          clear A110
          replace H := Option.bind_eq_some_iff.mp H
          obtain ⟨t289, A130, H⟩ := H
          replace H : (impl_KeysOfMoves.l0 kj2 a1 (Int.tmod t288 3) (wrap64 (Int.tdiv t289 3)) (([] : List Int)) (a1.size : Int) 0) = some (r1, r2) := H
          have A13 := Aside0.mk A130
          clear A130
          obtain ⟨y290, hy290⟩ : ∃ y_ : List Int, y_ = (([] : List Int)) := ⟨_, rfl⟩
          replace H : (impl_KeysOfMoves.l0 kj2 a1 (Int.tmod t288 3) (wrap64 (Int.tdiv t289 3)) y290 (a1.size : Int) 0) = some (r1, r2) := by first | (rw [hy290]; with_reducible exact H) | (have H2_ := (Option.bind_some _ _).symm.trans H; rw [hy290]; with_reducible exact H2_) | (have H2_ := (Option.bind_some _ _).symm.trans H; with_reducible exact H2_) | with_reducible exact H | (rw [hy290]; exact H) | exact H
          have Ny290 := Aside0.mk hy290
          clear hy290
          have H' := Aside0.mk H
          clear H
          try go_wp2
          have n0_ := Aside0.mk (below_drew1 HB.out)
          clear HB
          have HB := n0_
          clear n0_
          have p10 : 0 ≤ (0 : Int) := (by omega)
          have q10 : 0 < a0.size := (by have : (0 : Int) < (a0.size : Int) := of_decide_eq_true (by first | (with_reducible assumption) | assumption); omega)
          have hx10 : ∀ h : 0 < a0.size, ((a0[0]'h).toNat : Int) = bt a0 0 := bt_at a0 0
          clear p10
          have qi10 : (0 < (a0.size : Int)) = True := eq_true (of_decide_eq_true (by first | (with_reducible assumption) | assumption))
          replace q10 := eq_true q10
          have p12 : 0 ≤ (0 : Int) := (by omega)
          have q12 : 0 < a0.size := (by have : (0 : Int) < (a0.size : Int) := of_decide_eq_true (by first | (with_reducible assumption) | assumption); omega)
          have hx12 : ∀ h : 0 < a0.size, ((a0[0]'h).toNat : Int) = bt a0 0 := bt_at a0 0
          clear p12
          have qi12 : (0 < (a0.size : Int)) = True := eq_true (of_decide_eq_true (by first | (with_reducible assumption) | assumption))
          replace q12 := eq_true q12
          refine start_ (n := 12) (S := fun w' => True) (ds := []) #[false, false, false, false, false, false, false, false, false, false, false, false] (by kernel_rfl) rfl rfl trivial (fun hHeld => ?_); refine with_tabW impl_KeysOfMoves.tab3 impl_KeysOfMoves.bits3 (fun HT_ HW_ => ?_)
          generalize wc.drew = w14 at HB hHeld ⊢
          refine pure_ (i := 0) (N := some 18) (v := ?_) (a' := ?_) #[true, false, false, false, false, false, false, false, false, false, false, false] rfl rfl (any_of HT_.out (by kernel_rfl)) (fun _ _ _ h => h) (Or.inl ⟨by rfl, ?_⟩) ?_ ?_
          rotate_left
          · intro w'
            go_simp
            with_reducible rfl
          rotate_left
          · simp only [Act.put, List.setIfInBounds_toArray, List.set_cons_zero, List.set_cons_succ, i64_w, i32_w]
            rfl
          refine pure_ (i := 4) (N := some 22) (v := ?_) (a' := ?_) #[true, false, false, false, true, false, false, false, false, false, false, false] rfl rfl (any_of HT_.out (by kernel_rfl)) (fun _ _ _ h => h) (Or.inl ⟨by rfl, ?_⟩) ?_ ?_
          rotate_left
          · intro w'
            go_simp
            with_reducible rfl
          rotate_left
          · simp only [Act.put, List.setIfInBounds_toArray, List.set_cons_zero, List.set_cons_succ, i64_w, i32_w]
            rfl
          refine take_ (i := 1) (N := some 19) (v := ?_) (a' := ?_) #[true, true, false, false, true, false, false, false, false, false, false, false] rfl rfl (take_ofW HT_.out HW_.out (by kernel_rfl)) (fun _ _ _ h => h) (Or.inl ⟨by rfl, ?_⟩) hHeld ?_ ?_
          rotate_left
          · intro w' _
            go_simp
            with_reducible rfl
          rotate_left
          · simp only [Act.put, List.setIfInBounds_toArray, List.set_cons_zero, List.set_cons_succ, i64_w, i32_w]
            rfl
          refine take_ (i := 5) (N := some 23) (v := ?_) (a' := ?_) #[true, true, false, false, true, true, false, false, false, false, false, false] rfl rfl (take_ofW HT_.out HW_.out (by kernel_rfl)) (fun _ _ _ h => h) (Or.inl ⟨by rfl, ?_⟩) hHeld ?_ ?_
          rotate_left
          · intro w' _
            go_simp
            with_reducible rfl
          rotate_left
          · simp only [Act.put, List.setIfInBounds_toArray, List.set_cons_zero, List.set_cons_succ, i64_w, i32_w]
            rfl
          refine join_ (σ := Value) 1 #[true, true, true, true, true, true, true, true, true, true, true, false] (fun s_ => [(20, .int .i64 t288), (24, .int .i64 t289), (26, s_), (21, .int .i64 (Int.tmod t288 3)), (25, .int .i64 (wrap64 (Int.tdiv t289 3))), (6, .int .i64 (Int.tmod t288 3)), (7, .int .i64 (wrap64 (Int.tdiv t289 3)))]) (fun s_ w' => (Kd.R (Kd.int .u8) 5 w' w.heap.size (fun _ => True) s_ y290) ∧ (Below w.heap.size w w')) ?_ ?_
          rotate_left
          · intro hCont
            refine two_ (i := 2) (j := 8) (Ni := some 20) (Nj := some 26) #[true, true, true, false, true, true, false, false, false, false, false, false] #[true, true, false, false, true, true, false, false, true, false, false, false] rfl rfl rfl rfl (two_of HT_.out (by kernel_rfl)) (by decide) (by decide) (fun K hK => ?_) (fun K hK => ?_)
            · skip
              refine goes_ Tryz.func49 (by kernel_rfl) rfl #[.int .u8 (bt a0 0)] (by rfl) rfl rfl (by (try simp only [List.map_toArray, List.map_cons, List.map_nil]); first | done | rfl | (simp only [List.length_drop, List.length_take]; rfl)) ?_
              with_reducible refine (impl_place.calls (bt a0 0) t288 _ A11.out).mono ?_
              rintro e w' ⟨rfl, ⟨nd, rfl⟩⟩
              refine ⟨_, rfl, ?_⟩
              refine hK.out _ _ trivial (fun hHeld => ?_)
              clear hK K
              refine norm_ (a' := ?_) ?_ ?_
              rotate_left
              · show Act.put _ (some 20) _ = _
                simp only [Act.put, List.setIfInBounds_toArray, List.set_cons_zero, List.set_cons_succ, i64_w, i32_w]
                rfl
              refine pure_ (i := 3) (N := some 21) (v := ?_) (a' := ?_) #[true, true, true, true, true, true, false, false, false, false, false, false] rfl rfl (any_of HT_.out (by kernel_rfl)) (fun _ _ _ h => h) (Or.inl ⟨by rfl, ?_⟩) ?_ ?_
              rotate_left
              · intro w'
                go_simp
                with_reducible rfl
              rotate_left
              · simp only [Act.put, List.setIfInBounds_toArray, List.set_cons_zero, List.set_cons_succ, i64_w, i32_w]
                rfl
              refine two_ (i := 6) (j := 8) (Ni := some 24) (Nj := some 26) #[true, true, true, true, true, true, true, false, false, false, false, false] #[true, true, true, true, true, true, false, false, true, false, false, false] rfl rfl rfl rfl (two_of HT_.out (by kernel_rfl)) (by decide) (by decide) (fun K hK => ?_) (fun K hK => ?_)
              · skip
                refine goes_ Tryz.func49 (by kernel_rfl) rfl #[.int .u8 (bt a0 0)] (by rfl) rfl rfl (by (try simp only [List.map_toArray, List.map_cons, List.map_nil]); first | done | rfl | (simp only [List.length_drop, List.length_take]; rfl)) ?_
                with_reducible refine (impl_place.calls (bt a0 0) t289 _ A13.out).mono ?_
                rintro e w' ⟨rfl, ⟨nd, rfl⟩⟩
                refine ⟨_, rfl, ?_⟩
                refine hK.out _ _ trivial (fun hHeld => ?_)
                clear hK K
                refine norm_ (a' := ?_) ?_ ?_
                rotate_left
                · show Act.put _ (some 24) _ = _
                  simp only [Act.put, List.setIfInBounds_toArray, List.set_cons_zero, List.set_cons_succ, i64_w, i32_w]
                  rfl
                refine pure_ (i := 7) (N := some 25) (v := ?_) (a' := ?_) #[true, true, true, true, true, true, true, true, false, false, false, false] rfl rfl (any_of HT_.out (by kernel_rfl)) (fun _ _ _ h => h) (Or.inl ⟨by rfl, ?_⟩) ?_ ?_
                rotate_left
                · intro w'
                  go_simp
                  with_reducible rfl
                rotate_left
                · simp only [Act.put, List.setIfInBounds_toArray, List.set_cons_zero, List.set_cons_succ, i64_w, i32_w]
                  rfl
                refine pure_ (i := 9) (N := some 6) (v := ?_) (a' := ?_) #[true, true, true, true, true, true, true, true, false, true, false, false] rfl rfl (any_of HT_.out (by kernel_rfl)) (fun _ _ _ h => h) (Or.inl ⟨by rfl, ?_⟩) ?_ ?_
                rotate_left
                · intro w'
                  go_simp
                  with_reducible rfl
                rotate_left
                · simp only [Act.put, List.setIfInBounds_toArray, List.set_cons_zero, List.set_cons_succ, i64_w, i32_w]
                  rfl
                refine pure_ (i := 10) (N := some 7) (v := ?_) (a' := ?_) #[true, true, true, true, true, true, true, true, false, true, true, false] rfl rfl (any_of HT_.out (by kernel_rfl)) (fun _ _ _ h => h) (Or.inl ⟨by rfl, ?_⟩) ?_ ?_
                rotate_left
                · intro w'
                  go_simp
                  with_reducible rfl
                rotate_left
                · simp only [Act.put, List.setIfInBounds_toArray, List.set_cons_zero, List.set_cons_succ, i64_w, i32_w]
                  rfl
                refine one_ (i := 8) (N := some 26) #[true, true, true, true, true, true, true, true, true, true, true, false] rfl rfl (one_of HT_.out (by kernel_rfl)) (by decide) (fun K hK => ?_)
                refine Kd.R_lit_step (Kd.int .u8) _ 5 ?hg (N := 26) ?hd (xs := ([] : List Int)) (inner := []) (ok := fun _ => True) (okp := fun _ => True) ?hr ?hp (fun _ hk => hk) trivial (Below.refl _ _) (Nat.le_refl _) (by simp) ?_; (case hd => rfl); (case hg => rfl); (case hr => first | (go_simp; done) | (go_simp; rfl)); (case hp => exact (Reps.none _ _))
                intro v291 w15 ho16 hb hg_ hnew_
                clear hg_ hnew_
                (first | rw [← Ny290.out] at ho16 | (simp only [Int.reduceToNat] at ho16; rw [← Ny290.out] at ho16))
                have n0_ := Aside0.mk (Kd.R_lower ho16 (below_size (by repeat (first | (with_reducible first | exact HB.out | apply below_alloc | apply pw_below_drewN | apply below_drew1) | exact HB.out))))
                have n1_ := Aside0.mk (below_step (by repeat (first | (with_reducible first | exact HB.out | apply below_alloc | apply pw_below_drewN | apply below_drew1) | exact HB.out)) hb)
                clear HB
                have HO292 := n0_
                have HB := n1_
                clear n0_ n1_
                clear hb ho16
                refine hK.out _ _ trivial (fun hHeld => ?_)
                clear hK K
                refine norm_ (a' := ?_) ?_ ?_
                rotate_left
                · show Act.put _ (some 26) _ = _
                  simp only [Act.put, List.setIfInBounds_toArray, List.set_cons_zero, List.set_cons_succ, i64_w, i32_w]
                  rfl
                exact norm_ (by simp only [putAll, Act.put, List.setIfInBounds_toArray, List.set_cons_zero, List.set_cons_succ]) (hCont (v291) _ ⟨(by (with_reducible repeat (first | apply Kd.R_alloc | apply Kd.R_drewN | apply Kd.R_drew)); exact HO292.out), (by repeat (first | (with_reducible first | exact HB.out | apply below_alloc | apply pw_below_drewN | apply below_drew1) | exact HB.out))⟩)
              · skip
                refine Kd.R_lit_step (Kd.int .u8) _ 5 ?hg (N := 26) ?hd (xs := ([] : List Int)) (inner := []) (ok := fun _ => True) (okp := fun _ => True) ?hr ?hp (fun _ hk => hk) trivial (Below.refl _ _) (Nat.le_refl _) (by simp) ?_; (case hd => rfl); (case hg => rfl); (case hr => first | (go_simp; done) | (go_simp; rfl)); (case hp => exact (Reps.none _ _))
                intro v291 w15 ho16 hb hg_ hnew_
                clear hg_ hnew_
                (first | rw [← Ny290.out] at ho16 | (simp only [Int.reduceToNat] at ho16; rw [← Ny290.out] at ho16))
                have n0_ := Aside0.mk (Kd.R_lower ho16 (below_size (by repeat (first | (with_reducible first | exact HB.out | apply below_alloc | apply pw_below_drewN | apply below_drew1) | exact HB.out))))
                have n1_ := Aside0.mk (below_step (by repeat (first | (with_reducible first | exact HB.out | apply below_alloc | apply pw_below_drewN | apply below_drew1) | exact HB.out)) hb)
                clear HB
                have HO292 := n0_
                have HB := n1_
                clear n0_ n1_
                clear hb ho16
                refine hK.out _ _ trivial (fun hHeld => ?_)
                clear hK K
                refine norm_ (a' := ?_) ?_ ?_
                rotate_left
                · show Act.put _ (some 26) _ = _
                  simp only [Act.put, List.setIfInBounds_toArray, List.set_cons_zero, List.set_cons_succ, i64_w, i32_w]
                  rfl
                refine one_ (i := 6) (N := some 24) #[true, true, true, true, true, true, true, false, true, false, false, false] rfl rfl (one_of HT_.out (by kernel_rfl)) (by decide) (fun K hK => ?_)
                refine goes_ Tryz.func49 (by kernel_rfl) rfl #[.int .u8 (bt a0 0)] (by rfl) rfl rfl (by (try simp only [List.map_toArray, List.map_cons, List.map_nil]); first | done | rfl | (simp only [List.length_drop, List.length_take]; rfl)) ?_
                with_reducible refine (impl_place.calls (bt a0 0) t289 _ A13.out).mono ?_
                rintro e w' ⟨rfl, ⟨nd, rfl⟩⟩
                refine ⟨_, rfl, ?_⟩
                refine hK.out _ _ trivial (fun hHeld => ?_)
                clear hK K
                refine norm_ (a' := ?_) ?_ ?_
                rotate_left
                · show Act.put _ (some 24) _ = _
                  simp only [Act.put, List.setIfInBounds_toArray, List.set_cons_zero, List.set_cons_succ, i64_w, i32_w]
                  rfl
                refine pure_ (i := 7) (N := some 25) (v := ?_) (a' := ?_) #[true, true, true, true, true, true, true, true, true, false, false, false] rfl rfl (any_of HT_.out (by kernel_rfl)) (fun _ _ _ h => h) (Or.inl ⟨by rfl, ?_⟩) ?_ ?_
                rotate_left
                · intro w'
                  go_simp
                  with_reducible rfl
                rotate_left
                · simp only [Act.put, List.setIfInBounds_toArray, List.set_cons_zero, List.set_cons_succ, i64_w, i32_w]
                  rfl
                refine pure_ (i := 9) (N := some 6) (v := ?_) (a' := ?_) #[true, true, true, true, true, true, true, true, true, true, false, false] rfl rfl (any_of HT_.out (by kernel_rfl)) (fun _ _ _ h => h) (Or.inl ⟨by rfl, ?_⟩) ?_ ?_
                rotate_left
                · intro w'
                  go_simp
                  with_reducible rfl
                rotate_left
                · simp only [Act.put, List.setIfInBounds_toArray, List.set_cons_zero, List.set_cons_succ, i64_w, i32_w]
                  rfl
                refine pure_ (i := 10) (N := some 7) (v := ?_) (a' := ?_) #[true, true, true, true, true, true, true, true, true, true, true, false] rfl rfl (any_of HT_.out (by kernel_rfl)) (fun _ _ _ h => h) (Or.inl ⟨by rfl, ?_⟩) ?_ ?_
                rotate_left
                · intro w'
                  go_simp
                  with_reducible rfl
                rotate_left
                · simp only [Act.put, List.setIfInBounds_toArray, List.set_cons_zero, List.set_cons_succ, i64_w, i32_w]
                  rfl
                exact norm_ (by simp only [putAll, Act.put, List.setIfInBounds_toArray, List.set_cons_zero, List.set_cons_succ]) (hCont (v291) _ ⟨(by (with_reducible repeat (first | apply Kd.R_alloc | apply Kd.R_drewN | apply Kd.R_drew)); exact HO292.out), (by repeat (first | (with_reducible first | exact HB.out | apply below_alloc | apply pw_below_drewN | apply below_drew1) | exact HB.out))⟩)
            · skip
              refine Kd.R_lit_step (Kd.int .u8) _ 5 ?hg (N := 26) ?hd (xs := ([] : List Int)) (inner := []) (ok := fun _ => True) (okp := fun _ => True) ?hr ?hp (fun _ hk => hk) trivial (Below.refl _ _) (Nat.le_refl _) (by simp) ?_; (case hd => rfl); (case hg => rfl); (case hr => first | (go_simp; done) | (go_simp; rfl)); (case hp => exact (Reps.none _ _))
              intro v291 w15 ho16 hb hg_ hnew_
              clear hg_ hnew_
              (first | rw [← Ny290.out] at ho16 | (simp only [Int.reduceToNat] at ho16; rw [← Ny290.out] at ho16))
              have n0_ := Aside0.mk (Kd.R_lower ho16 (below_size (by repeat (first | (with_reducible first | exact HB.out | apply below_alloc | apply pw_below_drewN | apply below_drew1) | exact HB.out))))
              have n1_ := Aside0.mk (below_step (by repeat (first | (with_reducible first | exact HB.out | apply below_alloc | apply pw_below_drewN | apply below_drew1) | exact HB.out)) hb)
              clear HB
              have HO292 := n0_
              have HB := n1_
              clear n0_ n1_
              clear hb ho16
              refine hK.out _ _ trivial (fun hHeld => ?_)
              clear hK K
              refine norm_ (a' := ?_) ?_ ?_
              rotate_left
              · show Act.put _ (some 26) _ = _
                simp only [Act.put, List.setIfInBounds_toArray, List.set_cons_zero, List.set_cons_succ, i64_w, i32_w]
                rfl
              refine one_ (i := 2) (N := some 20) #[true, true, true, false, true, true, false, false, true, false, false, false] rfl rfl (one_of HT_.out (by kernel_rfl)) (by decide) (fun K hK => ?_)
              refine goes_ Tryz.func49 (by kernel_rfl) rfl #[.int .u8 (bt a0 0)] (by rfl) rfl rfl (by (try simp only [List.map_toArray, List.map_cons, List.map_nil]); first | done | rfl | (simp only [List.length_drop, List.length_take]; rfl)) ?_
              with_reducible refine (impl_place.calls (bt a0 0) t288 _ A11.out).mono ?_
              rintro e w' ⟨rfl, ⟨nd, rfl⟩⟩
              refine ⟨_, rfl, ?_⟩
              refine hK.out _ _ trivial (fun hHeld => ?_)
              clear hK K
              refine norm_ (a' := ?_) ?_ ?_
              rotate_left
              · show Act.put _ (some 20) _ = _
                simp only [Act.put, List.setIfInBounds_toArray, List.set_cons_zero, List.set_cons_succ, i64_w, i32_w]
                rfl
              refine pure_ (i := 3) (N := some 21) (v := ?_) (a' := ?_) #[true, true, true, true, true, true, false, false, true, false, false, false] rfl rfl (any_of HT_.out (by kernel_rfl)) (fun _ _ _ h => h) (Or.inl ⟨by rfl, ?_⟩) ?_ ?_
              rotate_left
              · intro w'
                go_simp
                with_reducible rfl
              rotate_left
              · simp only [Act.put, List.setIfInBounds_toArray, List.set_cons_zero, List.set_cons_succ, i64_w, i32_w]
                rfl
              refine one_ (i := 6) (N := some 24) #[true, true, true, true, true, true, true, false, true, false, false, false] rfl rfl (one_of HT_.out (by kernel_rfl)) (by decide) (fun K hK => ?_)
              refine goes_ Tryz.func49 (by kernel_rfl) rfl #[.int .u8 (bt a0 0)] (by rfl) rfl rfl (by (try simp only [List.map_toArray, List.map_cons, List.map_nil]); first | done | rfl | (simp only [List.length_drop, List.length_take]; rfl)) ?_
              with_reducible refine (impl_place.calls (bt a0 0) t289 _ A13.out).mono ?_
              rintro e w' ⟨rfl, ⟨nd, rfl⟩⟩
              refine ⟨_, rfl, ?_⟩
              refine hK.out _ _ trivial (fun hHeld => ?_)
              clear hK K
              refine norm_ (a' := ?_) ?_ ?_
              rotate_left
              · show Act.put _ (some 24) _ = _
                simp only [Act.put, List.setIfInBounds_toArray, List.set_cons_zero, List.set_cons_succ, i64_w, i32_w]
                rfl
              refine pure_ (i := 7) (N := some 25) (v := ?_) (a' := ?_) #[true, true, true, true, true, true, true, true, true, false, false, false] rfl rfl (any_of HT_.out (by kernel_rfl)) (fun _ _ _ h => h) (Or.inl ⟨by rfl, ?_⟩) ?_ ?_
              rotate_left
              · intro w'
                go_simp
                with_reducible rfl
              rotate_left
              · simp only [Act.put, List.setIfInBounds_toArray, List.set_cons_zero, List.set_cons_succ, i64_w, i32_w]
                rfl
              refine pure_ (i := 9) (N := some 6) (v := ?_) (a' := ?_) #[true, true, true, true, true, true, true, true, true, true, false, false] rfl rfl (any_of HT_.out (by kernel_rfl)) (fun _ _ _ h => h) (Or.inl ⟨by rfl, ?_⟩) ?_ ?_
              rotate_left
              · intro w'
                go_simp
                with_reducible rfl
              rotate_left
              · simp only [Act.put, List.setIfInBounds_toArray, List.set_cons_zero, List.set_cons_succ, i64_w, i32_w]
                rfl
              refine pure_ (i := 10) (N := some 7) (v := ?_) (a' := ?_) #[true, true, true, true, true, true, true, true, true, true, true, false] rfl rfl (any_of HT_.out (by kernel_rfl)) (fun _ _ _ h => h) (Or.inl ⟨by rfl, ?_⟩) ?_ ?_
              rotate_left
              · intro w'
                go_simp
                with_reducible rfl
              rotate_left
              · simp only [Act.put, List.setIfInBounds_toArray, List.set_cons_zero, List.set_cons_succ, i64_w, i32_w]
                rfl
              exact norm_ (by simp only [putAll, Act.put, List.setIfInBounds_toArray, List.set_cons_zero, List.set_cons_succ]) (hCont (v291) _ ⟨(by (with_reducible repeat (first | apply Kd.R_alloc | apply Kd.R_drewN | apply Kd.R_drew)); exact HO292.out), (by repeat (first | (with_reducible first | exact HB.out | apply below_alloc | apply pw_below_drewN | apply below_drew1) | exact HB.out))⟩)
          rintro v291 w17 ⟨h0_, h1_⟩
          have n0_ : Aside0 (Kd.R (Kd.int .u8) 5 w17 w.heap.size (fun _ => True) v291 y290) := ⟨h0_⟩
          have n1_ : Aside0 (Below w.heap.size w w17) := ⟨h1_⟩
          clear HB
          clear h0_ h1_
          have HO292 := n0_
          have HB := n1_
          clear n0_ n1_
          have hHeld := trivial
          refine norm_ (a' := ?_) ?_ ?_
          rotate_left
          · simp only [putAll, Act.put, List.setIfInBounds_toArray, List.set_cons_zero, List.set_cons_succ]
            rfl
          refine pure_ (i := 11) (N := some 8) (v := ?_) (a' := ?_) #[true, true, true, true, true, true, true, true, true, true, true, true] rfl rfl (any_of HT_.out (by kernel_rfl)) (fun _ _ _ h => h) (Or.inl ⟨by rfl, ?_⟩) ?_ ?_
          rotate_left
          · intro w'
            go_simp
            with_reducible rfl
          rotate_left
          · simp only [Act.put, List.setIfInBounds_toArray, List.set_cons_zero, List.set_cons_succ, i64_w, i32_w]
            rfl
          refine done_ (done_of HT_.out (by kernel_rfl)) ?_
          try go_wp2
          go_loopg [6, 7, 8, 29] kj2 (fun kq v6 v7 v8 v29 w' => ∃ (x6_2 : Int) (x7_2 : Int) (x8_2 : List Int) (x29_2 : Int), v6 = .int .i64 x6_2 ∧ v7 = .int .i64 x7_2 ∧ v29 = .int .i64 x29_2 ∧ Aside0 (impl_KeysOfMoves.l0 kq a1 x6_2 x7_2 x8_2 (a1.size : Int) x29_2 = some (r1, r2)) ∧ Aside0 (kq ≤ kj2) ∧ Aside0 (Kd.R (Kd.int .u8) 5 w' w.heap.size (fun _ => True) v8 x8_2) ∧ Aside0 (Below w.heap.size w w'))
          case atStart => exact ⟨(Int.tmod t288 3), (wrap64 (Int.tdiv t289 3)), (y290), (0), (by first | rfl | (simp; done) | (simp [*]; done)), (by first | rfl | (simp; done) | (simp [*]; done)), (by first | rfl | (simp; done) | (simp [*]; done)), H', ⟨Nat.le_refl _⟩, ⟨by (with_reducible repeat (first | apply Kd.R_alloc | apply Kd.R_drewN | apply Kd.R_drew)); exact HO292.out⟩, ⟨by repeat (first | (with_reducible first | exact HB.out | apply below_alloc | apply pw_below_drewN | apply below_drew1) | exact HB.out)⟩⟩
          case round =>
            clear H'
            try clear p1
            try clear q1
            try clear hx1
            try clear qi1
            try clear c2
            try clear p2
            try clear c4
            try clear c5
            try clear p6
            try clear c8
            try clear c9
            try clear c9b0
            try clear c9b1
            try clear p10
            try clear q10
            try clear hx10
            try clear qi10
            try clear p12
            try clear q12
            try clear hx12
            try clear qi12
            try clear p10
            try clear p12
            try clear p2
            try clear q10
            try clear q12
            obtain ⟨x6_2, x7_2, x8_2, x29_2, rfl, rfl, rfl, HA, HK2, HO_8, HB⟩ := hrel
            cases gk with
            | zero => exact absurd HA.out (by simp [impl_KeysOfMoves.l0])
            | succ k2 =>
              have H := HA.out
              clear HA
              simp only [impl_KeysOfMoves.l0] at H
              by_cases c18 : x29_2 < (a1.size : Int)
              · rw [if_pos c18] at H
                have c18b0 : decide (x29_2 < (a1.size : Int)) = true := decide_eq_true c18
                clear c18
                by_cases c19 : 0 ≤ x29_2
                · rw [if_pos c19] at H
                  have c19b0 : decide (0 ≤ x29_2) = true := decide_eq_true c19
                  clear c19
                  by_cases c20 : x29_2 < (a1.size : Int)
                  · rw [if_pos c20] at H
                    have c20b0 : decide (x29_2 < (a1.size : Int)) = true := decide_eq_true c20
                    clear c20
                    have HC22 := Aside0.mk H
                    clear H
                    have p21 : 0 ≤ (x29_2 : Int) := of_decide_eq_true (by first | (with_reducible assumption) | assumption)
                    have q21 : x29_2 < (a1.size : Int) := of_decide_eq_true (by first | (with_reducible assumption) | assumption)
                    have hx21 := bt_at a1 x29_2
                    replace p21 := eq_true p21
                    replace q21 := eq_true q21
                    go_upto_block 2 with (fail)
                    go_cut [6, 7, 8] (fun v6 v7 v8 wc => ∃ (kq : Nat) (x6_21 : Int) (x7_21 : Int) (x8_21 : List Int), v6 = .int .i64 x6_21 ∧ v7 = .int .i64 x7_21 ∧ Aside0 (impl_KeysOfMoves.j2 kq a1 x6_21 x7_21 x8_21 (a1.size : Int) x29_2 = some (r1, r2)) ∧ Aside0 (kq ≤ k2) ∧ Aside0 (Kd.R (Kd.int .u8) 5 wc w.heap.size (fun _ => True) v8 x8_21) ∧ Aside0 (Below w.heap.size w wc))
                    case first =>
                      have H := HC22.out
                      clear HC22
                      by_cases c23 : (bt a1 x29_2) = 108
                      · rw [if_pos c23] at H
                        have c23b0 : ((bt a1 x29_2) == 108) = true := beq_iff_eq.mpr c23
                        have c23b1 : ((bt a1 x29_2) != 108) = false := bne_eq_false_iff_eq.mpr c23
                        clear c23
                        (first | rw [c23b0] | (simp only [i64_w, i32_w]; rw [c23b0]) | skip)
                        have H' := Aside0.mk H
                        clear H
                        go_wp2
                        go_meet
                        case rel => exact ⟨_, (wrap64 (x6_2 - 1)), (x7_2), (x8_2), (by first | rfl | (simp; done) | (simp [*]; done)), (by first | rfl | (simp; done) | (simp [*]; done)), H', ⟨by have := HJ2.out; have := HK2.out; first | omega | exact Nat.le_refl _⟩, ⟨by (with_reducible repeat (first | apply Kd.R_alloc | apply Kd.R_drewN | apply Kd.R_drew)); exact HO_8.out⟩, ⟨by repeat (first | (with_reducible first | exact HB.out | apply below_alloc | apply pw_below_drewN | apply below_drew1) | exact HB.out)⟩⟩
                      · rw [if_neg c23] at H
                        have c23b0 : ((bt a1 x29_2) == 108) = false := beq_eq_false_iff_ne.mpr c23
                        have c23b1 : ((bt a1 x29_2) != 108) = true := bne_iff_ne.mpr c23
                        (first | rw [c23b0] | (simp only [i64_w, i32_w]; rw [c23b0]) | skip)
                        by_cases c24 : (bt a1 x29_2) = 114
                        · rw [if_pos c24] at H
                          have c24b0 : ((bt a1 x29_2) == 114) = true := beq_iff_eq.mpr c24
                          have c24b1 : ((bt a1 x29_2) != 114) = false := bne_eq_false_iff_eq.mpr c24
                          clear c24
                          have H' := Aside0.mk H
                          clear H
                          go_wp2
                          go_meet
                          case rel => exact ⟨_, (wrap64 (x6_2 + 1)), (x7_2), (x8_2), (by first | rfl | (simp; done) | (simp [*]; done)), (by first | rfl | (simp; done) | (simp [*]; done)), H', ⟨by have := HJ2.out; have := HK2.out; first | omega | exact Nat.le_refl _⟩, ⟨by (with_reducible repeat (first | apply Kd.R_alloc | apply Kd.R_drewN | apply Kd.R_drew)); exact HO_8.out⟩, ⟨by repeat (first | (with_reducible first | exact HB.out | apply below_alloc | apply pw_below_drewN | apply below_drew1) | exact HB.out)⟩⟩
                        · rw [if_neg c24] at H
                          have c24b0 : ((bt a1 x29_2) == 114) = false := beq_eq_false_iff_ne.mpr c24
                          have c24b1 : ((bt a1 x29_2) != 114) = true := bne_iff_ne.mpr c24
                          by_cases c25 : (bt a1 x29_2) = 117
                          · rw [if_pos c25] at H
                            have c25b0 : ((bt a1 x29_2) == 117) = true := beq_iff_eq.mpr c25
                            have c25b1 : ((bt a1 x29_2) != 117) = false := bne_eq_false_iff_eq.mpr c25
                            clear c25
                            have H' := Aside0.mk H
                            clear H
                            go_wp2
                            go_meet
                            case rel => exact ⟨_, (x6_2), (wrap64 (x7_2 - 1)), (x8_2), (by first | rfl | (simp; done) | (simp [*]; done)), (by first | rfl | (simp; done) | (simp [*]; done)), H', ⟨by have := HJ2.out; have := HK2.out; first | omega | exact Nat.le_refl _⟩, ⟨by (with_reducible repeat (first | apply Kd.R_alloc | apply Kd.R_drewN | apply Kd.R_drew)); exact HO_8.out⟩, ⟨by repeat (first | (with_reducible first | exact HB.out | apply below_alloc | apply pw_below_drewN | apply below_drew1) | exact HB.out)⟩⟩
                          · rw [if_neg c25] at H
                            have c25b0 : ((bt a1 x29_2) == 117) = false := beq_eq_false_iff_ne.mpr c25
                            have c25b1 : ((bt a1 x29_2) != 117) = true := bne_iff_ne.mpr c25
                            by_cases c26 : (bt a1 x29_2) = 100
                            · rw [if_pos c26] at H
                              have c26b0 : ((bt a1 x29_2) == 100) = true := beq_iff_eq.mpr c26
                              have c26b1 : ((bt a1 x29_2) != 100) = false := bne_eq_false_iff_eq.mpr c26
                              clear c26
                              have H' := Aside0.mk H
                              clear H
                              go_wp2
                              go_meet
                              case rel => exact ⟨_, (x6_2), (wrap64 (x7_2 + 1)), (x8_2), (by first | rfl | (simp; done) | (simp [*]; done)), (by first | rfl | (simp; done) | (simp [*]; done)), H', ⟨by have := HJ2.out; have := HK2.out; first | omega | exact Nat.le_refl _⟩, ⟨by (with_reducible repeat (first | apply Kd.R_alloc | apply Kd.R_drewN | apply Kd.R_drew)); exact HO_8.out⟩, ⟨by repeat (first | (with_reducible first | exact HB.out | apply below_alloc | apply pw_below_drewN | apply below_drew1) | exact HB.out)⟩⟩
                            · rw [if_neg c26] at H
                              have c26b0 : ((bt a1 x29_2) == 100) = false := beq_eq_false_iff_ne.mpr c26
                              have c26b1 : ((bt a1 x29_2) != 100) = true := bne_iff_ne.mpr c26
                              by_cases c27 : (bt a1 x29_2) = 46
                              · rw [if_pos c27] at H
                                have c27b0 : ((bt a1 x29_2) == 46) = true := beq_iff_eq.mpr c27
                                have c27b1 : ((bt a1 x29_2) != 46) = false := bne_eq_false_iff_eq.mpr c27
                                clear c27
                                obtain ⟨ji28, hji28⟩ : ∃ j_ : Int, (wrap64 ((wrap64 (x7_2 * 3)) + x6_2)) = j_ := ⟨_, rfl⟩
                                replace H : (if 0 ≤ (ji28) then (if (ji28) < 12 then (if x8_2.length < 140737488355328 then (impl_KeysOfMoves.j2 k2 a1 x6_2 x7_2 (x8_2 ++ [bt (⟨#[49, 50, 51, 52, 53, 54, 55, 56, 57, 42, 48, 35]⟩ : ByteArray) (ji28)]) (a1.size : Int) x29_2) else (none)) else (none)) else (none)) = some (r1, r2) := by first | (rw [hji28] at H; exact H) | (simp only [hji28] at H ⊢; exact H)
                                have hji28w : (IntKind.i64.wrap ((wrap64 (x7_2 * 3)) + x6_2)) = ji28 := (i64_w _).trans hji28
                                by_cases c29 : 0 ≤ (ji28)
                                · rw [if_pos c29] at H
                                  have c29b0 : decide (0 ≤ (ji28)) = true := decide_eq_true c29
                                  clear c29
                                  by_cases c30 : (ji28) < 12
                                  · rw [if_pos c30] at H
                                    have c30b0 : decide ((ji28) < 12) = true := decide_eq_true c30
                                    clear c30
                                    by_cases c32 : x8_2.length < 140737488355328
                                    · rw [if_pos c32] at H
                                      have LMc32 := Aside0.mk c32
                                      clear c32
                                      obtain ⟨y293, hy293⟩ : ∃ y_ : List Int, y_ = (x8_2 ++ [bt (⟨#[49, 50, 51, 52, 53, 54, 55, 56, 57, 42, 48, 35]⟩ : ByteArray) (ji28)]) := ⟨_, rfl⟩
                                      replace H : (impl_KeysOfMoves.j2 k2 a1 x6_2 x7_2 y293 (a1.size : Int) x29_2) = some (r1, r2) := by first | (rw [hy293]; with_reducible exact H) | (have H2_ := (Option.bind_some _ _).symm.trans H; rw [hy293]; with_reducible exact H2_) | (have H2_ := (Option.bind_some _ _).symm.trans H; with_reducible exact H2_) | with_reducible exact H | (rw [hy293]; exact H) | exact H
                                      have Ny293 := Aside0.mk hy293
                                      clear hy293
                                      have H' := Aside0.mk H
                                      clear H
                                      have p31 : 0 ≤ ((ji28) : Int) := of_decide_eq_true (by first | (with_reducible assumption) | assumption)
                                      have q31 : (ji28) < (12 : Int) := of_decide_eq_true (by first | (with_reducible assumption) | assumption)
                                      have hx31 := bt_at (⟨#[49, 50, 51, 52, 53, 54, 55, 56, 57, 42, 48, 35]⟩ : ByteArray) (ji28)
                                      replace p31 := eq_true p31
                                      replace q31 := eq_true q31
                                      go_wp2_with (first | ((with_reducible refine gate_builtin (b := .append) (xs := #[.tmp 53, .tmp 59]) rfl ?_); (try (refine gate_guard (by rfl) ?_; dsimp only)); at_builtin; refine Kd.R_append (Kd.int .u8) (w0 := w) w.heap.size rfl (.tmp 53) (.tmp 59) 22 5 (.int .u8 0) 1 rfl Tryz.underlying22 info5 rfl (by decide) (by omega) u8 x8_2 (bt (⟨#[49, 50, 51, 52, 53, 54, 55, 56, 57, 42, 48, 35]⟩ : ByteArray) (ji28)) [.int .u8 (bt (⟨#[49, 50, 51, 52, 53, 54, 55, 56, 57, 42, 48, 35]⟩ : ByteArray) (ji28))] (fun _ => True) (fun _ => False) rfl rfl ?aP (fun _ hk => hk.elim) ?aF ?aO ?aB ?aS ?aL ?_; (case aP => exact rfl); (case aB => exact (by repeat (first | (with_reducible first | exact HB.out | apply below_alloc | apply pw_below_drewN | apply below_drew1) | exact HB.out))); (case aF => exact (fun _ _ => trivial)); (case aO => exact (by (with_reducible repeat (first | apply Kd.R_alloc | apply Kd.R_drewN | apply Kd.R_drew)); exact HO_8.out)); (case aS => exact (below_size (by repeat (first | (with_reducible first | exact HB.out | apply below_alloc | apply pw_below_drewN | apply below_drew1) | exact HB.out)))); (case aL => have := LMc32.out; omega); intro v294 w33 ho hb hg hat; rw [← Ny293.out] at ho; have n0_ := Aside0.mk (hb); have n1_ := Aside0.mk (ho); clear HB; clear HO_8; have HB := n0_; have HO295 := n1_; clear n0_ n1_; clear ho hb hg hat))
                                      first | go_meet | ((try rw [← hji28]); go_meet)
                                      case rel => exact ⟨_, (x6_2), (x7_2), (y293), (by first | rfl | (simp; done) | (simp [*]; done)), (by first | rfl | (simp; done) | (simp [*]; done)), (by first | exact H' | ((try rw [hji28]); exact H')), ⟨by have := HJ2.out; have := HK2.out; first | omega | exact Nat.le_refl _⟩, ⟨by (with_reducible repeat (first | apply Kd.R_alloc | apply Kd.R_drewN | apply Kd.R_drew)); exact HO295.out⟩, ⟨by repeat (first | (with_reducible first | exact HB.out | apply below_alloc | apply pw_below_drewN | apply below_drew1) | exact HB.out)⟩⟩
                                    · rw [if_neg c32] at H
                                      exact absurd H (by simp)
                                  · rw [if_neg c30] at H
                                    exact absurd H (by simp)
                                · rw [if_neg c29] at H
                                  exact absurd H (by simp)
                              · rw [if_neg c27] at H
                                have c27b0 : ((bt a1 x29_2) == 46) = false := beq_eq_false_iff_ne.mpr c27
                                have c27b1 : ((bt a1 x29_2) != 46) = true := bne_iff_ne.mpr c27
                                simp only [Option.some.injEq, Prod.mk.injEq] at H
                                obtain ⟨rfl, rfl⟩ := H
                                go_wp2
                                go_ret2
                                exact ⟨by first | rfl | (simp [errW_none, errW_some] <;> rfl) | (simp [*, errW_none, errW_some] <;> rfl), by repeat (first | (with_reducible first | exact HB.out | apply below_alloc | apply pw_below_drewN | apply below_drew1) | exact HB.out)⟩
                    case rest =>
                      clear HC22
                      try clear c1
                      try clear p1
                      try clear q1
                      try clear hx1
                      try clear qi1
                      try clear c2
                      try clear p2
                      try clear q2
                      try clear hx2
                      try clear c3
                      try clear p3
                      try clear q3
                      try clear hx3
                      try clear c4
                      try clear c5
                      try clear p6
                      try clear c8
                      try clear c9
                      try clear c9b0
                      try clear c9b1
                      try clear p10
                      try clear q10
                      try clear hx10
                      try clear qi10
                      try clear p12
                      try clear q12
                      try clear hx12
                      try clear qi12
                      try clear c18
                      try clear c18b0
                      try clear c19
                      try clear c19b0
                      try clear c20
                      try clear c20b0
                      try clear p21
                      try clear q21
                      try clear hx21
                      try clear c23
                      try clear c23b0
                      try clear c23b1
                      try clear c24
                      try clear c24b0
                      try clear c24b1
                      try clear c25
                      try clear c25b0
                      try clear c25b1
                      try clear c26
                      try clear c26b0
                      try clear c26b1
                      try clear c27
                      try clear c27b0
                      try clear c27b1
                      try clear c29
                      try clear c29b0
                      try clear c30
                      try clear c30b0
                      try clear p31
                      try clear q31
                      try clear hx31
                      try clear c32
                      try clear p1
                      try clear p10
                      try clear p12
                      try clear p2
                      try clear p21
                      try clear p31
                      try clear p6
                      try clear q1
                      try clear q10
                      try clear q12
                      try clear q21
                      try clear q31
                      obtain ⟨kq, x6_21, x7_21, x8_21, rfl, rfl, HA, HJ21, HO_8, HB⟩ := hcut
                      cases kq with
                      | zero => exact absurd HA.out (by simp [impl_KeysOfMoves.j2])
                      | succ kj21 =>
                        have H := HA.out
                        clear HA
                        simp only [impl_KeysOfMoves.j2] at H
                        replace H := Option.bind_eq_some_iff.mp H
                        obtain ⟨t296, A340, H⟩ := H
                        replace H : (if t296 = true then ((impl_in.f x7_21 0 3).bind fun t297 => (if t297 = true then (impl_KeysOfMoves.l0 kj21 a1 x6_21 x7_21 x8_21 (a1.size : Int) (wrap64 (x29_2 + 1))) else (some ((⟨#[]⟩ : ByteArray), false)))) else (some ((⟨#[]⟩ : ByteArray), false))) = some (r1, r2) := H
                        have A34 := Aside0.mk A340
                        clear A340
                        by_cases c35 : t296 = true
                        · subst c35
                          have H1 : ((impl_in.f x7_21 0 3).bind fun t297 => (if t297 = true then (impl_KeysOfMoves.l0 kj21 a1 x6_21 x7_21 x8_21 (a1.size : Int) (wrap64 (x29_2 + 1))) else (some ((⟨#[]⟩ : ByteArray), false)))) = some (r1, r2) := by rw [if_pos rfl] at H; exact H
                          clear H
                          have H := H1
                          clear H1
                          replace H := Option.bind_eq_some_iff.mp H
                          obtain ⟨t297, A360, H⟩ := H
                          replace H : (if t297 = true then (impl_KeysOfMoves.l0 kj21 a1 x6_21 x7_21 x8_21 (a1.size : Int) (wrap64 (x29_2 + 1))) else (some ((⟨#[]⟩ : ByteArray), false))) = some (r1, r2) := H
                          have A36 := Aside0.mk A360
                          clear A360
                          by_cases c37 : t297 = true
                          · subst c37
                            have H1 : (impl_KeysOfMoves.l0 kj21 a1 x6_21 x7_21 x8_21 (a1.size : Int) (wrap64 (x29_2 + 1))) = some (r1, r2) := by rw [if_pos rfl] at H; exact H
                            clear H
                            have H := H1
                            clear H1
                            have H' := Aside0.mk H
                            clear H
                            go_wp2_with (first | ((with_reducible refine gate_callee (f := 45) rfl ?_); refine goesL_ (some 62) rfl rfl Tryz.func45 (by kernel_rfl) rfl #[.int .i64 x6_21, .int .i64 0, .int .i64 2] rfl (by (try simp only [List.map_toArray, List.map_cons, List.map_nil]); first | done | rfl | (simp only [List.length_drop, List.length_take]; rfl)) ?_; (with_reducible refine (impl_in.calls x6_21 0 2 true _ A34.out).mono ?_); rintro e w' ⟨rfl, ⟨nd, rfl⟩⟩; refine ⟨_, rfl, ?_⟩) | (go_at_call 45; (with_reducible refine (impl_in.calls x7_21 0 3 true _ A36.out).mono ?_); rintro e w' ⟨rfl, ⟨nd, rfl⟩⟩))
                            go_roundg kj21
                            case measure => have := HJ2.out; have := HK2.out; have := HJ21.out; omega
                            case rel => exact ⟨(x6_21), (x7_21), (x8_21), (wrap64 (x29_2 + 1)), (by first | rfl | (simp; done) | (simp [*]; done)), (by first | rfl | (simp; done) | (simp [*]; done)), (by first | rfl | (simp; done) | (simp [*]; done)), H', ⟨by have := HJ2.out; have := HK2.out; have := HJ21.out; omega⟩, ⟨by (with_reducible repeat (first | apply Kd.R_alloc | apply Kd.R_drewN | apply Kd.R_drew)); exact HO_8.out⟩, ⟨by repeat (first | (with_reducible first | exact HB.out | apply below_alloc | apply pw_below_drewN | apply below_drew1) | exact HB.out)⟩⟩
                          · replace c37 := Bool.eq_false_iff.mpr c37
                            subst c37
                            have H1 : (some ((⟨#[]⟩ : ByteArray), false)) = some (r1, r2) := by rw [if_neg (show ¬ (false = true) by decide)] at H; exact H
                            clear H
                            have H := H1
                            clear H1
                            simp only [Option.some.injEq, Prod.mk.injEq] at H
                            obtain ⟨rfl, rfl⟩ := H
                            go_wp2_with (first | ((with_reducible refine gate_callee (f := 45) rfl ?_); refine goesL_ (some 62) rfl rfl Tryz.func45 (by kernel_rfl) rfl #[.int .i64 x6_21, .int .i64 0, .int .i64 2] rfl (by (try simp only [List.map_toArray, List.map_cons, List.map_nil]); first | done | rfl | (simp only [List.length_drop, List.length_take]; rfl)) ?_; (with_reducible refine (impl_in.calls x6_21 0 2 true _ A34.out).mono ?_); rintro e w' ⟨rfl, ⟨nd, rfl⟩⟩; refine ⟨_, rfl, ?_⟩) | (go_at_call 45; (with_reducible refine (impl_in.calls x7_21 0 3 false _ A36.out).mono ?_); rintro e w' ⟨rfl, ⟨nd, rfl⟩⟩))
                            go_ret2
                            exact ⟨by first | rfl | (simp [errW_none, errW_some] <;> rfl) | (simp [*, errW_none, errW_some] <;> rfl), by repeat (first | (with_reducible first | exact HB.out | apply below_alloc | apply pw_below_drewN | apply below_drew1) | exact HB.out)⟩
                        · replace c35 := Bool.eq_false_iff.mpr c35
                          subst c35
                          have H1 : (some ((⟨#[]⟩ : ByteArray), false)) = some (r1, r2) := by rw [if_neg (show ¬ (false = true) by decide)] at H; exact H
                          clear H
                          have H := H1
                          clear H1
                          simp only [Option.some.injEq, Prod.mk.injEq] at H
                          obtain ⟨rfl, rfl⟩ := H
                          go_wp2_with (first | ((with_reducible refine gate_callee (f := 45) rfl ?_); refine goesL_ (some 62) rfl rfl Tryz.func45 (by kernel_rfl) rfl #[.int .i64 x6_21, .int .i64 0, .int .i64 2] rfl (by (try simp only [List.map_toArray, List.map_cons, List.map_nil]); first | done | rfl | (simp only [List.length_drop, List.length_take]; rfl)) ?_; (with_reducible refine (impl_in.calls x6_21 0 2 false _ A34.out).mono ?_); rintro e w' ⟨rfl, ⟨nd, rfl⟩⟩; refine ⟨_, rfl, ?_⟩))
                          go_ret2
                          exact ⟨by first | rfl | (simp [errW_none, errW_some] <;> rfl) | (simp [*, errW_none, errW_some] <;> rfl), by repeat (first | (with_reducible first | exact HB.out | apply below_alloc | apply pw_below_drewN | apply below_drew1) | exact HB.out)⟩
                  · rw [if_neg c20] at H
                    exact absurd H (by simp)
                · rw [if_neg c19] at H
                  exact absurd H (by simp)
              · rw [if_neg c18] at H
                have c18b0 : decide (x29_2 < (a1.size : Int)) = false := decide_eq_false c18
                clear c18
                by_cases c38 : (x8_2.length : Int) > 30
                · rw [if_pos c38] at H
                  have c38b0 : decide (30 < (x8_2.length : Int)) = true := decide_eq_true c38
                  have c38b1 : decide (30 < x8_2.length) = true := decide_eq_true (by omega)
                  clear c38
                  simp only [Option.some.injEq, Prod.mk.injEq] at H
                  obtain ⟨rfl, rfl⟩ := H
                  obtain ⟨Ao39, co39, eo39⟩ := Kd.R_slice HO_8.out
                  subst eo39
                  go_wp2
                  go_ret2
                  exact ⟨by first | rfl | (simp [errW_none, errW_some] <;> rfl) | (simp [*, errW_none, errW_some] <;> rfl), by repeat (first | (with_reducible first | exact HB.out | apply below_alloc | apply pw_below_drewN | apply below_drew1) | exact HB.out)⟩
                · rw [if_neg c38] at H
                  have c38b0 : decide (30 < (x8_2.length : Int)) = false := decide_eq_false c38
                  have c38b1 : decide (30 < x8_2.length) = false := decide_eq_false (by omega)
                  clear c38
                  simp only [Option.some.injEq, Prod.mk.injEq] at H
                  obtain ⟨rfl, rfl⟩ := H
                  obtain ⟨Ao40, co40, eo40⟩ := Kd.R_slice HO_8.out
                  subst eo40
                  have hcv41 := own_string (P := Tryz.prog) Tryz.underlying22 Tryz.underlying5 Tryz.underlying9 (Kd.own_of_R HO_8.out)
                  go_wp2
                  go_ret2
                  exact ⟨by first | rfl | (simp [errW_none, errW_some] <;> rfl) | (simp [*, errW_none, errW_some] <;> rfl), by repeat (first | (with_reducible first | exact HB.out | apply below_alloc | apply pw_below_drewN | apply below_drew1) | exact HB.out)⟩
        · rw [if_neg c9] at H
          exact absurd H (by simp)
end Go.Proofs.YtldnddehmpbbpaaGreatDoor.P
end

section
namespace Go.Proofs.YtldnddehmpbbpaaGreatDoor.P
open Go.RowKit Go.Proofs.YtldnddehmpbbpaaGreatDoorW.PrintWords Go.Proofs.YtldnddehmpbbpaaGreatDoorW.PrintLast Go.Proofs.YtldnddehmpbbpaaGreatDoorW.PrintMore
attribute [local go_sem] max2_int min2_int max_two min_two max_three min_three max_four min_four   -- for this text's walks alone
set_option linter.unusedVariables false
set_option linter.unusedSimpArgs false
mutual
def spec_KeysOfMoves.j0 : Nat → ByteArray → ByteArray → Bool → Option (ByteArray × Bool)
  | 0, _, _, _ => none
  | k + 1, x0, x1, x18 => if x18 = true then (some ((⟨#[]⟩ : ByteArray), false)) else (if 0 < (x0.size : Int) then ((spec_thPlace.f k (bt x0 0)).bind fun t299 => (spec_KeysOfMoves.l0 k x1 (Int.tmod t299 3) (wrap64 (Int.tdiv t299 3)) (⟨#[]⟩ : ByteArray) 0)) else (none))
def spec_KeysOfMoves.l0 : Nat → ByteArray → Int → Int → ByteArray → Int → Option (ByteArray × Bool)
  | 0, _, _, _, _, _ => none
  | k + 1, x1, x7, x8, x9, x10 => if x10 < (x1.size : Int) then (if 0 ≤ x10 then (if (bt x1 x10) = 108 then (spec_KeysOfMoves.j2 k x1 (wrap64 (x7 - 1)) x8 x9 x10) else (if (bt x1 x10) = 114 then (spec_KeysOfMoves.j2 k x1 (wrap64 (x7 + 1)) x8 x9 x10) else (if (bt x1 x10) = 117 then (spec_KeysOfMoves.j2 k x1 x7 (wrap64 (x8 - 1)) x9 x10) else (if (bt x1 x10) = 100 then (spec_KeysOfMoves.j2 k x1 x7 (wrap64 (x8 + 1)) x9 x10) else (if (bt x1 x10) = 46 then (if 0 ≤ (wrap64 ((wrap64 (3 * x8)) + x7)) then (if (wrap64 ((wrap64 (3 * x8)) + x7)) ≤ (wrap64 ((wrap64 ((wrap64 (3 * x8)) + x7)) + 1)) then (if (wrap64 ((wrap64 ((wrap64 (3 * x8)) + x7)) + 1)) ≤ 12 then (if x9.size + ((⟨#[49, 50, 51, 52, 53, 54, 55, 56, 57, 42, 48, 35]⟩ : ByteArray).extract ((wrap64 ((wrap64 (3 * x8)) + x7)) : Int).toNat ((wrap64 ((wrap64 ((wrap64 (3 * x8)) + x7)) + 1)) : Int).toNat).size ≤ 9223372036854775807 then (spec_KeysOfMoves.j2 k x1 x7 x8 (x9 ++ ((⟨#[49, 50, 51, 52, 53, 54, 55, 56, 57, 42, 48, 35]⟩ : ByteArray).extract ((wrap64 ((wrap64 (3 * x8)) + x7)) : Int).toNat ((wrap64 ((wrap64 ((wrap64 (3 * x8)) + x7)) + 1)) : Int).toNat)) x10) else (none)) else (none)) else (none)) else (none)) else (some ((⟨#[]⟩ : ByteArray), false))))))) else (none)) else (if (x9.size : Int) > 30 then (some ((⟨#[]⟩ : ByteArray), false)) else (some (x9, true)))
def spec_KeysOfMoves.j2 : Nat → ByteArray → Int → Int → ByteArray → Int → Option (ByteArray × Bool)
  | 0, _, _, _, _, _ => none
  | k + 1, x1, x7, x8, x9, x10 => (spec_l1In.f x7 0 2).bind fun t300 => (if t300 = true then ((spec_l1In.f x8 0 3).bind fun t301 => (if t301 = true then (spec_KeysOfMoves.l0 k x1 x7 x8 x9 (wrap64 (x10 + 1))) else (some ((⟨#[]⟩ : ByteArray), false)))) else (some ((⟨#[]⟩ : ByteArray), false)))
end
def spec_KeysOfMoves.f (k : Nat) (a0 : ByteArray) (a1 : ByteArray) : Option (ByteArray × Bool) := (spec_thOne.f k a0).bind fun t298 => (if t298 = true then (spec_KeysOfMoves.j0 k a0 a1 (decide ((a1.size : Int) > 200))) else (spec_KeysOfMoves.j0 k a0 a1 true))
theorem spec_KeysOfMoves.mono_l : ∀ k, (∀ y0 y1 y2, LeO (spec_KeysOfMoves.j0 k y0 y1 y2) (spec_KeysOfMoves.j0 (k + 1) y0 y1 y2)) ∧ (∀ y0 y1 y2 y3 y4, LeO (spec_KeysOfMoves.l0 k y0 y1 y2 y3 y4) (spec_KeysOfMoves.l0 (k + 1) y0 y1 y2 y3 y4)) ∧ (∀ y0 y1 y2 y3 y4, LeO (spec_KeysOfMoves.j2 k y0 y1 y2 y3 y4) (spec_KeysOfMoves.j2 (k + 1) y0 y1 y2 y3 y4))
  | 0 => ⟨fun _ _ _ r h => by simp [spec_KeysOfMoves.j0] at h, fun _ _ _ _ _ r h => by simp [spec_KeysOfMoves.l0] at h, fun _ _ _ _ _ r h => by simp [spec_KeysOfMoves.j2] at h⟩
  | k + 1 => by
    obtain ⟨ih0, ih1, ih2⟩ := spec_KeysOfMoves.mono_l k
    refine ⟨?_, ?_, ?_⟩
    · intro y0 y1 y2
      unfold spec_KeysOfMoves.j0
      repeat' first
      | (with_reducible exact ih0 _ _ _)
      | (with_reducible exact ih1 _ _ _ _ _)
      | (with_reducible exact ih2 _ _ _ _ _)
      | (with_reducible exact spec_thOne.mono _ _)
      | (with_reducible exact spec_thPlace.mono _ _)
      | (with_reducible exact LeO.refl _)
      | (with_reducible exact LeO.none _)
      | (with_reducible refine LeO.ite ?_ ?_)
      | (with_reducible refine LeO.bind ?_ (fun _ => ?_))
      | exact ih0 _ _ _
      | exact ih1 _ _ _ _ _
      | exact ih2 _ _ _ _ _
      | exact spec_thOne.mono _ _
      | exact spec_thPlace.mono _ _
      | exact LeO.none _
      | refine LeO.ite ?_ ?_
      | refine LeO.bind ?_ (fun _ => ?_)
    · intro y0 y1 y2 y3 y4
      unfold spec_KeysOfMoves.l0
      repeat' first
      | (with_reducible exact ih0 _ _ _)
      | (with_reducible exact ih1 _ _ _ _ _)
      | (with_reducible exact ih2 _ _ _ _ _)
      | (with_reducible exact spec_thOne.mono _ _)
      | (with_reducible exact spec_thPlace.mono _ _)
      | (with_reducible exact LeO.refl _)
      | (with_reducible exact LeO.none _)
      | (with_reducible refine LeO.ite ?_ ?_)
      | (with_reducible refine LeO.bind ?_ (fun _ => ?_))
      | exact ih0 _ _ _
      | exact ih1 _ _ _ _ _
      | exact ih2 _ _ _ _ _
      | exact spec_thOne.mono _ _
      | exact spec_thPlace.mono _ _
      | exact LeO.none _
      | refine LeO.ite ?_ ?_
      | refine LeO.bind ?_ (fun _ => ?_)
    · intro y0 y1 y2 y3 y4
      unfold spec_KeysOfMoves.j2
      repeat' first
      | (with_reducible exact ih0 _ _ _)
      | (with_reducible exact ih1 _ _ _ _ _)
      | (with_reducible exact ih2 _ _ _ _ _)
      | (with_reducible exact spec_thOne.mono _ _)
      | (with_reducible exact spec_thPlace.mono _ _)
      | (with_reducible exact LeO.refl _)
      | (with_reducible exact LeO.none _)
      | (with_reducible refine LeO.ite ?_ ?_)
      | (with_reducible refine LeO.bind ?_ (fun _ => ?_))
      | exact ih0 _ _ _
      | exact ih1 _ _ _ _ _
      | exact ih2 _ _ _ _ _
      | exact spec_thOne.mono _ _
      | exact spec_thPlace.mono _ _
      | exact LeO.none _
      | refine LeO.ite ?_ ?_
      | refine LeO.bind ?_ (fun _ => ?_)
theorem spec_KeysOfMoves.mono : ∀ a0 a1 k, LeO (spec_KeysOfMoves.f k a0 a1) (spec_KeysOfMoves.f (k + 1) a0 a1) := by
  intro a0 a1 k
  obtain ⟨ih0, ih1, ih2⟩ := spec_KeysOfMoves.mono_l k
  unfold spec_KeysOfMoves.f
  repeat' first
      | (with_reducible exact ih0 _ _ _)
      | (with_reducible exact ih1 _ _ _ _ _)
      | (with_reducible exact ih2 _ _ _ _ _)
      | (with_reducible exact spec_thOne.mono _ _)
      | (with_reducible exact spec_thPlace.mono _ _)
      | (with_reducible exact LeO.refl _)
      | (with_reducible exact LeO.none _)
      | (with_reducible refine LeO.ite ?_ ?_)
      | (with_reducible refine LeO.bind ?_ (fun _ => ?_))
      | exact ih0 _ _ _
      | exact ih1 _ _ _ _ _
      | exact ih2 _ _ _ _ _
      | exact spec_thOne.mono _ _
      | exact spec_thPlace.mono _ _
      | exact LeO.none _
      | refine LeO.ite ?_ ?_
      | refine LeO.bind ?_ (fun _ => ?_)
set_option maxHeartbeats 8000000 in
set_option maxRecDepth 100000 in
theorem spec_KeysOfMoves.calls (k : Nat) (a0 : ByteArray) (a1 : ByteArray) (r1 : ByteArray) (r2 : Bool) (w : World) (h : spec_KeysOfMoves.f k a0 a1 = some (r1, r2)) :
    Calls Tryz.prog 28 #[.string a0, .string a1] w fun e w' => e = .returned (.tuple #[.string r1, .bool r2]) ∧ Drawn0 w w' := by
  have H : ((spec_thOne.f k a0).bind fun t298 => (if t298 = true then (spec_KeysOfMoves.j0 k a0 a1 (decide ((a1.size : Int) > 200))) else (spec_KeysOfMoves.j0 k a0 a1 true))) = some (r1, r2) := h
  clear h
  have HC3 := Aside0.mk H
  clear H
  go_enter Tryz.func28, Tryz.ntmps28
  go_upto_region 1 with (fail)
  go_cut [18] (fun v18 wc => ∃ (kq : Nat) (x18_2 : Bool), v18 = .bool x18_2 ∧ Aside0 (spec_KeysOfMoves.j0 kq a0 a1 x18_2 = some (r1, r2)) ∧ Aside0 (kq ≤ k) ∧ Drawn0 w wc)
  case first =>
    have H := HC3.out
    clear HC3
    replace H := Option.bind_eq_some_iff.mp H
    obtain ⟨t298, A40, H⟩ := H
    replace H : (if t298 = true then (spec_KeysOfMoves.j0 k a0 a1 (decide ((a1.size : Int) > 200))) else (spec_KeysOfMoves.j0 k a0 a1 true)) = some (r1, r2) := H
    have A4 := Aside0.mk A40
    clear A40
    by_cases c5 : t298 = true
    · subst c5
      have H1 : (spec_KeysOfMoves.j0 k a0 a1 (decide ((a1.size : Int) > 200))) = some (r1, r2) := by rw [if_pos rfl] at H; exact H
      clear H
      have H := H1
      clear H1
      have H' := Aside0.mk H
      clear H
      go_wp2_with (first | ((with_reducible refine gate_callee (f := 55) rfl ?_); refine goesL_ (some 12) rfl rfl Tryz.func55 (by kernel_rfl) rfl #[.string a0] rfl (by (try simp only [List.map_toArray, List.map_cons, List.map_nil]); first | done | rfl | (simp only [List.length_drop, List.length_take]; rfl)) ?_; (with_reducible refine (spec_thOne.calls k a0 true _ A4.out).mono ?_); rintro e w' ⟨rfl, ⟨nd, rfl⟩⟩; refine ⟨_, rfl, ?_⟩))
      go_meet
      case rel => exact ⟨_, (decide ((a1.size : Int) > 200)), (by first | rfl | (simp; done) | (simp [*]; done)), H', ⟨by first | omega | exact Nat.le_refl _⟩, by repeat (first | exact Drawn0.refl _ | apply Drawn0.step)⟩
    · replace c5 := Bool.eq_false_iff.mpr c5
      subst c5
      have H1 : (spec_KeysOfMoves.j0 k a0 a1 true) = some (r1, r2) := by rw [if_neg (show ¬ (false = true) by decide)] at H; exact H
      clear H
      have H := H1
      clear H1
      have H' := Aside0.mk H
      clear H
      go_wp2_with (first | ((with_reducible refine gate_callee (f := 55) rfl ?_); refine goesL_ (some 12) rfl rfl Tryz.func55 (by kernel_rfl) rfl #[.string a0] rfl (by (try simp only [List.map_toArray, List.map_cons, List.map_nil]); first | done | rfl | (simp only [List.length_drop, List.length_take]; rfl)) ?_; (with_reducible refine (spec_thOne.calls k a0 false _ A4.out).mono ?_); rintro e w' ⟨rfl, ⟨nd, rfl⟩⟩; refine ⟨_, rfl, ?_⟩))
      go_meet
      case rel => exact ⟨_, (true), (by first | rfl | (simp; done) | (simp [*]; done)), H', ⟨by first | omega | exact Nat.le_refl _⟩, by repeat (first | exact Drawn0.refl _ | apply Drawn0.step)⟩
  case rest =>
    clear HC3
    try clear c2
    try clear p2
    try clear c5
    obtain ⟨kq, x18_2, rfl, HA, HJ2, ⟨mc2, rfl⟩⟩ := hcut
    cases kq with
    | zero => exact absurd HA.out (by simp [spec_KeysOfMoves.j0])
    | succ kj2 =>
      have H := HA.out
      clear HA
      simp only [spec_KeysOfMoves.j0] at H
      by_cases c6 : x18_2 = true
      · subst c6
        have H1 : (some ((⟨#[]⟩ : ByteArray), false)) = some (r1, r2) := by rw [if_pos rfl] at H; exact H
        clear H
        have H := H1
        clear H1
        simp only [Option.some.injEq, Prod.mk.injEq] at H
        obtain ⟨rfl, rfl⟩ := H
        go_wp2
        go_ret2
        exact ⟨by first | rfl | (simp; done) | (simp [*]; done), by repeat (first | exact Drawn0.refl _ | apply Drawn0.step)⟩
      · replace c6 := Bool.eq_false_iff.mpr c6
        subst c6
        have H1 : (if 0 < (a0.size : Int) then ((spec_thPlace.f kj2 (bt a0 0)).bind fun t299 => (spec_KeysOfMoves.l0 kj2 a1 (Int.tmod t299 3) (wrap64 (Int.tdiv t299 3)) (⟨#[]⟩ : ByteArray) 0)) else (none)) = some (r1, r2) := by rw [if_neg (show ¬ (false = true) by decide)] at H; exact H
        clear H
        have H := H1
        clear H1
        by_cases c7 : 0 < (a0.size : Int)
        · rw [if_pos c7] at H
          have c7b0 : decide (0 < (a0.size : Int)) = true := decide_eq_true c7
          have c7b1 : decide (0 < a0.size) = true := decide_eq_true (by omega)
          clear c7
          replace H := Option.bind_eq_some_iff.mp H
          obtain ⟨t299, A90, H⟩ := H
          replace H : (spec_KeysOfMoves.l0 kj2 a1 (Int.tmod t299 3) (wrap64 (Int.tdiv t299 3)) (⟨#[]⟩ : ByteArray) 0) = some (r1, r2) := H
          have A9 := Aside0.mk A90
          clear A90
          have H' := Aside0.mk H
          clear H
          have p8 : 0 ≤ (0 : Int) := (by omega)
          have q8 : 0 < a0.size := (by have : (0 : Int) < (a0.size : Int) := of_decide_eq_true (by first | (with_reducible assumption) | assumption); omega)
          have hx8 : ∀ h : 0 < a0.size, ((a0[0]'h).toNat : Int) = bt a0 0 := bt_at a0 0
          clear p8
          have qi8 : (0 < (a0.size : Int)) = True := eq_true (of_decide_eq_true (by first | (with_reducible assumption) | assumption))
          replace q8 := eq_true q8
          go_wp2_with (first | ((with_reducible refine gate_callee (f := 39) rfl ?_); refine goesL_ (some 21) rfl rfl Tryz.func39 (by kernel_rfl) rfl #[.int .u8 (bt a0 0)] rfl (by (try simp only [List.map_toArray, List.map_cons, List.map_nil]); first | done | rfl | (simp only [List.length_drop, List.length_take]; rfl)) ?_; (with_reducible refine (spec_thPlace.calls kj2 (bt a0 0) t299 _ A9.out).mono ?_); rintro e w' ⟨rfl, ⟨nd, rfl⟩⟩; refine ⟨_, rfl, ?_⟩))
          go_loopg [7, 8, 9, 10] kj2 (fun kq v7 v8 v9 v10 w' => ∃ (x7_2 : Int) (x8_2 : Int) (x9_2 : ByteArray) (x10_2 : Int), v7 = .int .i64 x7_2 ∧ v8 = .int .i64 x8_2 ∧ v9 = .string x9_2 ∧ v10 = .int .i64 x10_2 ∧ Aside0 (spec_KeysOfMoves.l0 kq a1 x7_2 x8_2 x9_2 x10_2 = some (r1, r2)) ∧ Aside0 (kq ≤ kj2) ∧ Drawn0 w w')
          case atStart => exact ⟨(Int.tmod t299 3), (wrap64 (Int.tdiv t299 3)), ((⟨#[]⟩ : ByteArray)), (0), (by first | rfl | (simp; done) | (simp [*]; done)), (by first | rfl | (simp; done) | (simp [*]; done)), (by first | rfl | (simp; done) | (simp [*]; done)), (by first | rfl | (simp; done) | (simp [*]; done)), H', ⟨Nat.le_refl _⟩, by repeat (first | exact Drawn0.refl _ | apply Drawn0.step)⟩
          case round =>
            clear H'
            try clear c2
            try clear p2
            try clear c3
            try clear c5
            try clear c6
            try clear p6
            try clear c7
            try clear c7b0
            try clear c7b1
            try clear p8
            try clear q8
            try clear hx8
            try clear qi8
            try clear p2
            try clear p8
            try clear q8
            obtain ⟨x7_2, x8_2, x9_2, x10_2, rfl, rfl, rfl, rfl, HA, HK2, ⟨m2, rfl⟩⟩ := hrel
            cases gk with
            | zero => exact absurd HA.out (by simp [spec_KeysOfMoves.l0])
            | succ k2 =>
              have H := HA.out
              clear HA
              simp only [spec_KeysOfMoves.l0] at H
              by_cases c10 : x10_2 < (a1.size : Int)
              · rw [if_pos c10] at H
                have c10b0 : decide (x10_2 < (a1.size : Int)) = true := decide_eq_true c10
                clear c10
                by_cases c11 : 0 ≤ x10_2
                · rw [if_pos c11] at H
                  have c11b0 : decide (0 ≤ x10_2) = true := decide_eq_true c11
                  clear c11
                  have HC13 := Aside0.mk H
                  clear H
                  have p12 : 0 ≤ (x10_2 : Int) := of_decide_eq_true (by first | (with_reducible assumption) | assumption)
                  have q12 : x10_2 < (a1.size : Int) := of_decide_eq_true (by first | (with_reducible assumption) | assumption)
                  have hx12 := bt_at a1 x10_2
                  replace p12 := eq_true p12
                  replace q12 := eq_true q12
                  go_upto_block 2 with (fail)
                  go_cut [7, 8, 9] (fun v7 v8 v9 wc => ∃ (kq : Nat) (x7_12 : Int) (x8_12 : Int) (x9_12 : ByteArray), v7 = .int .i64 x7_12 ∧ v8 = .int .i64 x8_12 ∧ v9 = .string x9_12 ∧ Aside0 (spec_KeysOfMoves.j2 kq a1 x7_12 x8_12 x9_12 x10_2 = some (r1, r2)) ∧ Aside0 (kq ≤ k2) ∧ Drawn0 w wc)
                  case first =>
                    have H := HC13.out
                    clear HC13
                    by_cases c14 : (bt a1 x10_2) = 108
                    · rw [if_pos c14] at H
                      have c14b0 : ((bt a1 x10_2) == 108) = true := beq_iff_eq.mpr c14
                      have c14b1 : ((bt a1 x10_2) != 108) = false := bne_eq_false_iff_eq.mpr c14
                      clear c14
                      (first | rw [c14b0] | (simp only [i64_w, i32_w]; rw [c14b0]) | skip)
                      have H' := Aside0.mk H
                      clear H
                      go_wp2
                      go_meet
                      case rel => exact ⟨_, (wrap64 (x7_2 - 1)), (x8_2), (x9_2), (by first | rfl | (simp; done) | (simp [*]; done)), (by first | rfl | (simp; done) | (simp [*]; done)), (by first | rfl | (simp; done) | (simp [*]; done)), H', ⟨by have := HJ2.out; have := HK2.out; first | omega | exact Nat.le_refl _⟩, by repeat (first | exact Drawn0.refl _ | apply Drawn0.step)⟩
                    · rw [if_neg c14] at H
                      have c14b0 : ((bt a1 x10_2) == 108) = false := beq_eq_false_iff_ne.mpr c14
                      have c14b1 : ((bt a1 x10_2) != 108) = true := bne_iff_ne.mpr c14
                      (first | rw [c14b0] | (simp only [i64_w, i32_w]; rw [c14b0]) | skip)
                      by_cases c15 : (bt a1 x10_2) = 114
                      · rw [if_pos c15] at H
                        have c15b0 : ((bt a1 x10_2) == 114) = true := beq_iff_eq.mpr c15
                        have c15b1 : ((bt a1 x10_2) != 114) = false := bne_eq_false_iff_eq.mpr c15
                        clear c15
                        have H' := Aside0.mk H
                        clear H
                        go_wp2
                        go_meet
                        case rel => exact ⟨_, (wrap64 (x7_2 + 1)), (x8_2), (x9_2), (by first | rfl | (simp; done) | (simp [*]; done)), (by first | rfl | (simp; done) | (simp [*]; done)), (by first | rfl | (simp; done) | (simp [*]; done)), H', ⟨by have := HJ2.out; have := HK2.out; first | omega | exact Nat.le_refl _⟩, by repeat (first | exact Drawn0.refl _ | apply Drawn0.step)⟩
                      · rw [if_neg c15] at H
                        have c15b0 : ((bt a1 x10_2) == 114) = false := beq_eq_false_iff_ne.mpr c15
                        have c15b1 : ((bt a1 x10_2) != 114) = true := bne_iff_ne.mpr c15
                        by_cases c16 : (bt a1 x10_2) = 117
                        · rw [if_pos c16] at H
                          have c16b0 : ((bt a1 x10_2) == 117) = true := beq_iff_eq.mpr c16
                          have c16b1 : ((bt a1 x10_2) != 117) = false := bne_eq_false_iff_eq.mpr c16
                          clear c16
                          have H' := Aside0.mk H
                          clear H
                          go_wp2
                          go_meet
                          case rel => exact ⟨_, (x7_2), (wrap64 (x8_2 - 1)), (x9_2), (by first | rfl | (simp; done) | (simp [*]; done)), (by first | rfl | (simp; done) | (simp [*]; done)), (by first | rfl | (simp; done) | (simp [*]; done)), H', ⟨by have := HJ2.out; have := HK2.out; first | omega | exact Nat.le_refl _⟩, by repeat (first | exact Drawn0.refl _ | apply Drawn0.step)⟩
                        · rw [if_neg c16] at H
                          have c16b0 : ((bt a1 x10_2) == 117) = false := beq_eq_false_iff_ne.mpr c16
                          have c16b1 : ((bt a1 x10_2) != 117) = true := bne_iff_ne.mpr c16
                          by_cases c17 : (bt a1 x10_2) = 100
                          · rw [if_pos c17] at H
                            have c17b0 : ((bt a1 x10_2) == 100) = true := beq_iff_eq.mpr c17
                            have c17b1 : ((bt a1 x10_2) != 100) = false := bne_eq_false_iff_eq.mpr c17
                            clear c17
                            have H' := Aside0.mk H
                            clear H
                            go_wp2
                            go_meet
                            case rel => exact ⟨_, (x7_2), (wrap64 (x8_2 + 1)), (x9_2), (by first | rfl | (simp; done) | (simp [*]; done)), (by first | rfl | (simp; done) | (simp [*]; done)), (by first | rfl | (simp; done) | (simp [*]; done)), H', ⟨by have := HJ2.out; have := HK2.out; first | omega | exact Nat.le_refl _⟩, by repeat (first | exact Drawn0.refl _ | apply Drawn0.step)⟩
                          · rw [if_neg c17] at H
                            have c17b0 : ((bt a1 x10_2) == 100) = false := beq_eq_false_iff_ne.mpr c17
                            have c17b1 : ((bt a1 x10_2) != 100) = true := bne_iff_ne.mpr c17
                            by_cases c18 : (bt a1 x10_2) = 46
                            · rw [if_pos c18] at H
                              have c18b0 : ((bt a1 x10_2) == 46) = true := beq_iff_eq.mpr c18
                              have c18b1 : ((bt a1 x10_2) != 46) = false := bne_eq_false_iff_eq.mpr c18
                              clear c18
                              obtain ⟨ji19, hji19⟩ : ∃ j_ : Int, (wrap64 ((wrap64 (3 * x8_2)) + x7_2)) = j_ := ⟨_, rfl⟩
                              replace H : (if 0 ≤ (ji19) then (if (ji19) ≤ (wrap64 ((ji19) + 1)) then (if (wrap64 ((ji19) + 1)) ≤ 12 then (if x9_2.size + ((⟨#[49, 50, 51, 52, 53, 54, 55, 56, 57, 42, 48, 35]⟩ : ByteArray).extract ((ji19) : Int).toNat ((wrap64 ((ji19) + 1)) : Int).toNat).size ≤ 9223372036854775807 then (spec_KeysOfMoves.j2 k2 a1 x7_2 x8_2 (x9_2 ++ ((⟨#[49, 50, 51, 52, 53, 54, 55, 56, 57, 42, 48, 35]⟩ : ByteArray).extract ((ji19) : Int).toNat ((wrap64 ((ji19) + 1)) : Int).toNat)) x10_2) else (none)) else (none)) else (none)) else (none)) = some (r1, r2) := by first | (rw [hji19] at H; exact H) | (simp only [hji19] at H ⊢; exact H)
                              have hji19w : (IntKind.i64.wrap ((wrap64 (3 * x8_2)) + x7_2)) = ji19 := (i64_w _).trans hji19
                              by_cases c20 : 0 ≤ (ji19)
                              · rw [if_pos c20] at H
                                have c20b0 := eq_true c20
                                have c20b1 : decide (0 ≤ (ji19)) = true := decide_eq_true c20
                                clear c20
                                by_cases c21 : (ji19) ≤ (wrap64 ((ji19) + 1))
                                · rw [if_pos c21] at H
                                  have c21b0 := eq_true c21
                                  have c21b1 : decide ((ji19) ≤ (wrap64 ((ji19) + 1))) = true := decide_eq_true c21
                                  by_cases c22 : (wrap64 ((ji19) + 1)) ≤ 12
                                  · rw [if_pos c22] at H
                                    have c22b0 := eq_true c22
                                    have c22b1 : decide ((wrap64 ((ji19) + 1)) ≤ 12) = true := decide_eq_true c22
                                    by_cases c23 : x9_2.size + ((⟨#[49, 50, 51, 52, 53, 54, 55, 56, 57, 42, 48, 35]⟩ : ByteArray).extract ((ji19) : Int).toNat ((wrap64 ((ji19) + 1)) : Int).toNat).size ≤ 9223372036854775807
                                    · rw [if_pos c23] at H
                                      have c23b0 := eq_true c23
                                      have c23b1 : decide (x9_2.size + ((⟨#[49, 50, 51, 52, 53, 54, 55, 56, 57, 42, 48, 35]⟩ : ByteArray).extract ((ji19) : Int).toNat ((wrap64 ((ji19) + 1)) : Int).toNat).size ≤ 9223372036854775807) = true := decide_eq_true c23
                                      try have c23b2 : (9223372036854775807 < x9_2.size + ((⟨#[49, 50, 51, 52, 53, 54, 55, 56, 57, 42, 48, 35]⟩ : ByteArray).extract ((ji19) : Int).toNat ((wrap64 ((ji19) + 1)) : Int).toNat).size) = False := eq_false (Nat.not_lt.2 c23)
                                      have H' := Aside0.mk H
                                      clear H
                                      go_wp2
                                      first | go_meet | ((try rw [← hji19]); go_meet)
                                      case rel => exact ⟨_, (x7_2), (x8_2), (x9_2 ++ ((⟨#[49, 50, 51, 52, 53, 54, 55, 56, 57, 42, 48, 35]⟩ : ByteArray).extract ((ji19) : Int).toNat ((wrap64 ((ji19) + 1)) : Int).toNat)), (by first | rfl | (simp; done) | (simp [*]; done)), (by first | rfl | (simp; done) | (simp [*]; done)), (by first | rfl | (simp; done) | (simp only [← hji19] <;> (first | rfl | simp)) | (simp [*]; done)), (by first | exact H' | ((try rw [hji19]); exact H')), ⟨by have := HJ2.out; have := HK2.out; first | omega | exact Nat.le_refl _⟩, by repeat (first | exact Drawn0.refl _ | apply Drawn0.step)⟩
                                    · rw [if_neg c23] at H
                                      exact absurd H (by simp)
                                  · rw [if_neg c22] at H
                                    exact absurd H (by simp)
                                · rw [if_neg c21] at H
                                  exact absurd H (by simp)
                              · rw [if_neg c20] at H
                                exact absurd H (by simp)
                            · rw [if_neg c18] at H
                              have c18b0 : ((bt a1 x10_2) == 46) = false := beq_eq_false_iff_ne.mpr c18
                              have c18b1 : ((bt a1 x10_2) != 46) = true := bne_iff_ne.mpr c18
                              simp only [Option.some.injEq, Prod.mk.injEq] at H
                              obtain ⟨rfl, rfl⟩ := H
                              go_wp2
                              go_ret2
                              exact ⟨by first | rfl | (simp; done) | (simp [*]; done), by repeat (first | exact Drawn0.refl _ | apply Drawn0.step)⟩
                  case rest =>
                    clear HC13
                    try clear c1
                    try clear p1
                    try clear q1
                    try clear hx1
                    try clear c2
                    try clear p2
                    try clear c3
                    try clear c5
                    try clear c6
                    try clear p6
                    try clear c7
                    try clear c7b0
                    try clear c7b1
                    try clear p8
                    try clear q8
                    try clear hx8
                    try clear qi8
                    try clear c10
                    try clear c10b0
                    try clear c11
                    try clear c11b0
                    try clear p12
                    try clear q12
                    try clear hx12
                    try clear c14
                    try clear c14b0
                    try clear c14b1
                    try clear c15
                    try clear c15b0
                    try clear c15b1
                    try clear c16
                    try clear c16b0
                    try clear c16b1
                    try clear c17
                    try clear c17b0
                    try clear c17b1
                    try clear c18
                    try clear c18b0
                    try clear c18b1
                    try clear c20
                    try clear c20b0
                    try clear c20b1
                    try clear c21
                    try clear c21b0
                    try clear c21b1
                    try clear c22
                    try clear c22b0
                    try clear c22b1
                    try clear c23
                    try clear c23b0
                    try clear c23b1
                    try clear c23b2
                    try clear p12
                    try clear p2
                    try clear p6
                    try clear p8
                    try clear q12
                    try clear q8
                    obtain ⟨kq, x7_12, x8_12, x9_12, rfl, rfl, rfl, HA, HJ12, ⟨mc12, rfl⟩⟩ := hcut
                    cases kq with
                    | zero => exact absurd HA.out (by simp [spec_KeysOfMoves.j2])
                    | succ kj12 =>
                      have H := HA.out
                      clear HA
                      simp only [spec_KeysOfMoves.j2] at H
                      replace H := Option.bind_eq_some_iff.mp H
                      obtain ⟨t300, A240, H⟩ := H
                      replace H : (if t300 = true then ((spec_l1In.f x8_12 0 3).bind fun t301 => (if t301 = true then (spec_KeysOfMoves.l0 kj12 a1 x7_12 x8_12 x9_12 (wrap64 (x10_2 + 1))) else (some ((⟨#[]⟩ : ByteArray), false)))) else (some ((⟨#[]⟩ : ByteArray), false))) = some (r1, r2) := H
                      have A24 := Aside0.mk A240
                      clear A240
                      by_cases c25 : t300 = true
                      · subst c25
                        have H1 : ((spec_l1In.f x8_12 0 3).bind fun t301 => (if t301 = true then (spec_KeysOfMoves.l0 kj12 a1 x7_12 x8_12 x9_12 (wrap64 (x10_2 + 1))) else (some ((⟨#[]⟩ : ByteArray), false)))) = some (r1, r2) := by rw [if_pos rfl] at H; exact H
                        clear H
                        have H := H1
                        clear H1
                        replace H := Option.bind_eq_some_iff.mp H
                        obtain ⟨t301, A260, H⟩ := H
                        replace H : (if t301 = true then (spec_KeysOfMoves.l0 kj12 a1 x7_12 x8_12 x9_12 (wrap64 (x10_2 + 1))) else (some ((⟨#[]⟩ : ByteArray), false))) = some (r1, r2) := H
                        have A26 := Aside0.mk A260
                        clear A260
                        by_cases c27 : t301 = true
                        · subst c27
                          have H1 : (spec_KeysOfMoves.l0 kj12 a1 x7_12 x8_12 x9_12 (wrap64 (x10_2 + 1))) = some (r1, r2) := by rw [if_pos rfl] at H; exact H
                          clear H
                          have H := H1
                          clear H1
                          have H' := Aside0.mk H
                          clear H
                          go_wp2_with (first | ((with_reducible refine gate_callee (f := 66) rfl ?_); refine goesL_ (some 66) rfl rfl Tryz.func66 (by kernel_rfl) rfl #[.int .i64 x7_12, .int .i64 0, .int .i64 2] rfl (by (try simp only [List.map_toArray, List.map_cons, List.map_nil]); first | done | rfl | (simp only [List.length_drop, List.length_take]; rfl)) ?_; (with_reducible refine (spec_l1In.calls x7_12 0 2 true _ A24.out).mono ?_); rintro e w' ⟨rfl, ⟨nd, rfl⟩⟩; refine ⟨_, rfl, ?_⟩) | (go_at_call 66; (with_reducible refine (spec_l1In.calls x8_12 0 3 true _ A26.out).mono ?_); rintro e w' ⟨rfl, ⟨nd, rfl⟩⟩))
                          go_roundg kj12
                          case measure => have := HJ2.out; have := HK2.out; have := HJ12.out; omega
                          case rel => exact ⟨(x7_12), (x8_12), (x9_12), (wrap64 (x10_2 + 1)), (by first | rfl | (simp; done) | (simp [*]; done)), (by first | rfl | (simp; done) | (simp [*]; done)), (by first | rfl | (simp; done) | (simp [*]; done)), (by first | rfl | (simp; done) | (simp [*]; done)), H', ⟨by have := HJ2.out; have := HK2.out; have := HJ12.out; omega⟩, by repeat (first | exact Drawn0.refl _ | apply Drawn0.step)⟩
                        · replace c27 := Bool.eq_false_iff.mpr c27
                          subst c27
                          have H1 : (some ((⟨#[]⟩ : ByteArray), false)) = some (r1, r2) := by rw [if_neg (show ¬ (false = true) by decide)] at H; exact H
                          clear H
                          have H := H1
                          clear H1
                          simp only [Option.some.injEq, Prod.mk.injEq] at H
                          obtain ⟨rfl, rfl⟩ := H
                          go_wp2_with (first | ((with_reducible refine gate_callee (f := 66) rfl ?_); refine goesL_ (some 66) rfl rfl Tryz.func66 (by kernel_rfl) rfl #[.int .i64 x7_12, .int .i64 0, .int .i64 2] rfl (by (try simp only [List.map_toArray, List.map_cons, List.map_nil]); first | done | rfl | (simp only [List.length_drop, List.length_take]; rfl)) ?_; (with_reducible refine (spec_l1In.calls x7_12 0 2 true _ A24.out).mono ?_); rintro e w' ⟨rfl, ⟨nd, rfl⟩⟩; refine ⟨_, rfl, ?_⟩) | (go_at_call 66; (with_reducible refine (spec_l1In.calls x8_12 0 3 false _ A26.out).mono ?_); rintro e w' ⟨rfl, ⟨nd, rfl⟩⟩))
                          go_ret2
                          exact ⟨by first | rfl | (simp; done) | (simp [*]; done), by repeat (first | exact Drawn0.refl _ | apply Drawn0.step)⟩
                      · replace c25 := Bool.eq_false_iff.mpr c25
                        subst c25
                        have H1 : (some ((⟨#[]⟩ : ByteArray), false)) = some (r1, r2) := by rw [if_neg (show ¬ (false = true) by decide)] at H; exact H
                        clear H
                        have H := H1
                        clear H1
                        simp only [Option.some.injEq, Prod.mk.injEq] at H
                        obtain ⟨rfl, rfl⟩ := H
                        go_wp2_with (first | ((with_reducible refine gate_callee (f := 66) rfl ?_); refine goesL_ (some 66) rfl rfl Tryz.func66 (by kernel_rfl) rfl #[.int .i64 x7_12, .int .i64 0, .int .i64 2] rfl (by (try simp only [List.map_toArray, List.map_cons, List.map_nil]); first | done | rfl | (simp only [List.length_drop, List.length_take]; rfl)) ?_; (with_reducible refine (spec_l1In.calls x7_12 0 2 false _ A24.out).mono ?_); rintro e w' ⟨rfl, ⟨nd, rfl⟩⟩; refine ⟨_, rfl, ?_⟩))
                        go_ret2
                        exact ⟨by first | rfl | (simp; done) | (simp [*]; done), by repeat (first | exact Drawn0.refl _ | apply Drawn0.step)⟩
                · rw [if_neg c11] at H
                  exact absurd H (by simp)
              · rw [if_neg c10] at H
                have c10b0 : decide (x10_2 < (a1.size : Int)) = false := decide_eq_false c10
                clear c10
                by_cases c28 : (x9_2.size : Int) > 30
                · rw [if_pos c28] at H
                  have c28b0 : decide (30 < (x9_2.size : Int)) = true := decide_eq_true c28
                  have c28b1 : decide (30 < x9_2.size) = true := decide_eq_true (by omega)
                  clear c28
                  simp only [Option.some.injEq, Prod.mk.injEq] at H
                  obtain ⟨rfl, rfl⟩ := H
                  go_wp2
                  go_ret2
                  exact ⟨by first | rfl | (simp; done) | (simp [*]; done), by repeat (first | exact Drawn0.refl _ | apply Drawn0.step)⟩
                · rw [if_neg c28] at H
                  have c28b0 : decide (30 < (x9_2.size : Int)) = false := decide_eq_false c28
                  have c28b1 : decide (30 < x9_2.size) = false := decide_eq_false (by omega)
                  clear c28
                  simp only [Option.some.injEq, Prod.mk.injEq] at H
                  obtain ⟨rfl, rfl⟩ := H
                  go_wp2
                  go_ret2
                  exact ⟨by first | rfl | (simp; done) | (simp [*]; done), by repeat (first | exact Drawn0.refl _ | apply Drawn0.step)⟩
        · rw [if_neg c7] at H
          exact absurd H (by simp)
end Go.Proofs.YtldnddehmpbbpaaGreatDoor.P
end

section
namespace Go.Proofs.YtldnddehmpbbpaaGreatDoor.P
open Go.RowKit Go.Proofs.YtldnddehmpbbpaaGreatDoorW.PrintWords Go.Proofs.YtldnddehmpbbpaaGreatDoorW.PrintLast Go.Proofs.YtldnddehmpbbpaaGreatDoorW.PrintMore
attribute [local go_sem] max2_int min2_int max_two min_two max_three min_three max_four min_four   -- for this text's walks alone
set_option linter.unusedVariables false
set_option linter.unusedSimpArgs false
def impl_KeyDistance.j0 : Nat → ByteArray → ByteArray → Bool → Bool → Option (Int × Bool)
  | 0, _, _, _, _ => none
  | k + 1, x0, x1, x2, x15 => if x15 = true then (some (0, false)) else (if 0 < (x0.size : Int) then ((impl_place.f (bt x0 0)).bind fun t304 => (if 0 < (x1.size : Int) then ((impl_place.f (bt x1 0)).bind fun t305 => ((impl_distance.f t304 t305 x2).bind fun t306 => (some (t306, true)))) else (none))) else (none))
def impl_KeyDistance.f (k : Nat) (a0 : ByteArray) (a1 : ByteArray) (a2 : Bool) : Option (Int × Bool) := (impl_isKey.f a0).bind fun t302 => (if t302 = true then ((impl_isKey.f a1).bind fun t303 => (impl_KeyDistance.j0 k a0 a1 a2 (!t303))) else (impl_KeyDistance.j0 k a0 a1 a2 true))
theorem impl_KeyDistance.mono_l : ∀ k, (∀ y0 y1 y2 y3, LeO (impl_KeyDistance.j0 k y0 y1 y2 y3) (impl_KeyDistance.j0 (k + 1) y0 y1 y2 y3))
  | 0 => fun _ _ _ _ r h => by simp [impl_KeyDistance.j0] at h
  | k + 1 => by
    have ih0 := impl_KeyDistance.mono_l k
    · intro y0 y1 y2 y3
      unfold impl_KeyDistance.j0
      repeat' first
      | (with_reducible exact ih0 _ _ _ _)
      | (with_reducible exact LeO.refl _)
      | (with_reducible exact LeO.none _)
      | (with_reducible refine LeO.ite ?_ ?_)
      | (with_reducible refine LeO.bind ?_ (fun _ => ?_))
      | exact ih0 _ _ _ _
      | exact LeO.none _
      | refine LeO.ite ?_ ?_
      | refine LeO.bind ?_ (fun _ => ?_)
theorem impl_KeyDistance.mono : ∀ a0 a1 a2 k, LeO (impl_KeyDistance.f k a0 a1 a2) (impl_KeyDistance.f (k + 1) a0 a1 a2) := by
  intro a0 a1 a2 k
  have ih0 := impl_KeyDistance.mono_l k
  unfold impl_KeyDistance.f
  repeat' first
      | (with_reducible exact ih0 _ _ _ _)
      | (with_reducible exact LeO.refl _)
      | (with_reducible exact LeO.none _)
      | (with_reducible refine LeO.ite ?_ ?_)
      | (with_reducible refine LeO.bind ?_ (fun _ => ?_))
      | exact ih0 _ _ _ _
      | exact LeO.none _
      | refine LeO.ite ?_ ?_
      | refine LeO.bind ?_ (fun _ => ?_)
def impl_KeyDistance.T3 : Bool × List (List Nat × List Nat) := (true, [([], []), ([0], [0]), ([1], [1]), ([], []), ([3], [3]), ([4, 2], [4]), ([], []), ([2, 5, 6, 5], [2, 5, 6]), ([7, 7, 0, 1, 2, 3, 4, 5, 6, 7], [7]), ([8, 0, 1, 2, 3, 4, 5, 6, 7, 8], [])])
def impl_KeyDistance.B3 : List Nat := [0, 1, 3, 0, 8, 31, 0, 127, 255, 511]
theorem impl_KeyDistance.tab3 : rtab .any (opsOf Tryz.f29 3) = impl_KeyDistance.T3 := by kernel_rfl
theorem impl_KeyDistance.bits3 : waitsOk impl_KeyDistance.T3.2 impl_KeyDistance.B3 = true := by kernel_rfl
set_option maxHeartbeats 8000000 in
set_option maxRecDepth 100000 in
theorem impl_KeyDistance.calls (k : Nat) (a0 : ByteArray) (a1 : ByteArray) (a2 : Bool) (r1 : Int) (r2 : Bool) (w : World) (h : impl_KeyDistance.f k a0 a1 a2 = some (r1, r2)) :
    Calls Tryz.prog 29 #[.string a0, .string a1, .bool a2] w fun e w' => e = .returned (.tuple #[.int .i64 r1, .bool r2]) ∧ Below w.heap.size w w' := by
  have HB := Aside0.mk (Below.refl w.heap.size w)
  have H : ((impl_isKey.f a0).bind fun t302 => (if t302 = true then ((impl_isKey.f a1).bind fun t303 => (impl_KeyDistance.j0 k a0 a1 a2 (!t303))) else (impl_KeyDistance.j0 k a0 a1 a2 true))) = some (r1, r2) := h
  clear h
  have HC4 := Aside0.mk H
  clear H
  go_enter Tryz.func29, Tryz.ntmps29
  go_upto_region 1 with (fail)
  go_cut [15] (fun v15 wc => ∃ (kq : Nat) (x15_3 : Bool), v15 = .bool x15_3 ∧ Aside0 (impl_KeyDistance.j0 kq a0 a1 a2 x15_3 = some (r1, r2)) ∧ Aside0 (kq ≤ k) ∧ Aside0 (Below w.heap.size w wc))
  case first =>
    have H := HC4.out
    clear HC4
    replace H := Option.bind_eq_some_iff.mp H
    obtain ⟨t302, A50, H⟩ := H
    replace H : (if t302 = true then ((impl_isKey.f a1).bind fun t303 => (impl_KeyDistance.j0 k a0 a1 a2 (!t303))) else (impl_KeyDistance.j0 k a0 a1 a2 true)) = some (r1, r2) := H
    have A5 := Aside0.mk A50
    clear A50
    by_cases c6 : t302 = true
    · subst c6
      have H1 : ((impl_isKey.f a1).bind fun t303 => (impl_KeyDistance.j0 k a0 a1 a2 (!t303))) = some (r1, r2) := by rw [if_pos rfl] at H; exact H
      clear H
      have H := H1
      clear H1
      replace H := Option.bind_eq_some_iff.mp H
      obtain ⟨t303, A70, H⟩ := H
      replace H : (impl_KeyDistance.j0 k a0 a1 a2 (!t303)) = some (r1, r2) := H
      have A7 := Aside0.mk A70
      clear A70
      have H' := Aside0.mk H
      clear H
      go_wp2_with (first | ((with_reducible refine gate_callee (f := 47) rfl ?_); refine goesL_ (some 9) rfl rfl Tryz.func47 (by kernel_rfl) rfl #[.string a0] rfl (by (try simp only [List.map_toArray, List.map_cons, List.map_nil]); first | done | rfl | (simp only [List.length_drop, List.length_take]; rfl)) ?_; (with_reducible refine (impl_isKey.calls a0 true _ A5.out).mono ?_); rintro e w8 ⟨rfl, hb⟩; refine ⟨_, rfl, ?_⟩; have n0_ := Aside0.mk (below_step (by repeat (first | (with_reducible first | exact HB.out | apply below_alloc | apply pw_below_drewN | apply below_drew1) | exact HB.out)) hb); clear HB; have HB := n0_; clear n0_; (try clear hb); (try clear hb2); (try clear hk); (try clear hi)) | (go_at_call 47; (with_reducible refine (impl_isKey.calls a1 t303 _ A7.out).mono ?_); rintro e w9 ⟨rfl, hb⟩; have n0_ := Aside0.mk (below_step (by repeat (first | (with_reducible first | exact HB.out | apply below_alloc | apply pw_below_drewN | apply below_drew1) | exact HB.out)) hb); clear HB; have HB := n0_; clear n0_; (try clear hb); (try clear hb2); (try clear hk); (try clear hi)))
      go_meet
      case rel => exact ⟨_, (!t303), (by first | rfl | (simp; done) | (simp [*]; done)), H', ⟨by first | omega | exact Nat.le_refl _⟩, ⟨by repeat (first | (with_reducible first | exact HB.out | apply below_alloc | apply pw_below_drewN | apply below_drew1) | exact HB.out)⟩⟩
    · replace c6 := Bool.eq_false_iff.mpr c6
      subst c6
      have H1 : (impl_KeyDistance.j0 k a0 a1 a2 true) = some (r1, r2) := by rw [if_neg (show ¬ (false = true) by decide)] at H; exact H
      clear H
      have H := H1
      clear H1
      have H' := Aside0.mk H
      clear H
      go_wp2_with (first | ((with_reducible refine gate_callee (f := 47) rfl ?_); refine goesL_ (some 9) rfl rfl Tryz.func47 (by kernel_rfl) rfl #[.string a0] rfl (by (try simp only [List.map_toArray, List.map_cons, List.map_nil]); first | done | rfl | (simp only [List.length_drop, List.length_take]; rfl)) ?_; (with_reducible refine (impl_isKey.calls a0 false _ A5.out).mono ?_); rintro e w10 ⟨rfl, hb⟩; refine ⟨_, rfl, ?_⟩; have n0_ := Aside0.mk (below_step (by repeat (first | (with_reducible first | exact HB.out | apply below_alloc | apply pw_below_drewN | apply below_drew1) | exact HB.out)) hb); clear HB; have HB := n0_; clear n0_; (try clear hb); (try clear hb2); (try clear hk); (try clear hi)))
      go_meet
      case rel => exact ⟨_, (true), (by first | rfl | (simp; done) | (simp [*]; done)), H', ⟨by first | omega | exact Nat.le_refl _⟩, ⟨by repeat (first | (with_reducible first | exact HB.out | apply below_alloc | apply pw_below_drewN | apply below_drew1) | exact HB.out)⟩⟩
  case rest =>
    clear HC4
    try clear c2
    try clear p2
    try clear c4
    try clear c6
    obtain ⟨kq, x15_3, rfl, HA, HJ3, HB⟩ := hcut
    cases kq with
    | zero => exact absurd HA.out (by simp [impl_KeyDistance.j0])
    | succ kj3 =>
      have H := HA.out
      clear HA
      simp only [impl_KeyDistance.j0] at H
      by_cases c11 : x15_3 = true
      · subst c11
        have H1 : (some (0, false)) = some (r1, r2) := by rw [if_pos rfl] at H; exact H
        clear H
        have H := H1
        clear H1
        simp only [Option.some.injEq, Prod.mk.injEq] at H
        obtain ⟨rfl, rfl⟩ := H
        go_wp2
        go_ret2
        exact ⟨by first | rfl | (simp [errW_none, errW_some] <;> rfl) | (simp [*, errW_none, errW_some] <;> rfl), by repeat (first | (with_reducible first | exact HB.out | apply below_alloc | apply pw_below_drewN | apply below_drew1) | exact HB.out)⟩
      · replace c11 := Bool.eq_false_iff.mpr c11
        subst c11
        have H1 : (if 0 < (a0.size : Int) then ((impl_place.f (bt a0 0)).bind fun t304 => (if 0 < (a1.size : Int) then ((impl_place.f (bt a1 0)).bind fun t305 => ((impl_distance.f t304 t305 a2).bind fun t306 => (some (t306, true)))) else (none))) else (none)) = some (r1, r2) := by rw [if_neg (show ¬ (false = true) by decide)] at H; exact H
        clear H
        have H := H1
        clear H1
        by_cases c12 : 0 < (a0.size : Int)
        · rw [if_pos c12] at H
          have c12b0 : decide (0 < (a0.size : Int)) = true := decide_eq_true c12
          have c12b1 : decide (0 < a0.size) = true := decide_eq_true (by omega)
          clear c12
          replace H := Option.bind_eq_some_iff.mp H
          obtain ⟨t304, A140, H⟩ := H
          replace H : (if 0 < (a1.size : Int) then ((impl_place.f (bt a1 0)).bind fun t305 => ((impl_distance.f t304 t305 a2).bind fun t306 => (some (t306, true)))) else (none)) = some (r1, r2) := H
          have A14 := Aside0.mk A140
          clear A140
          by_cases c15 : 0 < (a1.size : Int)
          · rw [if_pos c15] at H
            have c15b0 : decide (0 < (a1.size : Int)) = true := decide_eq_true c15
            have c15b1 : decide (0 < a1.size) = true := decide_eq_true (by omega)
            clear c15
            replace H := Option.bind_eq_some_iff.mp H
            obtain ⟨t305, A170, H⟩ := H
            replace H : ((impl_distance.f t304 t305 a2).bind fun t306 => (some (t306, true))) = some (r1, r2) := H
            have A17 := Aside0.mk A170
            clear A170
            replace H := Option.bind_eq_some_iff.mp H
            obtain ⟨t306, A180, H⟩ := H
            replace H : (some (t306, true)) = some (r1, r2) := H
            have A18 := Aside0.mk A180
            clear A180
            simp only [Option.some.injEq, Prod.mk.injEq] at H
            obtain ⟨rfl, rfl⟩ := H
            try go_wp2
            have n0_ := Aside0.mk (below_drew1 HB.out)
            clear HB
            have HB := n0_
            clear n0_
            have p13 : 0 ≤ (0 : Int) := (by omega)
            have q13 : 0 < a0.size := (by have : (0 : Int) < (a0.size : Int) := of_decide_eq_true (by first | (with_reducible assumption) | assumption); omega)
            have hx13 : ∀ h : 0 < a0.size, ((a0[0]'h).toNat : Int) = bt a0 0 := bt_at a0 0
            clear p13
            have qi13 : (0 < (a0.size : Int)) = True := eq_true (of_decide_eq_true (by first | (with_reducible assumption) | assumption))
            replace q13 := eq_true q13
            have p16 : 0 ≤ (0 : Int) := (by omega)
            have q16 : 0 < a1.size := (by have : (0 : Int) < (a1.size : Int) := of_decide_eq_true (by first | (with_reducible assumption) | assumption); omega)
            have hx16 : ∀ h : 0 < a1.size, ((a1[0]'h).toNat : Int) = bt a1 0 := bt_at a1 0
            clear p16
            have qi16 : (0 < (a1.size : Int)) = True := eq_true (of_decide_eq_true (by first | (with_reducible assumption) | assumption))
            replace q16 := eq_true q16
            refine start_ (n := 10) (S := fun w' => True) (ds := []) #[false, false, false, false, false, false, false, false, false, false] (by kernel_rfl) rfl rfl trivial (fun hHeld => ?_); refine with_tabW impl_KeyDistance.tab3 impl_KeyDistance.bits3 (fun HT_ HW_ => ?_)
            generalize wc.drew = w19 at HB hHeld ⊢
            refine pure_ (i := 0) (N := some 16) (v := ?_) (a' := ?_) #[true, false, false, false, false, false, false, false, false, false] rfl rfl (any_of HT_.out (by kernel_rfl)) (fun _ _ _ h => h) (Or.inl ⟨by rfl, ?_⟩) ?_ ?_
            rotate_left
            · intro w'
              go_simp
              with_reducible rfl
            rotate_left
            · simp only [Act.put, List.setIfInBounds_toArray, List.set_cons_zero, List.set_cons_succ, i64_w, i32_w]
              rfl
            refine pure_ (i := 3) (N := some 19) (v := ?_) (a' := ?_) #[true, false, false, true, false, false, false, false, false, false] rfl rfl (any_of HT_.out (by kernel_rfl)) (fun _ _ _ h => h) (Or.inl ⟨by rfl, ?_⟩) ?_ ?_
            rotate_left
            · intro w'
              go_simp
              with_reducible rfl
            rotate_left
            · simp only [Act.put, List.setIfInBounds_toArray, List.set_cons_zero, List.set_cons_succ, i64_w, i32_w]
              rfl
            refine pure_ (i := 6) (N := some 22) (v := ?_) (a' := ?_) #[true, false, false, true, false, false, true, false, false, false] rfl rfl (any_of HT_.out (by kernel_rfl)) (fun _ _ _ h => h) (Or.inl ⟨by rfl, ?_⟩) ?_ ?_
            rotate_left
            · intro w'
              go_simp
              with_reducible rfl
            rotate_left
            · simp only [Act.put, List.setIfInBounds_toArray, List.set_cons_zero, List.set_cons_succ, i64_w, i32_w]
              rfl
            refine take_ (i := 1) (N := some 17) (v := ?_) (a' := ?_) #[true, true, false, true, false, false, true, false, false, false] rfl rfl (take_ofW HT_.out HW_.out (by kernel_rfl)) (fun _ _ _ h => h) (Or.inl ⟨by rfl, ?_⟩) hHeld ?_ ?_
            rotate_left
            · intro w' _
              go_simp
              with_reducible rfl
            rotate_left
            · simp only [Act.put, List.setIfInBounds_toArray, List.set_cons_zero, List.set_cons_succ, i64_w, i32_w]
              rfl
            refine take_ (i := 4) (N := some 20) (v := ?_) (a' := ?_) #[true, true, false, true, true, false, true, false, false, false] rfl rfl (take_ofW HT_.out HW_.out (by kernel_rfl)) (fun _ _ _ h => h) (Or.inl ⟨by rfl, ?_⟩) hHeld ?_ ?_
            rotate_left
            · intro w' _
              go_simp
              with_reducible rfl
            rotate_left
            · simp only [Act.put, List.setIfInBounds_toArray, List.set_cons_zero, List.set_cons_succ, i64_w, i32_w]
              rfl
            refine one_ (i := 2) (N := some 18) #[true, true, true, true, true, false, true, false, false, false] rfl rfl (one_of HT_.out (by kernel_rfl)) (by decide) (fun K hK => ?_)
            refine goes_ Tryz.func49 (by kernel_rfl) rfl #[.int .u8 (bt a0 0)] (by rfl) rfl rfl (by (try simp only [List.map_toArray, List.map_cons, List.map_nil]); first | done | rfl | (simp only [List.length_drop, List.length_take]; rfl)) ?_
            with_reducible refine (impl_place.calls (bt a0 0) t304 _ A14.out).mono ?_
            rintro e w' ⟨rfl, ⟨nd, rfl⟩⟩
            refine ⟨_, rfl, ?_⟩
            refine hK.out _ _ trivial (fun hHeld => ?_)
            clear hK K
            refine norm_ (a' := ?_) ?_ ?_
            rotate_left
            · show Act.put _ (some 18) _ = _
              simp only [Act.put, List.setIfInBounds_toArray, List.set_cons_zero, List.set_cons_succ, i64_w, i32_w]
              rfl
            refine one_ (i := 5) (N := some 21) #[true, true, true, true, true, true, true, false, false, false] rfl rfl (one_of HT_.out (by kernel_rfl)) (by decide) (fun K hK => ?_)
            refine goes_ Tryz.func49 (by kernel_rfl) rfl #[.int .u8 (bt a1 0)] (by rfl) rfl rfl (by (try simp only [List.map_toArray, List.map_cons, List.map_nil]); first | done | rfl | (simp only [List.length_drop, List.length_take]; rfl)) ?_
            with_reducible refine (impl_place.calls (bt a1 0) t305 _ A17.out).mono ?_
            rintro e w' ⟨rfl, ⟨nd, rfl⟩⟩
            refine ⟨_, rfl, ?_⟩
            refine hK.out _ _ trivial (fun hHeld => ?_)
            clear hK K
            refine norm_ (a' := ?_) ?_ ?_
            rotate_left
            · show Act.put _ (some 21) _ = _
              simp only [Act.put, List.setIfInBounds_toArray, List.set_cons_zero, List.set_cons_succ, i64_w, i32_w]
              rfl
            refine one_ (i := 7) (N := some 23) #[true, true, true, true, true, true, true, true, false, false] rfl rfl (one_of HT_.out (by kernel_rfl)) (by decide) (fun K hK => ?_)
            refine goes_ Tryz.func67 (by kernel_rfl) rfl #[.int .i64 t304, .int .i64 t305, .bool a2] (by rfl) rfl rfl (by (try simp only [List.map_toArray, List.map_cons, List.map_nil]); first | done | rfl | (simp only [List.length_drop, List.length_take]; rfl)) ?_
            with_reducible refine (impl_distance.calls t304 t305 a2 t306 _ A18.out).mono ?_
            rintro e w20 ⟨rfl, hb⟩
            refine ⟨_, rfl, ?_⟩
            have n0_ := Aside0.mk (below_step (by repeat (first | (with_reducible first | exact HB.out | apply below_alloc | apply pw_below_drewN | apply below_drew1) | exact HB.out)) hb)
            clear HB
            have HB := n0_
            clear n0_
            (try clear hb)
            (try clear hb2)
            (try clear hk)
            (try clear hi)
            refine hK.out _ _ trivial (fun hHeld => ?_)
            clear hK K
            refine norm_ (a' := ?_) ?_ ?_
            rotate_left
            · show Act.put _ (some 23) _ = _
              simp only [Act.put, List.setIfInBounds_toArray, List.set_cons_zero, List.set_cons_succ, i64_w, i32_w]
              rfl
            refine pure_ (i := 8) (N := some 6) (v := ?_) (a' := ?_) #[true, true, true, true, true, true, true, true, true, false] rfl rfl (any_of HT_.out (by kernel_rfl)) (fun _ _ _ h => h) (Or.inl ⟨by rfl, ?_⟩) ?_ ?_
            rotate_left
            · intro w'
              go_simp
              with_reducible rfl
            rotate_left
            · simp only [Act.put, List.setIfInBounds_toArray, List.set_cons_zero, List.set_cons_succ, i64_w, i32_w]
              rfl
            refine pure_ (i := 9) (N := some 7) (v := ?_) (a' := ?_) #[true, true, true, true, true, true, true, true, true, true] rfl rfl (any_of HT_.out (by kernel_rfl)) (fun _ _ _ h => h) (Or.inl ⟨by rfl, ?_⟩) ?_ ?_
            rotate_left
            · intro w'
              go_simp
              with_reducible rfl
            rotate_left
            · simp only [Act.put, List.setIfInBounds_toArray, List.set_cons_zero, List.set_cons_succ, i64_w, i32_w]
              rfl
            refine done_ (done_of HT_.out (by kernel_rfl)) ?_
            try go_wp2
            go_ret2
            exact ⟨by first | rfl | (simp [errW_none, errW_some] <;> rfl) | (simp [*, errW_none, errW_some] <;> rfl), by repeat (first | (with_reducible first | exact HB.out | apply below_alloc | apply pw_below_drewN | apply below_drew1) | exact HB.out)⟩
          · rw [if_neg c15] at H
            exact absurd H (by simp)
        · rw [if_neg c12] at H
          exact absurd H (by simp)
end Go.Proofs.YtldnddehmpbbpaaGreatDoor.P
end

section
namespace Go.Proofs.YtldnddehmpbbpaaGreatDoor.P
open Go.RowKit Go.Proofs.YtldnddehmpbbpaaGreatDoorW.PrintWords Go.Proofs.YtldnddehmpbbpaaGreatDoorW.PrintLast Go.Proofs.YtldnddehmpbbpaaGreatDoorW.PrintMore
attribute [local go_sem] max2_int min2_int max_two min_two max_three min_three max_four min_four   -- for this text's walks alone
set_option linter.unusedVariables false
set_option linter.unusedSimpArgs false
def impl_BestStart.l0 : Nat → ByteArray → Bool → Int → Int → Int → Option (ByteArray × Int × Bool)
  | 0, _, _, _, _, _ => none
  | k + 1, x0, x1, x7, x8, x14 => if x14 < 12 then ((impl_places.f k x0).bind fun t308 => ((impl_oneThumb.f k t308 x14 x1).bind fun t311 => (if x8 < 0 then (impl_BestStart.l0 k x0 x1 x14 t311 (wrap64 (x14 + 1))) else (if t311 < x8 then (impl_BestStart.l0 k x0 x1 x14 t311 (wrap64 (x14 + 1))) else (impl_BestStart.l0 k x0 x1 x7 x8 (wrap64 (x14 + 1))))))) else (if 0 ≤ x7 then (if x7 ≤ (wrap64 (x7 + 1)) then (if (wrap64 (x7 + 1)) ≤ 12 then (some ((⟨#[49, 50, 51, 52, 53, 54, 55, 56, 57, 42, 48, 35]⟩ : ByteArray).extract (x7 : Int).toNat ((wrap64 (x7 + 1)) : Int).toNat, x8, true)) else (none)) else (none)) else (none))
def impl_BestStart.f (k : Nat) (a0 : ByteArray) (a1 : Bool) : Option (ByteArray × Int × Bool) := (impl_IsDialed.f a0).bind fun t307 => (if t307 = true then (impl_BestStart.l0 k a0 a1 0 (-1) 0) else (some ((⟨#[]⟩ : ByteArray), 0, false)))
theorem impl_BestStart.mono_l : ∀ k, (∀ y0 y1 y2 y3 y4, LeO (impl_BestStart.l0 k y0 y1 y2 y3 y4) (impl_BestStart.l0 (k + 1) y0 y1 y2 y3 y4))
  | 0 => fun _ _ _ _ _ r h => by simp [impl_BestStart.l0] at h
  | k + 1 => by
    have ih0 := impl_BestStart.mono_l k
    · intro y0 y1 y2 y3 y4
      unfold impl_BestStart.l0
      repeat' first
      | (with_reducible exact ih0 _ _ _ _ _)
      | (with_reducible exact impl_oneThumb.mono _ _ _ _)
      | (with_reducible exact impl_places.mono _ _)
      | (with_reducible exact LeO.refl _)
      | (with_reducible exact LeO.none _)
      | (with_reducible refine LeO.ite ?_ ?_)
      | (with_reducible refine LeO.bind ?_ (fun _ => ?_))
      | exact ih0 _ _ _ _ _
      | exact impl_oneThumb.mono _ _ _ _
      | exact impl_places.mono _ _
      | exact LeO.none _
      | refine LeO.ite ?_ ?_
      | refine LeO.bind ?_ (fun _ => ?_)
theorem impl_BestStart.mono : ∀ a0 a1 k, LeO (impl_BestStart.f k a0 a1) (impl_BestStart.f (k + 1) a0 a1) := by
  intro a0 a1 k
  have ih0 := impl_BestStart.mono_l k
  unfold impl_BestStart.f
  repeat' first
      | (with_reducible exact ih0 _ _ _ _ _)
      | (with_reducible exact impl_oneThumb.mono _ _ _ _)
      | (with_reducible exact impl_places.mono _ _)
      | (with_reducible exact LeO.refl _)
      | (with_reducible exact LeO.none _)
      | (with_reducible refine LeO.ite ?_ ?_)
      | (with_reducible refine LeO.bind ?_ (fun _ => ?_))
      | exact ih0 _ _ _ _ _
      | exact impl_oneThumb.mono _ _ _ _
      | exact impl_places.mono _ _
      | exact LeO.none _
      | refine LeO.ite ?_ ?_
      | refine LeO.bind ?_ (fun _ => ?_)
set_option maxHeartbeats 8000000 in
set_option maxRecDepth 100000 in
theorem impl_BestStart.calls (k : Nat) (a0 : ByteArray) (a1 : Bool) (r1 : ByteArray) (r2 : Int) (r3 : Bool) (w : World) (h : impl_BestStart.f k a0 a1 = some (r1, r2, r3)) :
    Calls Tryz.prog 30 #[.string a0, .bool a1] w fun e w' => e = .returned (.tuple #[.string r1, .int .i64 r2, .bool r3]) ∧ Below w.heap.size w w' := by
  have HB := Aside0.mk (Below.refl w.heap.size w)
  have H : ((impl_IsDialed.f a0).bind fun t307 => (if t307 = true then (impl_BestStart.l0 k a0 a1 0 (-1) 0) else (some ((⟨#[]⟩ : ByteArray), 0, false)))) = some (r1, r2, r3) := h
  clear h
  replace H := Option.bind_eq_some_iff.mp H
  obtain ⟨t307, A30, H⟩ := H
  replace H : (if t307 = true then (impl_BestStart.l0 k a0 a1 0 (-1) 0) else (some ((⟨#[]⟩ : ByteArray), 0, false))) = some (r1, r2, r3) := H
  have A3 := Aside0.mk A30
  clear A30
  by_cases c4 : t307 = true
  · subst c4
    have H1 : (impl_BestStart.l0 k a0 a1 0 (-1) 0) = some (r1, r2, r3) := by rw [if_pos rfl] at H; exact H
    clear H
    have H := H1
    clear H1
    have H' := Aside0.mk H
    clear H
    go_enter Tryz.func30, Tryz.ntmps30
    go_wp2_with (first | ((with_reducible refine gate_callee (f := 13) rfl ?_); refine goesL_ (some 12) rfl rfl Tryz.func13 (by kernel_rfl) rfl #[.string a0] rfl (by (try simp only [List.map_toArray, List.map_cons, List.map_nil]); first | done | rfl | (simp only [List.length_drop, List.length_take]; rfl)) ?_; (with_reducible refine (impl_IsDialed.calls a0 true _ A3.out).mono ?_); rintro e w5 ⟨rfl, hb⟩; refine ⟨_, rfl, ?_⟩; have n0_ := Aside0.mk (below_step (by repeat (first | (with_reducible first | exact HB.out | apply below_alloc | apply pw_below_drewN | apply below_drew1) | exact HB.out)) hb); clear HB; have HB := n0_; clear n0_; (try clear hb); (try clear hb2); (try clear hk); (try clear hi)))
    go_loopg [7, 8, 14] k (fun kq v7 v8 v14 w' => ∃ (x7_1 : Int) (x8_1 : Int) (x14_1 : Int), v7 = .int .i64 x7_1 ∧ v8 = .int .i64 x8_1 ∧ v14 = .int .i64 x14_1 ∧ Aside0 (impl_BestStart.l0 kq a0 a1 x7_1 x8_1 x14_1 = some (r1, r2, r3)) ∧ Aside0 (kq ≤ k) ∧ Aside0 (Below w.heap.size w w'))
    case atStart => exact ⟨(0), ((-1)), (0), (by first | rfl | (simp; done) | (simp [*]; done)), (by first | rfl | (simp; done) | (simp [*]; done)), (by first | rfl | (simp; done) | (simp [*]; done)), H', ⟨Nat.le_refl _⟩, ⟨by repeat (first | (with_reducible first | exact HB.out | apply below_alloc | apply pw_below_drewN | apply below_drew1) | exact HB.out)⟩⟩
    case round =>
      clear H'
      try clear c1
      try clear p2
      try clear c3
      try clear c4
      obtain ⟨x7_1, x8_1, x14_1, rfl, rfl, rfl, HA, HK1, HB⟩ := hrel
      cases gk with
      | zero => exact absurd HA.out (by simp [impl_BestStart.l0])
      | succ k1 =>
        have H := HA.out
        clear HA
        simp only [impl_BestStart.l0] at H
        by_cases c6 : x14_1 < 12
        · rw [if_pos c6] at H
          have c6b0 : decide (x14_1 < 12) = true := decide_eq_true c6
          clear c6
          replace H := Option.bind_eq_some_iff.mp H
          obtain ⟨t308, A70, H⟩ := H
          replace H : ((impl_oneThumb.f k1 t308 x14_1 a1).bind fun t311 => (if x8_1 < 0 then (impl_BestStart.l0 k1 a0 a1 x14_1 t311 (wrap64 (x14_1 + 1))) else (if t311 < x8_1 then (impl_BestStart.l0 k1 a0 a1 x14_1 t311 (wrap64 (x14_1 + 1))) else (impl_BestStart.l0 k1 a0 a1 x7_1 x8_1 (wrap64 (x14_1 + 1)))))) = some (r1, r2, r3) := H
          have A7 := Aside0.mk A70
          clear A70
          replace H := Option.bind_eq_some_iff.mp H
          obtain ⟨t311, A80, H⟩ := H
          replace H : (if x8_1 < 0 then (impl_BestStart.l0 k1 a0 a1 x14_1 t311 (wrap64 (x14_1 + 1))) else (if t311 < x8_1 then (impl_BestStart.l0 k1 a0 a1 x14_1 t311 (wrap64 (x14_1 + 1))) else (impl_BestStart.l0 k1 a0 a1 x7_1 x8_1 (wrap64 (x14_1 + 1))))) = some (r1, r2, r3) := H
          have A8 := Aside0.mk A80
          clear A80
          by_cases c9 : x8_1 < 0
          · rw [if_pos c9] at H
            have c9b0 : decide (x8_1 < 0) = true := decide_eq_true c9
            clear c9
            have H' := Aside0.mk H
            clear H
            go_wp2_with (first | ((with_reducible refine gate_callee (f := 46) rfl ?_); refine goesL_ (some 18) rfl rfl Tryz.func46 (by kernel_rfl) rfl #[.string a0] rfl (by (try simp only [List.map_toArray, List.map_cons, List.map_nil]); first | done | rfl | (simp only [List.length_drop, List.length_take]; rfl)) ?_; (with_reducible refine (impl_places.calls k1 a0 t308 _ A7.out).mono ?_); rintro e w10 ⟨v309, rfl, ho0, hb⟩; refine ⟨_, rfl, ?_⟩; have n0_ := Aside0.mk (Kd.R_lower ho0 (below_size (by repeat (first | (with_reducible first | exact HB.out | apply below_alloc | apply pw_below_drewN | apply below_drew1) | exact HB.out)))); have n1_ := Aside0.mk (below_step (by repeat (first | (with_reducible first | exact HB.out | apply below_alloc | apply pw_below_drewN | apply below_drew1) | exact HB.out)) hb); clear HB; have HO310 := n0_; have HB := n1_; clear n0_ n1_; (try clear hb); (try clear hb2); (try clear hk); (try clear hi); (try clear ho0); obtain ⟨Ao11, co11, eo11⟩ := Kd.R_slice HO310.out; subst eo11) | ((with_reducible refine gate_callee (f := 48) rfl ?_); refine goesL_ (some 21) rfl rfl Tryz.func48 (by kernel_rfl) rfl #[.slice Ao11 t308.length co11, .int .i64 x14_1, .bool a1] rfl (by (try simp only [List.map_toArray, List.map_cons, List.map_nil]); first | done | rfl | (simp only [List.length_drop, List.length_take]; rfl)) ?_; (with_reducible refine (impl_oneThumb.calls k1 _ _ t308 x14_1 a1 t311 _ ?side1 ?side2 A8.out).mono ?_); (case side1 => repeat (first | exact (Kd.R_reads' HO310.out).2.2 | (with_reducible refine Kd.C_alloc ?_ _) | (with_reducible refine Kd.C_drewN ?_ _) | (with_reducible refine Kd.C_drew ?_))); (case side2 => exact (Kd.R_reads' HO310.out).2.1); rintro e w12 ⟨rfl, hb⟩; refine ⟨_, rfl, ?_⟩; have n0_ := Aside0.mk (Kd.R_below (by (with_reducible repeat (first | apply Kd.R_alloc | apply Kd.R_drewN | apply Kd.R_drew)); exact HO310.out) hb); have n1_ := Aside0.mk (below_step (by repeat (first | (with_reducible first | exact HB.out | apply below_alloc | apply pw_below_drewN | apply below_drew1) | exact HB.out)) hb); clear HO310; clear HB; have HO310 := n0_; have HB := n1_; clear n0_ n1_; (try clear hb); (try clear hb2); (try clear hk); (try clear hi)))
            go_roundg k1
            case measure => have := HK1.out; omega
            case rel => exact ⟨(x14_1), (t311), (wrap64 (x14_1 + 1)), (by first | rfl | (simp; done) | (simp [*]; done)), (by first | rfl | (simp; done) | (simp [*]; done)), (by first | rfl | (simp; done) | (simp [*]; done)), H', ⟨by have := HK1.out; omega⟩, ⟨by repeat (first | (with_reducible first | exact HB.out | apply below_alloc | apply pw_below_drewN | apply below_drew1) | exact HB.out)⟩⟩
          · rw [if_neg c9] at H
            have c9b0 : decide (x8_1 < 0) = false := decide_eq_false c9
            clear c9
            by_cases c13 : t311 < x8_1
            · rw [if_pos c13] at H
              have c13b0 : decide (t311 < x8_1) = true := decide_eq_true c13
              clear c13
              have H' := Aside0.mk H
              clear H
              go_wp2_with (first | ((with_reducible refine gate_callee (f := 46) rfl ?_); refine goesL_ (some 18) rfl rfl Tryz.func46 (by kernel_rfl) rfl #[.string a0] rfl (by (try simp only [List.map_toArray, List.map_cons, List.map_nil]); first | done | rfl | (simp only [List.length_drop, List.length_take]; rfl)) ?_; (with_reducible refine (impl_places.calls k1 a0 t308 _ A7.out).mono ?_); rintro e w14 ⟨v309, rfl, ho0, hb⟩; refine ⟨_, rfl, ?_⟩; have n0_ := Aside0.mk (Kd.R_lower ho0 (below_size (by repeat (first | (with_reducible first | exact HB.out | apply below_alloc | apply pw_below_drewN | apply below_drew1) | exact HB.out)))); have n1_ := Aside0.mk (below_step (by repeat (first | (with_reducible first | exact HB.out | apply below_alloc | apply pw_below_drewN | apply below_drew1) | exact HB.out)) hb); clear HB; have HO310 := n0_; have HB := n1_; clear n0_ n1_; (try clear hb); (try clear hb2); (try clear hk); (try clear hi); (try clear ho0); obtain ⟨Ao15, co15, eo15⟩ := Kd.R_slice HO310.out; subst eo15) | ((with_reducible refine gate_callee (f := 48) rfl ?_); refine goesL_ (some 21) rfl rfl Tryz.func48 (by kernel_rfl) rfl #[.slice Ao15 t308.length co15, .int .i64 x14_1, .bool a1] rfl (by (try simp only [List.map_toArray, List.map_cons, List.map_nil]); first | done | rfl | (simp only [List.length_drop, List.length_take]; rfl)) ?_; (with_reducible refine (impl_oneThumb.calls k1 _ _ t308 x14_1 a1 t311 _ ?side1 ?side2 A8.out).mono ?_); (case side1 => repeat (first | exact (Kd.R_reads' HO310.out).2.2 | (with_reducible refine Kd.C_alloc ?_ _) | (with_reducible refine Kd.C_drewN ?_ _) | (with_reducible refine Kd.C_drew ?_))); (case side2 => exact (Kd.R_reads' HO310.out).2.1); rintro e w16 ⟨rfl, hb⟩; refine ⟨_, rfl, ?_⟩; have n0_ := Aside0.mk (Kd.R_below (by (with_reducible repeat (first | apply Kd.R_alloc | apply Kd.R_drewN | apply Kd.R_drew)); exact HO310.out) hb); have n1_ := Aside0.mk (below_step (by repeat (first | (with_reducible first | exact HB.out | apply below_alloc | apply pw_below_drewN | apply below_drew1) | exact HB.out)) hb); clear HO310; clear HB; have HO310 := n0_; have HB := n1_; clear n0_ n1_; (try clear hb); (try clear hb2); (try clear hk); (try clear hi)))
              go_roundg k1
              case measure => have := HK1.out; omega
              case rel => exact ⟨(x14_1), (t311), (wrap64 (x14_1 + 1)), (by first | rfl | (simp; done) | (simp [*]; done)), (by first | rfl | (simp; done) | (simp [*]; done)), (by first | rfl | (simp; done) | (simp [*]; done)), H', ⟨by have := HK1.out; omega⟩, ⟨by repeat (first | (with_reducible first | exact HB.out | apply below_alloc | apply pw_below_drewN | apply below_drew1) | exact HB.out)⟩⟩
            · rw [if_neg c13] at H
              have c13b0 : decide (t311 < x8_1) = false := decide_eq_false c13
              clear c13
              have H' := Aside0.mk H
              clear H
              go_wp2_with (first | ((with_reducible refine gate_callee (f := 46) rfl ?_); refine goesL_ (some 18) rfl rfl Tryz.func46 (by kernel_rfl) rfl #[.string a0] rfl (by (try simp only [List.map_toArray, List.map_cons, List.map_nil]); first | done | rfl | (simp only [List.length_drop, List.length_take]; rfl)) ?_; (with_reducible refine (impl_places.calls k1 a0 t308 _ A7.out).mono ?_); rintro e w17 ⟨v309, rfl, ho0, hb⟩; refine ⟨_, rfl, ?_⟩; have n0_ := Aside0.mk (Kd.R_lower ho0 (below_size (by repeat (first | (with_reducible first | exact HB.out | apply below_alloc | apply pw_below_drewN | apply below_drew1) | exact HB.out)))); have n1_ := Aside0.mk (below_step (by repeat (first | (with_reducible first | exact HB.out | apply below_alloc | apply pw_below_drewN | apply below_drew1) | exact HB.out)) hb); clear HB; have HO310 := n0_; have HB := n1_; clear n0_ n1_; (try clear hb); (try clear hb2); (try clear hk); (try clear hi); (try clear ho0); obtain ⟨Ao18, co18, eo18⟩ := Kd.R_slice HO310.out; subst eo18) | ((with_reducible refine gate_callee (f := 48) rfl ?_); refine goesL_ (some 21) rfl rfl Tryz.func48 (by kernel_rfl) rfl #[.slice Ao18 t308.length co18, .int .i64 x14_1, .bool a1] rfl (by (try simp only [List.map_toArray, List.map_cons, List.map_nil]); first | done | rfl | (simp only [List.length_drop, List.length_take]; rfl)) ?_; (with_reducible refine (impl_oneThumb.calls k1 _ _ t308 x14_1 a1 t311 _ ?side1 ?side2 A8.out).mono ?_); (case side1 => repeat (first | exact (Kd.R_reads' HO310.out).2.2 | (with_reducible refine Kd.C_alloc ?_ _) | (with_reducible refine Kd.C_drewN ?_ _) | (with_reducible refine Kd.C_drew ?_))); (case side2 => exact (Kd.R_reads' HO310.out).2.1); rintro e w19 ⟨rfl, hb⟩; refine ⟨_, rfl, ?_⟩; have n0_ := Aside0.mk (Kd.R_below (by (with_reducible repeat (first | apply Kd.R_alloc | apply Kd.R_drewN | apply Kd.R_drew)); exact HO310.out) hb); have n1_ := Aside0.mk (below_step (by repeat (first | (with_reducible first | exact HB.out | apply below_alloc | apply pw_below_drewN | apply below_drew1) | exact HB.out)) hb); clear HO310; clear HB; have HO310 := n0_; have HB := n1_; clear n0_ n1_; (try clear hb); (try clear hb2); (try clear hk); (try clear hi)))
              go_roundg k1
              case measure => have := HK1.out; omega
              case rel => exact ⟨(x7_1), (x8_1), (wrap64 (x14_1 + 1)), (by first | rfl | (simp; done) | (simp [*]; done)), (by first | rfl | (simp; done) | (simp [*]; done)), (by first | rfl | (simp; done) | (simp [*]; done)), H', ⟨by have := HK1.out; omega⟩, ⟨by repeat (first | (with_reducible first | exact HB.out | apply below_alloc | apply pw_below_drewN | apply below_drew1) | exact HB.out)⟩⟩
        · rw [if_neg c6] at H
          have c6b0 : decide (x14_1 < 12) = false := decide_eq_false c6
          clear c6
          by_cases c20 : 0 ≤ x7_1
          · rw [if_pos c20] at H
            have c20b0 := eq_true c20
            have c20b1 : decide (0 ≤ x7_1) = true := decide_eq_true c20
            clear c20
            by_cases c21 : x7_1 ≤ (wrap64 (x7_1 + 1))
            · rw [if_pos c21] at H
              have c21b0 := eq_true c21
              have c21b1 : decide (x7_1 ≤ (wrap64 (x7_1 + 1))) = true := decide_eq_true c21
              by_cases c22 : (wrap64 (x7_1 + 1)) ≤ 12
              · rw [if_pos c22] at H
                have c22b0 := eq_true c22
                have c22b1 : decide ((wrap64 (x7_1 + 1)) ≤ 12) = true := decide_eq_true c22
                simp only [Option.some.injEq, Prod.mk.injEq] at H
                obtain ⟨rfl, rfl, rfl⟩ := H
                go_wp2
                go_ret3
                exact ⟨by first | rfl | (simp [errW_none, errW_some] <;> rfl) | (simp [*, errW_none, errW_some] <;> rfl), by repeat (first | (with_reducible first | exact HB.out | apply below_alloc | apply pw_below_drewN | apply below_drew1) | exact HB.out)⟩
              · rw [if_neg c22] at H
                exact absurd H (by simp)
            · rw [if_neg c21] at H
              exact absurd H (by simp)
          · rw [if_neg c20] at H
            exact absurd H (by simp)
  · replace c4 := Bool.eq_false_iff.mpr c4
    subst c4
    have H1 : (some ((⟨#[]⟩ : ByteArray), 0, false)) = some (r1, r2, r3) := by rw [if_neg (show ¬ (false = true) by decide)] at H; exact H
    clear H
    have H := H1
    clear H1
    simp only [Option.some.injEq, Prod.mk.injEq] at H
    obtain ⟨rfl, rfl, rfl⟩ := H
    go_enter Tryz.func30, Tryz.ntmps30
    go_wp2_with (first | ((with_reducible refine gate_callee (f := 13) rfl ?_); refine goesL_ (some 12) rfl rfl Tryz.func13 (by kernel_rfl) rfl #[.string a0] rfl (by (try simp only [List.map_toArray, List.map_cons, List.map_nil]); first | done | rfl | (simp only [List.length_drop, List.length_take]; rfl)) ?_; (with_reducible refine (impl_IsDialed.calls a0 false _ A3.out).mono ?_); rintro e w23 ⟨rfl, hb⟩; refine ⟨_, rfl, ?_⟩; have n0_ := Aside0.mk (below_step (by repeat (first | (with_reducible first | exact HB.out | apply below_alloc | apply pw_below_drewN | apply below_drew1) | exact HB.out)) hb); clear HB; have HB := n0_; clear n0_; (try clear hb); (try clear hb2); (try clear hk); (try clear hi)))
    go_ret3
    exact ⟨by first | rfl | (simp [errW_none, errW_some] <;> rfl) | (simp [*, errW_none, errW_some] <;> rfl), by repeat (first | (with_reducible first | exact HB.out | apply below_alloc | apply pw_below_drewN | apply below_drew1) | exact HB.out)⟩
end Go.Proofs.YtldnddehmpbbpaaGreatDoor.P
end

section
namespace Go.Proofs.YtldnddehmpbbpaaGreatDoor.P
open Go.RowKit Go.Proofs.YtldnddehmpbbpaaGreatDoorW.PrintWords Go.Proofs.YtldnddehmpbbpaaGreatDoorW.PrintLast Go.Proofs.YtldnddehmpbbpaaGreatDoorW.PrintMore
attribute [local go_sem] max2_int min2_int max_two min_two max_three min_three max_four min_four   -- for this text's walks alone
set_option linter.unusedVariables false
set_option linter.unusedSimpArgs false
def laws_FnThumbsMove.lp (k : Nat) (kk : ByteArray) (c : Bool) : Nat → Nat → ByteArray → Int → Option Int
  | 0, _, _, sum => some sum
  | d + 1, i, at_, sum => (impl_KeyDistance.f k at_ (kk.extract i (i + 1)) c).bind fun x => if x.2 = true then laws_FnThumbsMove.lp k kk c d (i + 1) (kk.extract i (i + 1)) (wrap64 (sum + x.1)) else none
def laws_FnThumbsMove.asc (s : ByteArray) : Prop := ∀ (i : Nat) (hi : i < s.size), (s[i]'hi) < 128
structure laws_FnThumbsMove.GB (k : Nat) (s l rr : ByteArray) (c : Bool) (p : List Int) (m n : Int) (okn : Bool) (a2 a3 : Int) (mi a b x y : ByteArray) (e : Int) : Prop where
  k1 : impl_ThumbPlan.f k s l rr p c = some (m, true)
  k2 : impl_OneThumb.f k s l c = some (a2, true)
  k3 : impl_OneThumb.f k s rr c = some (a3, true)
  k4 : impl_TwoThumbs.f k s rr l c = some (m, true)
  k5 : impl_MirrorKeys.f k s = some (mi, true)
  k6 : impl_MirrorKeys.f k l = some (a, true)
  k7 : impl_MirrorKeys.f k rr = some (b, true)
  k8 : impl_TwoThumbs.f k mi a b c = some (m, true)
  k9 : impl_BestStarts.f k s c = some (x, y, e, true)
  k10 : impl_TwoThumbs.f k s x y c = some (e, true)
  y1 : p.length = s.size
  y2 : m ≤ a2
  y3 : m ≤ a3
  y4 : e ≤ m
  y5 : okn = true → 1 ≤ n
structure laws_FnThumbsMove.GA (k : Nat) (l0 : List Int) (s l rr : ByteArray) (c : Bool) (p : List Int) (ok : Bool) (m n : Int) (okn di : Bool) : Prop where
  g1 : spec_DrawFirstThumbs.f k l0 = some (s, l, rr, c)
  g2 : impl_FirstThumbs.f k s l rr c = some (p, ok)
  g3 : spec_FirstThumbs.f k s l rr c = some (p, ok)
  g4 : impl_TwoThumbs.f k s l rr c = some (m, ok)
  g5 : spec_TwoThumbs.f k s l rr c = some (m, ok)
  g6 : impl_CountThumbs.f k s l rr c = some (n, okn)
  g7 : spec_CountThumbs.f k s l rr c = some (n, okn)
  g8 : laws_fSame.f k p p = some true
  g9 : impl_IsDialed.f s = some di
  g10 : spec_IsDialed.f k s = some di
  z1 : okn = true → ok = true
  z2 : ok = true → di = true
  hB : ok = true → ∃ a2 a3 mi a b x y e, laws_FnThumbsMove.GB k s l rr c p m n okn a2 a3 mi a b x y e
structure laws_FnThumbsMove.GG (k : Nat) (l1 : List Int) (kk st : ByteArray) (rd1 : Bool) (stp : Int) (five : Bool) (pl pa pb : ByteArray) (pt : List Int) (pm : Bool) (md : Int) (seven : Bool) (ms s2 mv : ByteArray) (nine : Bool) (t tx pr : ByteArray) (eleven : Bool) : Prop where
  h1 : spec_DrawOneThumb.f k l1 = some (kk, st, rd1)
  h2 : impl_OneThumb.f k kk st rd1 = some (stp, five)
  h3 : spec_OneThumb.f k kk st rd1 = some (stp, five)
  h4 : spec_DrawThumbPlan.f k l1 = some (pl, pa, pb, pt, pm)
  h5 : impl_ThumbPlan.f k pl pa pb pt pm = some (md, seven)
  h6 : spec_ThumbPlan.f k pl pa pb pt pm = some (md, seven)
  h7 : spec_DrawMovesOf.f k l1 = some (ms, s2)
  h8 : impl_MovesOf.f k ms s2 = some (mv, nine)
  h9 : spec_MovesOf.f k ms s2 = some (mv, nine)
  h10 : spec_DrawKeysOfMoves.f k l1 = some (t, tx)
  h11 : impl_KeysOfMoves.f k t tx = some (pr, eleven)
  h12 : spec_KeysOfMoves.f k t tx = some (pr, eleven)
  f5 : five = true → laws_FnThumbsMove.asc kk ∧ kk.size ≤ 1000 ∧ laws_FnThumbsMove.lp k kk rd1 kk.size 0 st 0 = some stp ∧ ∃ bs n, impl_BestStart.f k kk rd1 = some (bs, n, true) ∧ n ≤ stp ∧ bs.size = 1
  f7 : seven = true → ∃ n, impl_TwoThumbs.f k pl pa pb pm = some (n, true) ∧ n ≤ md
  f9 : nine = true → mv.size ≤ 200 → ∃ n, impl_KeysOfMoves.f k s2 mv = some (ms, true) ∧ impl_OneThumb.f k ms s2 false = some (n, true) ∧ (mv.size : Int) = wrap64 (n + (ms.size : Int))
  f11 : eleven = true → ∃ r, impl_MovesOf.f k pr t = some (r, true) ∧ r.size ≤ tx.size
def laws_FnThumbsMove.Good (k : Nat) (l0 l1 : List Int) : Prop := laws_big.f l0 l1 = some true ∨ (laws_big.f l0 l1 = some false ∧ (∃ s l rr c p ok m n okn di, laws_FnThumbsMove.GA k l0 s l rr c p ok m n okn di) ∧ ∃ kk st rd1 stp five pl pa pb pt pm md seven ms s2 mv nine t tx pr eleven, laws_FnThumbsMove.GG k l1 kk st rd1 stp five pl pa pb pt pm md seven ms s2 mv nine t tx pr eleven)
set_option maxHeartbeats 16000000 in
set_option maxRecDepth 100000 in
theorem laws_FnThumbsMove.calls (k : Nat) (A0 : Option Addr) (c0 : Nat) (l0 : List Int) (A1 : Option Addr) (c1 : Nat) (l1 : List Int) (w : World) (hr0 : Kd.C (Kd.int .u8) w A0 l0.length l0) (hc0 : l0.length ≤ c0) (hr1 : Kd.C (Kd.int .u8) w A1 l1.length l1) (hc1 : l1.length ≤ c1) (h : laws_FnThumbsMove.Good k l0 l1) :
    Calls Tryz.prog 3 #[.slice A0 l0.length c0, .slice A1 l1.length c1] w fun e w' => e = .returned (.bool true) ∧ Below w.heap.size w w' := by
  rcases h with hb | ⟨hb, ⟨s, l, rr, c, p, ok, m, n, okn, di, hA⟩, ⟨kk, st, rd1, stp, five, pl, pa, pb, pt, pm, md, seven, ms, s2, mv, nine, t, tx, pr, eleven, hG⟩⟩
  · have HBig := Aside0.mk (laws_big.calls A0 c0 l0 A1 c1 l1 true w hr0 hc0 hr1 hc1 hb)
    go_enter Tryz.func3, Tryz.ntmps3
    go_wp2_with fail
    refine HBig.out.mono ?_
    rintro e w1 ⟨rfl, hd1⟩
    go_wp2_with fail
    go_ret
    exact ⟨rfl, hd1.below⟩
  · have HBig := Aside0.mk (laws_big.calls A0 c0 l0 A1 c1 l1 false w hr0 hc0 hr1 hc1 hb)
    obtain ⟨g1, g2, g3, g4, g5, g6, g7, g8, g9, g10, z1, z2, hB⟩ := hA
    have C0 := Aside0.mk hr0
    have C1 := Aside0.mk hr1
    have HB := Aside0.mk hB
    have HG := Aside0.mk hG
    have Z1 := Aside0.mk z1
    have Z2 := Aside0.mk z2
    have B0_ := Aside0.mk (Below.refl w.heap.size w)
    have G1 := Aside0.mk g1
    have G2 := Aside0.mk g2
    have G3 := Aside0.mk g3
    have G4 := Aside0.mk g4
    have G5 := Aside0.mk g5
    have G6 := Aside0.mk g6
    have G7 := Aside0.mk g7
    have G8 := Aside0.mk g8
    have G9 := Aside0.mk g9
    have G10 := Aside0.mk g10
    clear g1 g2 g3 g4 g5 g6 g7 g8 g9 g10 hr0 hr1 hb z1 z2 hB hG
    go_enter Tryz.func3, Tryz.ntmps3
    go_upto_region 10 with (first | (go_at_call 4; with_reducible refine (HBig.out).mono ?_; rintro e w1_ ⟨rfl, hd_⟩; have hb := hd_.below; have B1_ := Aside0.mk (below_step B0_.out hb); clear hb B0_ hd_) | (go_at_call 5; with_reducible refine (spec_DrawFirstThumbs.calls k A0 c0 l0 s l rr c _ (Kd.C_below C0.out B1_.out) hc0 G1.out).mono ?_; rintro e w2_ ⟨rfl, hb⟩; have B2_ := Aside0.mk (below_step B1_.out hb); clear hb B1_) | (go_at_call 6; with_reducible refine (impl_FirstThumbs.calls k s l rr c p ok _ G2.out).mono ?_; rintro e w3_ ⟨v_, rfl, hR, hb⟩; obtain ⟨AP, cP, rfl⟩ := Kd.R_slice hR; have RAP_3 := Aside0.mk (Kd.R_reads' hR).2.2; have LAP := Aside0.mk (Kd.R_reads' hR).2.1; clear hR; have B3_ := Aside0.mk (below_step B2_.out hb); clear hb B2_) | (go_at_call 7; with_reducible refine (spec_FirstThumbs.calls k s l rr c p ok _ G3.out).mono ?_; rintro e w4_ ⟨v_, rfl, hR, hb⟩; obtain ⟨AQ, cQ, rfl⟩ := Kd.R_slice hR; have RAP_4 := Aside0.mk (Kd.C_below RAP_3.out hb); clear RAP_3; have RAQ_4 := Aside0.mk (Kd.R_reads' hR).2.2; have LAQ := Aside0.mk (Kd.R_reads' hR).2.1; clear hR; have B4_ := Aside0.mk (below_step B3_.out hb); clear hb B3_) | (go_at_call 8; with_reducible refine (impl_TwoThumbs.calls k s l rr c m ok _ G4.out).mono ?_; rintro e w5_ ⟨rfl, hb⟩; have RAP_5 := Aside0.mk (Kd.C_below RAP_4.out hb); clear RAP_4; have RAQ_5 := Aside0.mk (Kd.C_below RAQ_4.out hb); clear RAQ_4; have B5_ := Aside0.mk (below_step B4_.out hb); clear hb B4_) | (go_at_call 9; with_reducible refine (spec_TwoThumbs.calls k s l rr c m ok _ G5.out).mono ?_; rintro e w6_ ⟨rfl, hb⟩; have RAP_6 := Aside0.mk (Kd.C_below RAP_5.out hb); clear RAP_5; have RAQ_6 := Aside0.mk (Kd.C_below RAQ_5.out hb); clear RAQ_5; have B6_ := Aside0.mk (below_step B5_.out hb); clear hb B5_) | (go_at_call 10; with_reducible refine (impl_CountThumbs.calls k s l rr c n okn _ G6.out).mono ?_; rintro e w7_ ⟨rfl, hb⟩; have RAP_7 := Aside0.mk (Kd.C_below RAP_6.out hb); clear RAP_6; have RAQ_7 := Aside0.mk (Kd.C_below RAQ_6.out hb); clear RAQ_6; have B7_ := Aside0.mk (below_step B6_.out hb); clear hb B6_) | (go_at_call 11; with_reducible refine (spec_CountThumbs.calls k s l rr c n okn _ G7.out).mono ?_; rintro e w8_ ⟨rfl, hb⟩; have RAP_8 := Aside0.mk (Kd.C_below RAP_7.out hb); clear RAP_7; have RAQ_8 := Aside0.mk (Kd.C_below RAQ_7.out hb); clear RAQ_7; have B8_ := Aside0.mk (below_step B7_.out hb); clear hb B7_))
    clear G1 G2 G3 G4 G5 G6 G7
    go_cut [200] from 145 to 200 (fun s200 wx => s200 = .bool false ∧ Aside0 (Below w.heap.size w wx) ∧ Aside0 (Kd.C (Kd.int .i64) wx AP p.length p))
    case first => as_aux_lemma =>
      cases ok with
      | false =>
        have hzn : okn = false := by
          cases okn with
          | false => rfl
          | true => exact absurd (Z1.out rfl) (by simp)
        subst hzn
        have hdd : (di != di) = false := by simp
        go_wp2_with (first | (go_at_call 12; with_reducible refine (laws_fSame.calls k AP cP p AQ cQ p true _ RAP_8.out LAP.out RAQ_8.out LAQ.out G8.out).mono ?_; rintro e w9_ ⟨rfl, hd_⟩; have hb := hd_.below; have RAP_9 := Aside0.mk (Kd.C_below RAP_8.out hb); clear RAP_8; have RAQ_9 := Aside0.mk (Kd.C_below RAQ_8.out hb); clear RAQ_8; have B9_ := Aside0.mk (below_step B8_.out hb); clear hb B8_ hd_) | (go_at_call 13; with_reducible refine (impl_IsDialed.calls s di _ G9.out).mono ?_; rintro e w10_ ⟨rfl, hb⟩; have RAP_10 := Aside0.mk (Kd.C_below RAP_9.out hb); clear RAP_9; have RAQ_10 := Aside0.mk (Kd.C_below RAQ_9.out hb); clear RAQ_9; have B10_ := Aside0.mk (below_step B9_.out hb); clear hb B9_) | (go_at_call 14; with_reducible refine (spec_IsDialed.calls k s di _ G10.out).mono ?_; rintro e w11_ ⟨rfl, hd_⟩; have hb := hd_.below; have RAP_11 := Aside0.mk (Kd.C_below RAP_10.out hb); clear RAP_10; have RAQ_11 := Aside0.mk (Kd.C_below RAQ_10.out hb); clear RAQ_10; have B11_ := Aside0.mk (below_step B10_.out hb); clear hb B10_ hd_))
        go_meet
        case rel => exact ⟨by simp, B11_, RAP_11⟩
      | true =>
        obtain rfl : di = true := Z2.out rfl
        cases okn
        all_goals
          go_wp2_with (first | (go_at_call 12; with_reducible refine (laws_fSame.calls k AP cP p AQ cQ p true _ RAP_8.out LAP.out RAQ_8.out LAQ.out G8.out).mono ?_; rintro e w9_ ⟨rfl, hd_⟩; have hb := hd_.below; have RAP_9 := Aside0.mk (Kd.C_below RAP_8.out hb); clear RAP_8; have RAQ_9 := Aside0.mk (Kd.C_below RAQ_8.out hb); clear RAQ_8; have B9_ := Aside0.mk (below_step B8_.out hb); clear hb B8_ hd_) | (go_at_call 13; with_reducible refine (impl_IsDialed.calls s true _ G9.out).mono ?_; rintro e w10_ ⟨rfl, hb⟩; have RAP_10 := Aside0.mk (Kd.C_below RAP_9.out hb); clear RAP_9; have RAQ_10 := Aside0.mk (Kd.C_below RAQ_9.out hb); clear RAQ_9; have B10_ := Aside0.mk (below_step B9_.out hb); clear hb B9_) | (go_at_call 14; with_reducible refine (spec_IsDialed.calls k s true _ G10.out).mono ?_; rintro e w11_ ⟨rfl, hd_⟩; have hb := hd_.below; have RAP_11 := Aside0.mk (Kd.C_below RAP_10.out hb); clear RAP_10; have RAQ_11 := Aside0.mk (Kd.C_below RAQ_10.out hb); clear RAQ_10; have B11_ := Aside0.mk (below_step B10_.out hb); clear hb B10_ hd_) | (go_at_call 13; with_reducible refine (impl_IsDialed.calls s true _ G9.out).mono ?_; rintro e w12_ ⟨rfl, hb⟩; have RAP_12 := Aside0.mk (Kd.C_below RAP_11.out hb); clear RAP_11; have RAQ_12 := Aside0.mk (Kd.C_below RAQ_11.out hb); clear RAQ_11; have B12_ := Aside0.mk (below_step B11_.out hb); clear hb B11_))
          go_meet
          case rel => exact ⟨by simp, B12_, RAP_12⟩
    case rest => as_aux_lemma =>
      obtain ⟨rfl, B12, CP12⟩ := hcut
      clear RAP_8 RAQ_8 B8_ G8 G9 G10 LAQ
      go_upto_if 201 with fail
      go_cut [] from 202 to 356 (fun wx => Aside0 (Below w.heap.size w wx))
      case first => as_aux_lemma =>
        clear HG
        cases ok with
        | false =>
          go_wp2_with fail
          go_meet
          case rel => exact B12
        | true =>
          obtain ⟨a2, a3, mi, a, b, x, y, e, hB⟩ := HB.out rfl
          obtain ⟨k1, k2, k3, k4, k5, k6, k7, k8, k9, k10, y1, y2, y3, y4, y5⟩ := hB
          have Y5 := Aside0.mk y5
          have q1 : ((p.length : Int) != (s.size : Int)) = false := bne_eq_false_iff_eq.2 (by omega)
          have q2 : decide (a2 < m) = false := decide_eq_false (by omega)
          have q3 : decide (a3 < m) = false := decide_eq_false (by omega)
          have q4 : decide (m < e) = false := decide_eq_false (by omega)
          have K1 := Aside0.mk k1
          have K2 := Aside0.mk k2
          have K3 := Aside0.mk k3
          have K4 := Aside0.mk k4
          have K5 := Aside0.mk k5
          have K6 := Aside0.mk k6
          have K7 := Aside0.mk k7
          have K8 := Aside0.mk k8
          have K9 := Aside0.mk k9
          have K10 := Aside0.mk k10
          clear k1 k2 k3 k4 k5 k6 k7 k8 k9 k10 y1 y2 y3 y4 y5 HB
          go_upto_region 22 with (first | (go_at_call 15; with_reducible refine (impl_ThumbPlan.calls k s l rr AP cP p c _ true _ CP12.out LAP.out K1.out).mono ?_; rintro e w13_ ⟨rfl, hb⟩; have CP_13 := Aside0.mk (Kd.C_below CP12.out hb); clear CP12; have B13_ := Aside0.mk (below_step B12.out hb); clear hb B12) | (go_at_call 16; with_reducible refine (impl_OneThumb.calls k s l c _ true _ K2.out).mono ?_; rintro e w14_ ⟨rfl, hb⟩; have CP_14 := Aside0.mk (Kd.C_below CP_13.out hb); clear CP_13; have B14_ := Aside0.mk (below_step B13_.out hb); clear hb B13_) | (go_at_call 16; with_reducible refine (impl_OneThumb.calls k s rr c _ true _ K3.out).mono ?_; rintro e w15_ ⟨rfl, hb⟩; have CP_15 := Aside0.mk (Kd.C_below CP_14.out hb); clear CP_14; have B15_ := Aside0.mk (below_step B14_.out hb); clear hb B14_) | (go_at_call 8; with_reducible refine (impl_TwoThumbs.calls k s rr l c _ true _ K4.out).mono ?_; rintro e w16_ ⟨rfl, hb⟩; have CP_16 := Aside0.mk (Kd.C_below CP_15.out hb); clear CP_15; have B16_ := Aside0.mk (below_step B15_.out hb); clear hb B15_) | (go_at_call 17; with_reducible refine (impl_MirrorKeys.calls k s _ true _ K5.out).mono ?_; rintro e w17_ ⟨rfl, hb⟩; have CP_17 := Aside0.mk (Kd.C_below CP_16.out hb); clear CP_16; have B17_ := Aside0.mk (below_step B16_.out hb); clear hb B16_) | (go_at_call 17; with_reducible refine (impl_MirrorKeys.calls k l _ true _ K6.out).mono ?_; rintro e w18_ ⟨rfl, hb⟩; have CP_18 := Aside0.mk (Kd.C_below CP_17.out hb); clear CP_17; have B18_ := Aside0.mk (below_step B17_.out hb); clear hb B17_) | (go_at_call 17; with_reducible refine (impl_MirrorKeys.calls k rr _ true _ K7.out).mono ?_; rintro e w19_ ⟨rfl, hb⟩; have CP_19 := Aside0.mk (Kd.C_below CP_18.out hb); clear CP_18; have B19_ := Aside0.mk (below_step B18_.out hb); clear hb B18_) | (go_at_call 8; with_reducible refine (impl_TwoThumbs.calls k _ _ _ c _ true _ K8.out).mono ?_; rintro e w20_ ⟨rfl, hb⟩; have CP_20 := Aside0.mk (Kd.C_below CP_19.out hb); clear CP_19; have B20_ := Aside0.mk (below_step B19_.out hb); clear hb B19_) | (go_at_call 18; with_reducible refine (impl_BestStarts.calls k s c _ _ _ true _ K9.out).mono ?_; rintro e w21_ ⟨rfl, hb⟩; have CP_21 := Aside0.mk (Kd.C_below CP_20.out hb); clear CP_20; have B21_ := Aside0.mk (below_step B20_.out hb); clear hb B20_))
          have B31 := Aside0.mk B21_.out
          go_cut [341] from 264 to 341 (fun s341 wx => s341 = .bool false ∧ wx = w21_)
          case first => as_aux_lemma =>
            dsimp only [List.append]
            cases okn with
            | false =>
              go_wp2_with fail
              go_meet
              case rel => exact ⟨by simp, rfl⟩
            | true =>
              have q5 : decide (n < 1) = false := decide_eq_false (by have := Y5.out rfl; omega)
              go_wp2_with fail
              go_meet
              case rel => exact ⟨by simp, rfl⟩
          case rest => as_aux_lemma =>
            obtain ⟨rfl, rfl⟩ := hcut
            go_wp2_with (first | (go_at_call 8; with_reducible refine (impl_TwoThumbs.calls k s _ _ c _ true _ K10.out).mono ?_; rintro e w32_ ⟨rfl, hb⟩; have B32_ := Aside0.mk (below_step B31.out hb); clear hb B31))
            go_meet
            case rel => exact B32_
      case rest => as_aux_lemma =>
        have B40 := Aside0.mk hcut.out
        clear hcut CP12 B12 HB
        obtain ⟨h1, h2, h3, h4, h5, h6, h7, h8, h9, h10, h11, h12, f5, f7, f9, f11⟩ := HG.out
        have H1 := Aside0.mk h1
        have H2 := Aside0.mk h2
        have H3 := Aside0.mk h3
        have H4 := Aside0.mk h4
        have H5 := Aside0.mk h5
        have H6 := Aside0.mk h6
        have H7 := Aside0.mk h7
        have H8 := Aside0.mk h8
        have H9 := Aside0.mk h9
        have H10 := Aside0.mk h10
        have H11 := Aside0.mk h11
        have H12 := Aside0.mk h12
        have F5 := Aside0.mk f5
        have F7 := Aside0.mk f7
        have F9 := Aside0.mk f9
        have F11 := Aside0.mk f11
        clear HG h1 h2 h3 h4 h5 h6 h7 h8 h9 h10 h11 h12 f5 f7 f9 f11
        go_upto_region 39 with (first | (go_at_call 19; with_reducible refine (spec_DrawOneThumb.calls k A1 c1 l1 kk st rd1 _ (Kd.C_below C1.out B40.out) hc1 H1.out).mono ?_; rintro e w41_ ⟨rfl, hb⟩; have B41_ := Aside0.mk (below_step B40.out hb); clear hb B40) | (go_at_call 16; with_reducible refine (impl_OneThumb.calls k kk st rd1 stp five _ H2.out).mono ?_; rintro e w42_ ⟨rfl, hb⟩; have B42_ := Aside0.mk (below_step B41_.out hb); clear hb B41_) | (go_at_call 20; with_reducible refine (spec_OneThumb.calls k kk st rd1 stp five _ H3.out).mono ?_; rintro e w43_ ⟨rfl, hd_⟩; have hb := hd_.below; have B43_ := Aside0.mk (below_step B42_.out hb); clear hb B42_ hd_) | (go_at_call 21; with_reducible refine (spec_DrawThumbPlan.calls k A1 c1 l1 pl pa pb pt pm _ (Kd.C_below C1.out B43_.out) hc1 H4.out).mono ?_; rintro e w44_ ⟨v_, rfl, hR, hb⟩; obtain ⟨AT, cT, rfl⟩ := Kd.R_slice hR; have RAT_44 := Aside0.mk (Kd.R_reads' hR).2.2; have LAT := Aside0.mk (Kd.R_reads' hR).2.1; clear hR; have B44_ := Aside0.mk (below_step B43_.out hb); clear hb B43_) | (go_at_call 15; with_reducible refine (impl_ThumbPlan.calls k pl pa pb AT cT pt pm md seven _ RAT_44.out LAT.out H5.out).mono ?_; rintro e w45_ ⟨rfl, hb⟩; have RAT_45 := Aside0.mk (Kd.C_below RAT_44.out hb); clear RAT_44; have B45_ := Aside0.mk (below_step B44_.out hb); clear hb B44_) | (go_at_call 22; with_reducible refine (spec_ThumbPlan.calls k pl pa pb AT cT pt pm md seven _ RAT_45.out LAT.out H6.out).mono ?_; rintro e w46_ ⟨rfl, hb⟩; have RAT_46 := Aside0.mk (Kd.C_below RAT_45.out hb); clear RAT_45; have B46_ := Aside0.mk (below_step B45_.out hb); clear hb B45_) | (go_at_call 23; with_reducible refine (spec_DrawMovesOf.calls k A1 c1 l1 ms s2 _ (Kd.C_below C1.out B46_.out) hc1 H7.out).mono ?_; rintro e w47_ ⟨rfl, hb⟩; have RAT_47 := Aside0.mk (Kd.C_below RAT_46.out hb); clear RAT_46; have B47_ := Aside0.mk (below_step B46_.out hb); clear hb B46_) | (go_at_call 24; with_reducible refine (impl_MovesOf.calls k ms s2 mv nine _ H8.out).mono ?_; rintro e w48_ ⟨rfl, hb⟩; have RAT_48 := Aside0.mk (Kd.C_below RAT_47.out hb); clear RAT_47; have B48_ := Aside0.mk (below_step B47_.out hb); clear hb B47_) | (go_at_call 25; with_reducible refine (spec_MovesOf.calls k ms s2 mv nine _ H9.out).mono ?_; rintro e w49_ ⟨rfl, hd_⟩; have hb := hd_.below; have RAT_49 := Aside0.mk (Kd.C_below RAT_48.out hb); clear RAT_48; have B49_ := Aside0.mk (below_step B48_.out hb); clear hb B48_ hd_) | (go_at_call 26; with_reducible refine (spec_DrawKeysOfMoves.calls k A1 c1 l1 t tx _ (Kd.C_below C1.out B49_.out) hc1 H10.out).mono ?_; rintro e w50_ ⟨rfl, hb⟩; have RAT_50 := Aside0.mk (Kd.C_below RAT_49.out hb); clear RAT_49; have B50_ := Aside0.mk (below_step B49_.out hb); clear hb B49_) | (go_at_call 27; with_reducible refine (impl_KeysOfMoves.calls k t tx pr eleven _ H11.out).mono ?_; rintro e w51_ ⟨rfl, hb⟩; have RAT_51 := Aside0.mk (Kd.C_below RAT_50.out hb); clear RAT_50; have B51_ := Aside0.mk (below_step B50_.out hb); clear hb B50_) | (go_at_call 28; with_reducible refine (spec_KeysOfMoves.calls k t tx pr eleven _ H12.out).mono ?_; rintro e w52_ ⟨rfl, hd_⟩; have hb := hd_.below; have RAT_52 := Aside0.mk (Kd.C_below RAT_51.out hb); clear RAT_51; have B52_ := Aside0.mk (below_step B51_.out hb); clear hb B51_ hd_))
        have B60 := Aside0.mk B52_.out
        clear C1 B52_ RAT_52 LAT
        have e5 : (five != five) = false := by simp
        have e7 : (seven != seven) = false := by simp
        have e9 : (nine != nine) = false := by simp
        have e11 : (eleven != eleven) = false := by simp
        go_upto_if 475 with fail
        clear e5 e7 e9 e11
        go_cut [] from 476 to 526 (fun wx => Aside0 (Below w.heap.size w wx))
        case first => as_aux_lemma =>
          clear F7 F9 F11
          cases five with
          | false =>
            go_wp2_with fail
            go_meet
            case rel => exact B60
          | true =>
            obtain ⟨hasc, hsz, hlp, bs, n5, hb1, hb2, hb3⟩ := F5.out rfl
            have HAs := Aside0.mk hasc
            have HLP := Aside0.mk hlp
            have HBS := Aside0.mk hb1
            have r1 : (stp != stp) = false := by simp
            have r2 : decide (stp < n5) = false := decide_eq_false (by omega)
            have r3 : ((bs.size : Int) != 1) = false := bne_eq_false_iff_eq.2 (by omega)
            clear hasc hlp hb1 F5
            go_wp2
            obtain ⟨it, hit⟩ : ∃ it, it = w52_.heap.size := ⟨_, rfl⟩
            have hwi : w.heap.size ≤ it := by rw [hit]; exact B60.out.size
            have HIt0 : Aside0 ((w52_.alloc (.stringIter kk 0)).heap[it]? = some (.stringIter kk 0)) := ⟨by rw [hit]; exact World.iter_heap w52_ kk 0⟩
            have HB0 : Aside0 (Below w.heap.size w (w52_.alloc (.stringIter kk 0))) := ⟨below_alloc B60.out _⟩
            simp only [← hit]
            clear hit B60
            go_loopg [71, 72] kk.size (fun gg v71 v72 wr => ∃ (i : Nat) (at_ : ByteArray) (sum : Int), v71 = .int .i64 sum ∧ v72 = .string at_ ∧ i + gg = kk.size ∧ Aside0 (laws_FnThumbsMove.lp k kk rd1 gg i at_ sum = some stp) ∧ Aside0 (Below w.heap.size w wr) ∧ Aside0 (wr.heap[it]? = some (.stringIter kk i)))
            case atStart => exact ⟨0, st, 0, rfl, rfl, by omega, HLP, HB0, HIt0⟩
            case round =>
              clear HIt0 HB0 HLP
              obtain ⟨i, at_, sum, rfl, rfl, hi, HL, HB, HIt⟩ := hrel
              by_cases hlt : i < kk.size
              · obtain ⟨d, rfl⟩ : ∃ d, gk = d + 1 := ⟨gk - 1, by omega⟩
                have hl := HL.out
                rw [laws_FnThumbsMove.lp] at hl
                obtain ⟨⟨x, tt⟩, k5, hl2⟩ := Option.bind_eq_some_iff.1 hl
                split at hl2
                · rename_i htt
                  dsimp only at htt
                  subst htt
                  have K5 := Aside0.mk k5
                  have HL2 := Aside0.mk hl2
                  have hnx : ∀ ty, (Instr.next (.pointer (some ⟨it, 0, none⟩)) true ty).run Tryz.prog wr = .ok (.tuple #[.bool true, .int .i64 i, .int .i32 (kk[i]'hlt).toNat]) (wr.iterAt it kk (i + 1)) := fun ty => Go.Lib.run_next_ascii_at wr it kk i ty HIt.out hlt (HAs.out i hlt)
                  have HB2 : Aside0 (Below w.heap.size w (wr.iterAt it kk (i + 1))) := ⟨Go.Lib.below_iterAt HB.out hwi _ _⟩
                  have HIt2 : Aside0 ((wr.iterAt it kk (i + 1)).heap[it]? = some (.stringIter kk (i + 1))) := ⟨Go.Lib.iterAt_heap _ _ _ _ _ HIt.out⟩
                  generalize (kk[i]'hlt).toNat = ch at hnx
                  generalize wr.iterAt it kk (i + 1) = W2 at *
                  clear HB HIt HL hl k5 hl2
                  go_upto_region 46 with fail
                  clear hnx
                  have s1 : (0 : Int) ≤ (i : Int) := by omega
                  have s2_ : (i : Int) ≤ (i : Int) + 1 := by omega
                  have s3 : (i : Int) + 1 ≤ (kk.size : Int) := by omega
                  have s4 : ((i : Int) + 1).toNat = i + 1 := by omega
                  have s5 : (0 : Int) ≤ (i : Int) + 1 := by omega
                  go_wp2_with (first | (go_at_call 29; refine (impl_KeyDistance.calls k at_ (kk.extract i (i + 1)) rd1 x true _ K5.out).mono ?_; rintro e w6 ⟨rfl, hb⟩; have hB6 := below_step HB2.out hb; have hIt6 := blk_below HIt2.out hb))
                  go_roundg d
                  case measure => omega
                  case rel => exact ⟨i + 1, kk.extract i (i + 1), wrap64 (sum + x), by rw [← i64_w], rfl, by omega, HL2, ⟨hB6⟩, ⟨hIt6⟩⟩
                · cases hl2
              · obtain rfl : gk = 0 := by omega
                have hl := HL.out
                rw [laws_FnThumbsMove.lp] at hl
                obtain rfl := Option.some.inj hl
                have hnx : ∀ ty, (Instr.next (.pointer (some ⟨it, 0, none⟩)) true ty).run Tryz.prog wr = .ok (.tuple #[.bool false]) wr := fun ty => Go.Lib.run_next_end_at wr it kk i ty HIt.out (by omega)
                clear HL HIt hl
                go_wp2_with (first | (go_at_call 30; refine (impl_BestStart.calls k kk rd1 bs n5 true _ HBS.out).mono ?_; rintro e w6 ⟨rfl, hb⟩; have hB6 := Aside0.mk (below_step HB.out hb); clear hb))
                go_meet
                case rel => exact hB6
        case rest => as_aux_lemma =>
          have B70 := Aside0.mk hcut.out
          clear hcut B60 F5
          go_upto_if 527 with fail
          go_cut [] from 528 to 542 (fun wx => Aside0 (Below w.heap.size w wx))
          case first => as_aux_lemma =>
            clear F9 F11
            cases seven with
            | false =>
              go_wp2_with fail
              go_meet
              case rel => exact B70
            | true =>
              obtain ⟨n7, g1, g2⟩ := F7.out rfl
              have G1 := Aside0.mk g1
              have q1 : decide (md < n7) = false := decide_eq_false (by omega)
              clear g1 g2 F7
              go_wp2_with (first | (go_at_call 8; refine (impl_TwoThumbs.calls k pl pa pb pm n7 true _ G1.out).mono ?_; rintro e w71_ ⟨rfl, hb⟩; have B71 := Aside0.mk (below_step B70.out hb); clear hb))
              go_meet
              case rel => exact B71
          case rest => as_aux_lemma =>
            have B80 := Aside0.mk hcut.out
            clear hcut B70 F7
            go_upto_region 59 with fail
            go_cut [548] from 543 to 548 (fun s548 wx => s548 = .bool (nine && decide (mv.size ≤ 200)) ∧ wx = wc)
            case first => as_aux_lemma =>
              clear F9 F11
              cases nine with
              | false =>
                go_wp2_with fail
                go_meet
                case rel => exact ⟨by simp, rfl⟩
              | true =>
                by_cases h200 : mv.size ≤ 200
                · have q1 : decide ((mv.size : Int) ≤ 200) = true := decide_eq_true (by omega)
                  go_wp2_with fail
                  go_meet
                  case rel => exact ⟨by simp [h200], rfl⟩
                · have q1 : decide ((mv.size : Int) ≤ 200) = false := decide_eq_false (by omega)
                  go_wp2_with fail
                  go_meet
                  case rel => exact ⟨by simp [h200], rfl⟩
            case rest => as_aux_lemma =>
              obtain ⟨rfl, rfl⟩ := hcut
              have B81 := Aside0.mk B80.out
              clear B80
              go_upto_if 548 with fail
              go_cut [] from 548 to 580 (fun wx => Aside0 (Below w.heap.size w wx))
              case first => as_aux_lemma =>
                clear F11
                cases hn : (nine && decide (mv.size ≤ 200)) with
                | false =>
                  go_wp2_with fail
                  go_meet
                  case rel => exact B81
                | true =>
                  have hn1 : nine = true ∧ mv.size ≤ 200 := by simpa using hn
                  obtain ⟨n9, g1, g2, g3⟩ := F9.out hn1.1 hn1.2
                  have G1 := Aside0.mk g1
                  have G2 := Aside0.mk g2
                  have q1 : ((mv.size : Int) != wrap64 (n9 + (ms.size : Int))) = false := bne_eq_false_iff_eq.2 g3
                  clear g1 g2 g3 hn hn1 F9
                  go_wp2_with (first | (go_at_call 27; with_reducible refine (impl_KeysOfMoves.calls k s2 mv ms true _ G1.out).mono ?_; rintro e w81_ ⟨rfl, hb⟩; have B82 := Aside0.mk (below_step B81.out hb); clear hb) | (go_at_call 16; with_reducible refine (impl_OneThumb.calls k ms s2 false n9 true _ G2.out).mono ?_; rintro e w82_ ⟨rfl, hb⟩; have B83 := Aside0.mk (below_step B82.out hb); clear hb))
                  go_meet
                  case rel => exact B83
              case rest => as_aux_lemma =>
                have B90 := Aside0.mk hcut.out
                clear hcut B81 F9
                cases eleven with
                | false =>
                  go_wp2_with fail
                  go_ret
                  exact ⟨rfl, B90.out⟩
                | true =>
                  obtain ⟨r, g1, g2⟩ := F11.out rfl
                  have G1 := Aside0.mk g1
                  have q1 : decide (r.size ≤ tx.size) = true := decide_eq_true g2
                  clear g1 g2 F11
                  go_wp2_with (first | (go_at_call 24; with_reducible refine (impl_MovesOf.calls k pr t r true _ G1.out).mono ?_; rintro e w91_ ⟨rfl, hb⟩; have B91 := Aside0.mk (below_step B90.out hb); clear hb))
                  go_ret
                  exact ⟨rfl, B91.out⟩
def laws_FnThumbsMove.Pure : Prop := ∀ (l0 l1 : List Int), l0.length ≤ maxLen → l0.length * 1 ≤ 140737488351232 → (∀ x ∈ l0, (Lit.int .u8 x).wf = true) → l1.length ≤ maxLen → l1.length * 1 ≤ 140737488351232 → (∀ x ∈ l1, (Lit.int .u8 x).wf = true) → ∃ k, laws_FnThumbsMove.Good k l0 l1
theorem laws_FnThumbsMove.walk (P : laws_FnThumbsMove.Pure) (a0 : Option Addr) (len0 cap0 : Nat) (z0 : List Int) (a1 : Option Addr) (len1 cap1 : Nat) (z1 : List Int) (w : World) (w0 : (a0 = none ∧ len0 = 0 ∧ cap0 = 0 ∧ z0 = []) ∨ ∃ x, a0 = some x ∧ len0 ≤ cap0 ∧ cap0 ≤ maxLen ∧ z0.length = cap0 ∧ (∀ i, i < z0.length → w.cell? (x.add i) = some (.int .u8 (z0.getD i 0))) ∧ ∀ n ∈ z0, (Lit.int .u8 n).wf = true) (y0 : len0 * 1 ≤ 140737488351232) (w1 : (a1 = none ∧ len1 = 0 ∧ cap1 = 0 ∧ z1 = []) ∨ ∃ x, a1 = some x ∧ len1 ≤ cap1 ∧ cap1 ≤ maxLen ∧ z1.length = cap1 ∧ (∀ i, i < z1.length → w.cell? (x.add i) = some (.int .u8 (z1.getD i 0))) ∧ ∀ n ∈ z1, (Lit.int .u8 n).wf = true) (y1 : len1 * 1 ≤ 140737488351232) :
    Calls Tryz.prog 3 #[.slice a0 len0 cap0, .slice a1 len1 cap1] w fun e w' => e = .returned (.bool true) ∧ Below w.heap.size w w' := by
  obtain ⟨l0, rfl, hr0, hm0, hw0, hc0⟩ := ReadsInt.ofRowC w0
  obtain ⟨l1, rfl, hr1, hm1, hw1, hc1⟩ := ReadsInt.ofRowC w1
  obtain ⟨k, h⟩ := P l0 l1 hm0 y0 hw0 hm1 y1 hw1
  refine (laws_FnThumbsMove.calls k _ _ l0 _ _ l1 w (Kd.C_of_reads (d := (0 : Int)) (h1 := fun _ => rfl) hr0) hc0 (Kd.C_of_reads (d := (0 : Int)) (h1 := fun _ => rfl) hr1) hc1 h).mono ?_
  rintro e w' ⟨rfl, hd⟩
  exact ⟨rfl, hd⟩
end Go.Proofs.YtldnddehmpbbpaaGreatDoor.P
end

section
namespace Go.Proofs.YtldnddehmpbbpaaGreatDoor.Pu
open Go.RowKit Go.Proofs.YtldnddehmpbbpaaGreatDoorW.PrintWords Go.Proofs.YtldnddehmpbbpaaGreatDoorW.PrintLast Go.Proofs.YtldnddehmpbbpaaGreatDoorW.PrintMore
theorem ev_from {α : Type} {g : Nat → Option α} {r : α} (K : Nat) (h : ∀ k, K ≤ k → g (k + 1) = some r) : Ev g r := by
  refine ⟨K + 1, fun n hn => ?_⟩
  obtain ⟨m, rfl⟩ : ∃ m, n = m + 1 := ⟨n - 1, by omega⟩
  exact h m (by omega)
theorem bsome {α β : Type} (a : α) (f : α → Option β) : (some a).bind f = f a := Option.bind_some a f
theorem wr {x : Int} (h0 : -9223372036854775808 ≤ x) (h1 : x ≤ 9223372036854775807) : wrap64 x = x := by unfold wrap64; omega
theorem bytes_ext {s t : ByteArray} (h : bytesOf s = bytesOf t) : s = t := by
  have h1 : s.data.toList = t.data.toList := by
    unfold bytesOf at h
    refine List.ext_getElem (by simpa using congrArg List.length h) fun i h1 h2 => ?_
    have := congrArg (fun l => l[i]?) h
    simp only [List.getElem?_map, List.getElem?_eq_getElem h1, List.getElem?_eq_getElem h2, Option.map_some, Option.some.injEq] at this
    exact UInt8.toNat_inj.1 (by omega)
  cases s; cases t
  simp only [ByteArray.mk.injEq]
  exact Array.toList_inj.1 h1
theorem size_bytes (s : ByteArray) : s.size = (bytesOf s).length := (bytesOf_length s).symm
theorem bt_bytes (s : ByteArray) (i : Int) : bt s i = (bytesOf s).getD i.toNat 0 := by rw [← rd_bytesOf]; rfl
theorem bytes_range (s : ByteArray) : ∀ c ∈ bytesOf s, 0 ≤ c ∧ c ≤ 255 := by
  intro c hc
  unfold bytesOf at hc
  obtain ⟨b, _, rfl⟩ := List.mem_map.1 hc
  have := b.toNat_lt
  omega
theorem bytes_nums {L : List Int} (h : ∀ c ∈ L, 0 ≤ c ∧ c ≤ 255) : bytesOf (strOfNums L) = L := by
  unfold bytesOf strOfNums
  simp only [List.map_map]
  conv => rhs; rw [← List.map_id L]
  refine List.map_congr_left fun c hc => ?_
  have := h c hc
  show ((UInt8.ofNat c.toNat).toNat : Int) = c
  rw [UInt8.toNat_ofNat']
  omega
theorem nums_bytes (s : ByteArray) : strOfNums (bytesOf s) = s := bytes_ext (bytes_nums (bytes_range s))
theorem size_nums (L : List Int) : (strOfNums L).size = L.length := by
  unfold strOfNums
  simp [ByteArray.size]
theorem bytes_extract (s : ByteArray) (a b : Nat) : bytesOf (s.extract a b) = ((bytesOf s).take b).drop a := by
  unfold bytesOf
  rw [ByteArray.data_extract, Array.toList_extract, List.extract_eq_take_drop, List.map_take, List.map_drop]
  rw [List.drop_take]
theorem numsApp (L M : List Int) : strOfNums (L ++ M) = strOfNums L ++ strOfNums M := by
  unfold strOfNums
  simp only [List.map_append]
  cases h : (ByteArray.mk (L.map fun x => x.toNat.toUInt8).toArray ++ ByteArray.mk (M.map fun x => x.toNat.toUInt8).toArray) with
  | mk d =>
    have := congrArg ByteArray.data h
    rw [ByteArray.data_append] at this
    simp only at this
    rw [← this]
    congr 1
    simp
theorem bytes_all {p : UInt8 → Bool} {q : Int → Bool} (h : ∀ b : UInt8, p b = q b.toNat) (s : ByteArray) : s.data.toList.all p = (bytesOf s).all q := by
  unfold bytesOf
  rw [List.all_map]
  congr 1
  funext b
  exact h b
theorem drop_bytes (s : ByteArray) (i : Nat) (h : i < s.size) : (bytesOf s).drop i = bt s i :: (bytesOf s).drop (i + 1) := by
  have hl : i < (bytesOf s).length := by rw [bytesOf_length]; exact h
  rw [List.drop_eq_getElem_cons hl, bt_bytes, Int.toNat_natCast, List.getD_eq_getElem?_getD, List.getElem?_eq_getElem hl]
  rfl
theorem drop_end (s : ByteArray) : (bytesOf s).drop s.size = [] := List.drop_eq_nil_of_le (by rw [bytesOf_length]; exact Nat.le_refl _)
theorem bt_mem (s : ByteArray) (i : Nat) (h : i < s.size) : bt s i ∈ bytesOf s := by
  have hd := drop_bytes s i h
  have : bt s i ∈ (bytesOf s).drop i := by rw [hd]; exact List.mem_cons_self
  exact List.mem_of_mem_drop this
theorem dropWhile_nil_all {α : Type} (p : α → Bool) (l : List α) : l.dropWhile p = [] ↔ l.all p = true := by
  induction l with
  | nil => simp
  | cons a l ih =>
    rw [List.dropWhile_cons, List.all_cons]
    cases h : p a <;> simp [ih]
theorem trimS_nil (l cs : List UInt8) : Lib.trimS l cs = [] ↔ l.all (fun b => cs.contains b) = true := by
  unfold Lib.trimS Lib.trimLeftS Lib.trimRightS
  rw [dropWhile_nil_all]
  constructor
  · intro h
    have hr : ∀ (m : List UInt8), ((m.dropWhile (cs.contains ·)).reverse).all (fun b => cs.contains b) = true → m.all (fun b => cs.contains b) = true := by
      intro m
      induction m with
      | nil => simp
      | cons a m ih =>
        rw [List.dropWhile_cons]
        cases ha : cs.contains a with
        | true => intro h; rw [if_pos rfl] at h; simp only [List.all_cons, ha, Bool.true_and]; exact ih h
        | false => intro h; simp at h; simpa using And.intro h.2 h.1
    have := hr l.reverse h
    simpa using this
  · intro h
    have : l.reverse.dropWhile (cs.contains ·) = [] := (dropWhile_nil_all _ _).2 (by simpa using h)
    rw [this]
    rfl
end Go.Proofs.YtldnddehmpbbpaaGreatDoor.Pu
end

section
namespace Go.Proofs.YtldnddehmpbbpaaGreatDoor.Pu
open Go.RowKit Go.Proofs.YtldnddehmpbbpaaGreatDoor.P Go.Proofs.YtldnddehmpbbpaaGreatDoorW.PrintWords Go.Proofs.YtldnddehmpbbpaaGreatDoorW.PrintLast Go.Proofs.YtldnddehmpbbpaaGreatDoorW.PrintMore
theorem in_is (a b c : Int) : impl_in.f a b c = some (decide (b ≤ a) && decide (a ≤ c)) := by
  unfold impl_in.f
  by_cases h : b ≤ a <;> simp [h]
theorem l1In_is (a b c : Int) : spec_l1In.f a b c = some (decide (b ≤ a) && decide (a ≤ c)) := by
  unfold spec_l1In.f
  by_cases h : b ≤ a <;> simp [h]
end Go.Proofs.YtldnddehmpbbpaaGreatDoor.Pu
end

section
namespace Go.Proofs.YtldnddehmpbbpaaGreatDoor.Pu
open Go.RowKit Go.Proofs.YtldnddehmpbbpaaGreatDoor.P Go.Proofs.YtldnddehmpbbpaaGreatDoorW.PrintWords Go.Proofs.YtldnddehmpbbpaaGreatDoorW.PrintLast Go.Proofs.YtldnddehmpbbpaaGreatDoorW.PrintMore
def isPad (c : Int) : Bool := (decide (49 ≤ c) && decide (c ≤ 57)) || c == 42 || c == 48 || c == 35
def plN (c : Int) : Int := if 49 ≤ c then c - 49 else if c = 42 then 9 else if c = 48 then 10 else 11
def padC (p : Int) : Int := if p ≤ 8 then 49 + p else if p = 9 then 42 else if p = 10 then 48 else 35
theorem isPad_iff {c : Int} : isPad c = true ↔ (49 ≤ c ∧ c ≤ 57) ∨ c = 42 ∨ c = 48 ∨ c = 35 := by
  unfold isPad
  simp only [Bool.or_eq_true, Bool.and_eq_true, decide_eq_true_eq, beq_iff_eq]
  omega
theorem plN_range {c : Int} (h : isPad c = true) : 0 ≤ plN c ∧ plN c ≤ 11 := by
  have := isPad_iff.1 h
  unfold plN
  omega
theorem padC_plN {c : Int} (h : isPad c = true) : padC (plN c) = c := by
  have := isPad_iff.1 h
  unfold padC plN
  omega
theorem plN_padC {p : Int} (h : 0 ≤ p ∧ p ≤ 11) : plN (padC p) = p := by
  unfold padC plN
  omega
theorem padC_pad {p : Int} (h : 0 ≤ p ∧ p ≤ 11) : isPad (padC p) = true := by
  rw [isPad_iff]
  unfold padC
  omega
theorem padC_byte (p : Int) (h : 0 ≤ p) : 0 ≤ padC p ∧ padC p ≤ 255 := by
  unfold padC
  omega
theorem pad_contains (b : UInt8) : (⟨#[49, 50, 51, 52, 53, 54, 55, 56, 57, 42, 48, 35]⟩ : ByteArray).data.toList.contains b = isPad b.toNat := by
  have key : ∀ n : Fin 256, (⟨#[49, 50, 51, 52, 53, 54, 55, 56, 57, 42, 48, 35]⟩ : ByteArray).data.toList.contains (UInt8.ofNat n.val) = isPad (UInt8.ofNat n.val).toNat := by decide +kernel
  have := key ⟨b.toNat, b.toNat_lt⟩
  simpa using this
theorem pad_bt {p : Int} (h : 0 ≤ p ∧ p ≤ 11) : bt (⟨#[49, 50, 51, 52, 53, 54, 55, 56, 57, 42, 48, 35]⟩ : ByteArray) p = padC p := by
  have key : ∀ n : Fin 12, bt (⟨#[49, 50, 51, 52, 53, 54, 55, 56, 57, 42, 48, 35]⟩ : ByteArray) (n.val : Int) = padC (n.val : Int) := by decide +kernel
  have := key ⟨p.toNat, by omega⟩
  rwa [show ((p.toNat : Nat) : Int) = p by omega] at this
theorem pad_cut {p : Int} (h : 0 ≤ p ∧ p ≤ 11) : (⟨#[49, 50, 51, 52, 53, 54, 55, 56, 57, 42, 48, 35]⟩ : ByteArray).extract p.toNat (p + 1).toNat = strOfNums [padC p] := by
  have key : ∀ n : Fin 12, ((⟨#[49, 50, 51, 52, 53, 54, 55, 56, 57, 42, 48, 35]⟩ : ByteArray).extract n.val (n.val + 1)).data.toList = (strOfNums [padC (n.val : Int)]).data.toList := by decide +kernel
  have := key ⟨p.toNat, by omega⟩
  rw [show ((p.toNat : Nat) : Int) = p by omega] at this
  rw [show (p + 1).toNat = p.toNat + 1 by omega]
  exact bytes_ext (by unfold bytesOf; rw [this])
theorem place_is (c : Int) (h : isPad c = true) : impl_place.f c = some (plN c) := by
  have key : ∀ n : Fin 12, impl_place.f (padC (n.val : Int)) = some (n.val : Int) := by decide +kernel
  have hp := plN_range h
  have := key ⟨(plN c).toNat, by omega⟩
  rwa [show (((plN c).toNat : Nat) : Int) = plN c by omega, padC_plN h] at this
theorem thPlace_ev (c : Int) (h : 0 ≤ c ∧ c ≤ 255) : Ev (fun k => spec_thPlace.f k c) (if isPad c = true then plN c else -1) := by
  have key : ∀ n : Fin 256, spec_thPlace.f 14 (n.val : Int) = some (if isPad (n.val : Int) = true then plN (n.val : Int) else -1) := by decide +kernel
  have := key ⟨c.toNat, by omega⟩
  rw [show ((c.toNat : Nat) : Int) = c by omega] at this
  exact Ev.of (spec_thPlace.mono c) this
theorem thPlace_pad (c : Int) (h : isPad c = true) : Ev (fun k => spec_thPlace.f k c) (plN c) := by
  have h2 := isPad_iff.1 h
  have := thPlace_ev c ⟨by omega, by omega⟩
  rwa [if_pos h] at this
def dialB (s : ByteArray) : Bool := decide (s.size ≤ 30) && (bytesOf s).all isPad
theorem dialB_iff {s : ByteArray} : dialB s = true ↔ s.size ≤ 30 ∧ ∀ c ∈ bytesOf s, isPad c = true := by
  unfold dialB
  simp [List.all_eq_true]
def oneB (s : ByteArray) : Bool := decide (s.size = 1) && dialB s
theorem oneB_iff {s : ByteArray} : oneB s = true ↔ s.size = 1 ∧ isPad (bt s 0) = true := by
  unfold oneB
  rw [Bool.and_eq_true, decide_eq_true_eq, dialB_iff]
  constructor
  · rintro ⟨h1, _, h2⟩
    exact ⟨h1, h2 _ (bt_mem s 0 (by omega))⟩
  · rintro ⟨h1, h2⟩
    refine ⟨h1, by omega, fun c hc => ?_⟩
    have := drop_bytes s 0 (by omega)
    rw [List.drop_zero, show (0 : Nat) + 1 = s.size by omega, drop_end] at this
    rw [this, List.mem_singleton] at hc
    rw [hc]
    exact h2
theorem isDialed_is (s : ByteArray) (hs : s.size ≤ 140737488351232) : impl_IsDialed.f s = some (dialB s) := by
  unfold impl_IsDialed.f dialB
  by_cases h : s.size ≤ 30
  · rw [if_pos (by omega)]
    unfold impl_over.f strings_Trim.f
    rw [if_pos (by omega), if_pos (by decide), if_pos (by decide), bsome, bsome, decide_eq_true h, Bool.true_and, ← bytes_all pad_contains]
    congr 1
    rw [Bool.eq_iff_iff, beq_iff_eq, Lib.toList_data, ← trimS_nil]
  · rw [if_neg (by omega), decide_eq_false h]
    rfl
theorem isKey_is (s : ByteArray) (hs : s.size ≤ 140737488351232) : impl_isKey.f s = some (oneB s) := by
  unfold impl_isKey.f oneB
  by_cases h : s.size = 1
  · rw [if_pos (by omega), isDialed_is s hs, bsome, decide_eq_true h]
    rfl
  · rw [if_neg (by omega), decide_eq_false h]
    rfl
theorem thGood_l0 (s : ByteArray) (hs : s.size ≤ 1000000) : ∀ (d i : Nat), i + d = s.size → Ev (fun k => spec_thGood.l0 k s i) (((bytesOf s).drop i).all isPad)
  | 0, i, h => by
    obtain rfl : i = s.size := by omega
    rw [drop_end]
    refine ev_from 0 fun k _ => ?_
    simp only [spec_thGood.l0]
    rw [if_neg (by omega)]
    rfl
  | d + 1, i, h => by
    obtain ⟨K, ih⟩ := thGood_l0 s hs d (i + 1) (by omega)
    obtain ⟨K0, h0⟩ := thPlace_ev (bt s i) (bytes_range s _ (bt_mem s i (by omega)))
    rw [drop_bytes s i (by omega), List.all_cons]
    refine ev_from (K0 + K) fun k hk => ?_
    have e := ih k (by omega)
    have e0 := h0 k (by omega)
    rw [show ((i + 1 : Nat) : Int) = (i : Int) + 1 from rfl] at e
    dsimp only at e e0
    simp only [spec_thGood.l0]
    rw [if_pos (by omega), if_pos (by omega), e0, bsome, wr (by omega) (by omega), e]
    cases hp : isPad (bt s i) with
    | false =>
      rw [show (if false = true then plN (bt s i) else (-1 : Int)) = -1 from rfl, if_pos (by omega)]; rfl
    | true =>
      have := plN_range hp
      rw [show (if true = true then plN (bt s i) else (-1 : Int)) = plN (bt s i) from rfl, if_neg (by omega)]; rfl
theorem thGood_ev (s : ByteArray) : Ev (fun k => spec_thGood.f k s) (dialB s) := by
  unfold dialB
  by_cases h : s.size ≤ 30
  · obtain ⟨K, e⟩ := thGood_l0 s (by omega) s.size 0 (by omega)
    refine ⟨K, fun k hk => ?_⟩
    have e := e k hk
    dsimp only at e ⊢
    unfold spec_thGood.f
    rw [if_neg (by omega), decide_eq_true h, Bool.true_and]
    exact e
  · refine ⟨0, fun k _ => ?_⟩
    dsimp only
    unfold spec_thGood.f
    rw [if_pos (by omega), decide_eq_false h]
    rfl
theorem thOne_ev (s : ByteArray) : Ev (fun k => spec_thOne.f k s) (oneB s) := by
  obtain ⟨K, e⟩ := thGood_ev s
  refine ⟨K, fun k hk => ?_⟩
  have e := e k hk
  dsimp only at e ⊢
  unfold spec_thOne.f oneB
  by_cases h : s.size = 1
  · rw [if_pos (by omega), e, bsome, decide_eq_true h]
    rfl
  · rw [if_neg (by omega), decide_eq_false h]
    rfl
def placesN (s : ByteArray) : List Int := (bytesOf s).map plN
theorem placesN_length (s : ByteArray) : (placesN s).length = s.size := by rw [placesN, List.length_map, bytesOf_length]
theorem placesN_range {s : ByteArray} (h : dialB s = true) : ∀ p ∈ placesN s, 0 ≤ p ∧ p ≤ 11 := by
  intro p hp
  obtain ⟨c, hc, rfl⟩ := List.mem_map.1 hp
  exact plN_range ((dialB_iff.1 h).2 c hc)
def distN (a b : Int) (corners : Bool) : Int :=
  let x := if a % 3 < b % 3 then b % 3 - a % 3 else a % 3 - b % 3
  let y := if a / 3 < b / 3 then b / 3 - a / 3 else a / 3 - b / 3
  if corners then (if x < y then y else x) else x + y
theorem distN_range {a b : Int} (ha : 0 ≤ a ∧ a ≤ 11) (hb : 0 ≤ b ∧ b ≤ 11) (c : Bool) : 0 ≤ distN a b c ∧ distN a b c ≤ 5 := by
  have key : ∀ m n : Fin 12, ∀ c : Bool, 0 ≤ distN (m.val : Int) (n.val : Int) c ∧ distN (m.val : Int) (n.val : Int) c ≤ 5 := by decide +kernel
  have := key ⟨a.toNat, by omega⟩ ⟨b.toNat, by omega⟩ c
  rwa [show ((a.toNat : Nat) : Int) = a by omega, show ((b.toNat : Nat) : Int) = b by omega] at this
theorem distance_is {a b : Int} (ha : 0 ≤ a ∧ a ≤ 11) (hb : 0 ≤ b ∧ b ≤ 11) (c : Bool) : impl_distance.f a b c = some (distN a b c) := by
  have key : ∀ m n : Fin 12, ∀ c : Bool, impl_distance.f (m.val : Int) (n.val : Int) c = some (distN (m.val : Int) (n.val : Int) c) := by decide +kernel
  have := key ⟨a.toNat, by omega⟩ ⟨b.toNat, by omega⟩ c
  rwa [show ((a.toNat : Nat) : Int) = a by omega, show ((b.toNat : Nat) : Int) = b by omega] at this
theorem thFar_ev {a b : Int} (ha : isPad a = true) (hb : isPad b = true) (c : Bool) : Ev (fun k => spec_thFar.f k a b c) (distN (plN a) (plN b) c) := by
  have key : ∀ m n : Fin 12, ∀ c : Bool, spec_thFar.f 14 (padC (m.val : Int)) (padC (n.val : Int)) c = some (distN (m.val : Int) (n.val : Int) c) := by decide +kernel
  have pa := plN_range ha
  have pb := plN_range hb
  have := key ⟨(plN a).toNat, by omega⟩ ⟨(plN b).toNat, by omega⟩ c
  rw [show (((plN a).toNat : Nat) : Int) = plN a by omega, show (((plN b).toNat : Nat) : Int) = plN b by omega, padC_plN ha, padC_plN hb] at this
  exact Ev.of (spec_thFar.mono a b c) this
theorem places_l0 (s : ByteArray) (h : dialB s = true) : ∀ (d i : Nat) (A : List Int), i + d = s.size → A.length ≤ i → Ev (fun k => impl_places.l0 k s A s.size i) (A ++ ((bytesOf s).drop i).map plN)
  | 0, i, A, hi, hA => by
    obtain rfl : i = s.size := by omega
    rw [drop_end]
    refine ev_from 0 fun k _ => ?_
    simp only [impl_places.l0]
    rw [if_neg (by omega)]
    simp
  | d + 1, i, A, hi, hA => by
    have hs := (dialB_iff.1 h).1
    have hp := (dialB_iff.1 h).2 _ (bt_mem s i (by omega))
    obtain ⟨K, ih⟩ := places_l0 s h d (i + 1) (A ++ [plN (bt s i)]) (by omega) (by simp; omega)
    rw [drop_bytes s i (by omega)]
    refine ev_from K fun k hk => ?_
    have e := ih k (by omega)
    rw [show ((i + 1 : Nat) : Int) = (i : Int) + 1 from rfl] at e
    dsimp only at e
    simp only [impl_places.l0]
    rw [if_pos (by omega), if_pos (by omega), if_pos (by omega), place_is _ hp, bsome, if_pos (by omega), wr (by omega) (by omega), e]
    simp
theorem places_ev (s : ByteArray) (h : dialB s = true) : Ev (fun k => impl_places.f k s) (placesN s) := by
  obtain ⟨K, e⟩ := places_l0 s h s.size 0 [] (by omega) (by simp)
  exact ⟨K, fun k hk => by have e := e k hk; dsimp only at e; unfold impl_places.f placesN; simpa using e⟩
end Go.Proofs.YtldnddehmpbbpaaGreatDoor.Pu
end

section
namespace Go.Proofs.YtldnddehmpbbpaaGreatDoor.Pu
open Go.RowKit Go.Proofs.YtldnddehmpbbpaaGreatDoor.P Go.Proofs.YtldnddehmpbbpaaGreatDoorW.PrintWords Go.Proofs.YtldnddehmpbbpaaGreatDoorW.PrintLast Go.Proofs.YtldnddehmpbbpaaGreatDoorW.PrintMore
theorem drop_rd (L : List Int) (i : Nat) (h : i < L.length) : L.drop i = rd L i :: L.drop (i + 1) := by
  rw [List.drop_eq_getElem_cons h, rd, Int.toNat_natCast, List.getD_eq_getElem?_getD, List.getElem?_eq_getElem h]
  rfl
theorem rd_mem (L : List Int) (i : Nat) (h : i < L.length) : rd L i ∈ L := by
  have : rd L i ∈ L.drop i := by rw [drop_rd L i h]; exact List.mem_cons_self
  exact List.mem_of_mem_drop this
theorem drop_places (s : ByteArray) (i : Nat) (h : i < s.size) : (placesN s).drop i = plN (bt s i) :: (placesN s).drop (i + 1) := by
  unfold placesN
  rw [← List.map_drop, drop_bytes s i h, List.map_cons, List.map_drop]
theorem keyDistI_ev (s t : ByteArray) (c : Bool) (h1 : s.size ≤ 140737488351232) (h2 : t.size ≤ 140737488351232) : Ev (fun k => impl_KeyDistance.f k s t c) (if (oneB s && oneB t) = true then (distN (plN (bt s 0)) (plN (bt t 0)) c, true) else (0, false)) := by
  refine ev_from 0 fun k _ => ?_
  unfold impl_KeyDistance.f
  rw [isKey_is s h1, bsome]
  cases hs : oneB s with
  | false => rfl
  | true =>
    rw [if_pos rfl, isKey_is t h2, bsome]
    cases ht : oneB t with
    | false => rfl
    | true =>
      obtain ⟨s1, ps⟩ := oneB_iff.1 hs
      obtain ⟨t1, pt⟩ := oneB_iff.1 ht
      simp only [impl_KeyDistance.j0]
      rw [show (!true) = false from rfl, if_neg (by simp), if_pos (by omega), place_is _ ps, bsome, if_pos (by omega), place_is _ pt, bsome, distance_is (plN_range ps) (plN_range pt), bsome]
      rfl
def walkN : List Int → Int → Bool → Int
  | [], _, _ => 0
  | q :: L, p, c => distN p q c + walkN L q c
theorem walkS_l0 (s : ByteArray) (h : dialB s = true) (c : Bool) : ∀ (d i : Nat) (p a : Int), i + d = s.size → isPad p = true → 0 ≤ a → a ≤ 5 * i → Ev (fun k => spec_thWalk.l0 k s p c a i) (a + walkN ((placesN s).drop i) (plN p) c)
  | 0, i, p, a, hi, hp, h0, h1 => by
    obtain rfl : i = s.size := by omega
    rw [← placesN_length s, List.drop_length]
    refine ev_from 0 fun k _ => ?_
    simp only [spec_thWalk.l0]
    rw [placesN_length, if_neg (by omega)]
    simp [walkN]
  | d + 1, i, p, a, hi, hp, h0, h1 => by
    have hs := (dialB_iff.1 h).1
    have hq := (dialB_iff.1 h).2 _ (bt_mem s i (by omega))
    have hd := distN_range (plN_range hp) (plN_range hq) c
    obtain ⟨K0, e0⟩ := thFar_ev hp hq c
    obtain ⟨K, ih⟩ := walkS_l0 s h c d (i + 1) (bt s i) (a + distN (plN p) (plN (bt s i)) c) (by omega) hq (by omega) (by omega)
    rw [drop_places s i (by omega)]
    refine ev_from (K0 + K) fun k hk => ?_
    have e := ih k (by omega)
    have e0 := e0 k (by omega)
    rw [show ((i + 1 : Nat) : Int) = (i : Int) + 1 from rfl] at e
    dsimp only at e e0
    simp only [spec_thWalk.l0]
    rw [if_pos (by omega), if_pos (by omega), e0, bsome, wr (by omega) (by omega), wr (by omega) (by omega), e, walkN, Int.add_assoc]
theorem walkI_l0 (L : List Int) (hl : L.length ≤ 1000) (hL : ∀ p ∈ L, 0 ≤ p ∧ p ≤ 11) (c : Bool) : ∀ (d i : Nat) (p a : Int), i + d = L.length → (0 ≤ p ∧ p ≤ 11) → 0 ≤ a → a ≤ 5 * i → Ev (fun k => impl_oneThumb.l0 k p c a L L.length i) (a + walkN (L.drop i) p c)
  | 0, i, p, a, hi, hp, h0, h1 => by
    obtain rfl : i = L.length := by omega
    rw [List.drop_length]
    refine ev_from 0 fun k _ => ?_
    simp only [impl_oneThumb.l0]
    rw [if_neg (by omega)]
    simp [walkN]
  | d + 1, i, p, a, hi, hp, h0, h1 => by
    have hq := hL _ (rd_mem L i (by omega))
    have hd := distN_range hp hq c
    obtain ⟨K, ih⟩ := walkI_l0 L hl hL c d (i + 1) (rd L i) (a + distN p (rd L i) c) (by omega) hq (by omega) (by omega)
    rw [drop_rd L i (by omega)]
    refine ev_from K fun k hk => ?_
    have e := ih k (by omega)
    rw [show ((i + 1 : Nat) : Int) = (i : Int) + 1 from rfl] at e
    dsimp only at e
    simp only [impl_oneThumb.l0]
    rw [if_pos (by omega), if_pos (by omega), if_pos (by omega), distance_is hp hq, bsome, wr (by omega) (by omega), wr (by omega) (by omega), e, walkN, Int.add_assoc]
theorem walkS_ev (s : ByteArray) (h : dialB s = true) (c : Bool) (p : Int) (hp : isPad p = true) : Ev (fun k => spec_thWalk.f k s p c) (walkN (placesN s) (plN p) c) := by
  obtain ⟨K, e⟩ := walkS_l0 s h c s.size 0 p 0 (by omega) hp (by omega) (by omega)
  exact ⟨K, fun k hk => by have e := e k hk; dsimp only at e; unfold spec_thWalk.f; simpa using e⟩
theorem walkI_ev (L : List Int) (hl : L.length ≤ 1000) (hL : ∀ p ∈ L, 0 ≤ p ∧ p ≤ 11) (c : Bool) (p : Int) (hp : 0 ≤ p ∧ p ≤ 11) : Ev (fun k => impl_oneThumb.f k L p c) (walkN L p c) := by
  obtain ⟨K, e⟩ := walkI_l0 L hl hL c L.length 0 p 0 (by omega) hp (by omega) (by omega)
  exact ⟨K, fun k hk => by have e := e k hk; dsimp only at e; unfold impl_oneThumb.f; simpa using e⟩
def oneT (s t : ByteArray) (c : Bool) : Int × Bool := if (dialB s && oneB t) = true then (walkN (placesN s) (plN (bt t 0)) c, true) else (0, false)
theorem oneThumbS_ev (s t : ByteArray) (c : Bool) : Ev (fun k => spec_OneThumb.f k s t c) (oneT s t c) := by
  obtain ⟨K1, h1⟩ := thGood_ev s
  obtain ⟨K2, h2⟩ := thOne_ev t
  unfold oneT
  cases hs : dialB s with
  | false =>
    refine ⟨K1, fun k hk => ?_⟩
    have e1 := h1 k hk
    rw [hs] at e1
    dsimp only at e1 ⊢
    unfold spec_OneThumb.f
    rw [e1, bsome]
    rfl
  | true =>
    cases ht : oneB t with
    | false =>
      refine ⟨K1 + K2, fun k hk => ?_⟩
      have e1 := h1 k (by omega)
      have e2 := h2 k (by omega)
      rw [hs] at e1
      rw [ht] at e2
      dsimp only at e1 e2 ⊢
      unfold spec_OneThumb.f
      rw [e1, bsome, if_pos rfl, e2, bsome]
      rfl
    | true =>
      obtain ⟨t1, pt⟩ := oneB_iff.1 ht
      obtain ⟨K3, h3⟩ := walkS_ev s hs c _ pt
      refine ⟨K1 + K2 + K3, fun k hk => ?_⟩
      have e1 := h1 k (by omega)
      have e2 := h2 k (by omega)
      have e3 := h3 k (by omega)
      rw [hs] at e1
      rw [ht] at e2
      dsimp only at e1 e2 e3 ⊢
      unfold spec_OneThumb.f
      rw [e1, bsome, if_pos rfl, e2, bsome, if_pos rfl, if_pos (by omega), e3, bsome]
      rfl
theorem oneThumbI_ev (s t : ByteArray) (c : Bool) (h1 : s.size ≤ 140737488351232) (h2 : t.size ≤ 140737488351232) : Ev (fun k => impl_OneThumb.f k s t c) (oneT s t c) := by
  unfold oneT
  cases hs : dialB s with
  | false =>
    refine ev_from 0 fun k _ => ?_
    unfold impl_OneThumb.f
    rw [isDialed_is s h1, bsome, hs]
    rfl
  | true =>
    cases ht : oneB t with
    | false =>
      refine ev_from 0 fun k _ => ?_
      unfold impl_OneThumb.f
      rw [isDialed_is s h1, bsome, hs, if_pos rfl, isKey_is t h2, bsome, ht]
      rfl
    | true =>
      obtain ⟨t1, pt⟩ := oneB_iff.1 ht
      have hl := (dialB_iff.1 hs).1
      obtain ⟨K1, e1⟩ := places_ev s hs
      obtain ⟨K2, e2⟩ := walkI_ev (placesN s) (by rw [placesN_length]; omega) (placesN_range hs) c _ (plN_range pt)
      refine ev_from (K1 + K2) fun k hk => ?_
      have e1 := e1 k (by omega)
      have e2 := e2 k (by omega)
      dsimp only at e1 e2
      unfold impl_OneThumb.f
      rw [isDialed_is s h1, bsome, hs, if_pos rfl, isKey_is t h2, bsome, ht]
      simp only [impl_OneThumb.j0]
      rw [show (!true) = false from rfl, if_neg (by simp), e1, bsome, if_pos (by omega), place_is _ pt, bsome, e2, bsome]
      rfl
def mirP (p : Int) : Int := p / 3 * 3 + 2 - p % 3
def turnP (p : Int) : Int := 11 - p
theorem mirP_range {p : Int} (h : 0 ≤ p ∧ p ≤ 11) : 0 ≤ mirP p ∧ mirP p ≤ 11 := by unfold mirP; omega
theorem mir_impl {p : Int} (h : 0 ≤ p ∧ p ≤ 11) : impl_MirrorKeys_1.f p = some (mirP p) := by
  have key : ∀ n : Fin 12, impl_MirrorKeys_1.f (n.val : Int) = some (mirP (n.val : Int)) := by decide +kernel
  have := key ⟨p.toNat, by omega⟩
  rwa [show ((p.toNat : Nat) : Int) = p by omega] at this
theorem signs_l0 (L : List Int) (hl : L.length ≤ 1000) (hL : ∀ p ∈ L, 0 ≤ p ∧ p ≤ 11) : ∀ (d i : Nat) (A : List Int), i + d = L.length → A.length ≤ i → Ev (fun k => impl_signs.l0 k A L L.length i) (strOfNums (A ++ (L.drop i).map padC))
  | 0, i, A, hi, hA => by
    obtain rfl : i = L.length := by omega
    rw [List.drop_length]
    refine ev_from 0 fun k _ => ?_
    simp only [impl_signs.l0]
    rw [if_neg (by omega)]
    simp
  | d + 1, i, A, hi, hA => by
    have hp := hL _ (rd_mem L i (by omega))
    obtain ⟨K, ih⟩ := signs_l0 L hl hL d (i + 1) (A ++ [padC (rd L i)]) (by omega) (by simp; omega)
    rw [drop_rd L i (by omega), List.map_cons]
    refine ev_from K fun k hk => ?_
    have e := ih k (by omega)
    rw [show ((i + 1 : Nat) : Int) = (i : Int) + 1 from rfl] at e
    dsimp only at e
    simp only [impl_signs.l0]
    rw [if_pos (by omega), if_pos (by omega), if_pos (by omega), if_pos (by omega), if_pos (by omega), if_pos (by omega), pad_bt hp, wr (by omega) (by omega), e]
    simp
theorem signs_ev (L : List Int) (hl : L.length ≤ 1000) (hL : ∀ p ∈ L, 0 ≤ p ∧ p ≤ 11) : Ev (fun k => impl_signs.f k L) (strOfNums (L.map padC)) := by
  obtain ⟨K, e⟩ := signs_l0 L hl hL L.length 0 [] (by omega) (by simp)
  exact ⟨K, fun k hk => by have e := e k hk; dsimp only at e; unfold impl_signs.f; simpa using e⟩
theorem mirror_l0 (L : List Int) (hl : L.length ≤ 1000) (hL : ∀ p ∈ L, 0 ≤ p ∧ p ≤ 11) : ∀ (d i : Nat) (A : List Int), i + d = L.length → A.length ≤ i → (∀ p ∈ A, 0 ≤ p ∧ p ≤ 11) → Ev (fun k => impl_changed_at_MirrorKeys_1.l0 k A L L.length i) (strOfNums ((A ++ (L.drop i).map mirP).map padC), true)
  | 0, i, A, hi, hA, hR => by
    obtain rfl : i = L.length := by omega
    rw [List.drop_length]
    obtain ⟨K, e⟩ := signs_ev A (by omega) hR
    refine ev_from K fun k hk => ?_
    have e := e k hk
    dsimp only at e
    simp only [impl_changed_at_MirrorKeys_1.l0]
    rw [if_neg (by omega), e, bsome]
    simp
  | d + 1, i, A, hi, hA, hR => by
    have hp := hL _ (rd_mem L i (by omega))
    obtain ⟨K, ih⟩ := mirror_l0 L hl hL d (i + 1) (A ++ [mirP (rd L i)]) (by omega) (by simp; omega) (by
      intro p hp'
      rcases List.mem_append.1 hp' with h | h
      · exact hR p h
      · rw [List.mem_singleton] at h
        rw [h]
        exact mirP_range hp)
    rw [drop_rd L i (by omega), List.map_cons]
    refine ev_from K fun k hk => ?_
    have e := ih k (by omega)
    rw [show ((i + 1 : Nat) : Int) = (i : Int) + 1 from rfl] at e
    dsimp only at e
    simp only [impl_changed_at_MirrorKeys_1.l0]
    rw [if_pos (by omega), if_pos (by omega), if_pos (by omega), mir_impl hp, bsome, if_pos (by omega), wr (by omega) (by omega), e]
    simp
def overT (s : ByteArray) (b : Bool) : ByteArray × Bool := if dialB s = true then (strOfNums ((placesN s).map fun p => padC (if b = true then turnP p else mirP p)), true) else (⟨#[]⟩, false)
theorem mirrorI_ev (s : ByteArray) (h1 : s.size ≤ 140737488351232) : Ev (fun k => impl_MirrorKeys.f k s) (overT s false) := by
  unfold overT
  cases hs : dialB s with
  | false =>
    refine ⟨0, fun k hk => ?_⟩
    dsimp only
    unfold impl_MirrorKeys.f impl_changed_at_MirrorKeys_1.f
    rw [isDialed_is s h1, bsome, hs]
    rfl
  | true =>
    have hl := (dialB_iff.1 hs).1
    obtain ⟨K1, e1⟩ := places_ev s hs
    obtain ⟨K2, e2⟩ := mirror_l0 (placesN s) (by rw [placesN_length]; omega) (placesN_range hs) s.size 0 [] (by rw [placesN_length]; omega) (by simp) (by simp)
    refine ⟨K1 + K2, fun k hk => ?_⟩
    have e1 := e1 k (by omega)
    have e2 := e2 k (by omega)
    dsimp only at e1 e2 ⊢
    unfold impl_MirrorKeys.f impl_changed_at_MirrorKeys_1.f
    rw [isDialed_is s h1, bsome, hs, if_pos rfl, e1, bsome]
    rw [show ((0 : Nat) : Int) = 0 from rfl] at e2
    rw [e2, bsome]
    simp [List.map_map, Function.comp_def]
end Go.Proofs.YtldnddehmpbbpaaGreatDoor.Pu
end

section
namespace Go.Proofs.YtldnddehmpbbpaaGreatDoor.Pu
open Go.RowKit Go.Proofs.YtldnddehmpbbpaaGreatDoor.P Go.Proofs.YtldnddehmpbbpaaGreatDoorW.PrintWords Go.Proofs.YtldnddehmpbbpaaGreatDoorW.PrintLast Go.Proofs.YtldnddehmpbbpaaGreatDoorW.PrintMore
end Go.Proofs.YtldnddehmpbbpaaGreatDoor.Pu
end

section
namespace Go.Proofs.YtldnddehmpbbpaaGreatDoor.Pu
open Go.RowKit Go.Proofs.YtldnddehmpbbpaaGreatDoor.P Go.Proofs.YtldnddehmpbbpaaGreatDoorW.PrintWords Go.Proofs.YtldnddehmpbbpaaGreatDoorW.PrintLast Go.Proofs.YtldnddehmpbbpaaGreatDoorW.PrintMore
def bothB (s l r : ByteArray) : Bool := dialB s && (oneB l && oneB r)
theorem thBoth_ev (s l r : ByteArray) : Ev (fun k => spec_thBoth.f k s l r) (bothB s l r) := by
  obtain ⟨K1, h1⟩ := thGood_ev s
  obtain ⟨K2, h2⟩ := thOne_ev l
  obtain ⟨K3, h3⟩ := thOne_ev r
  refine ⟨K1 + K2 + K3, fun k hk => ?_⟩
  have e1 := h1 k (by omega)
  have e2 := h2 k (by omega)
  have e3 := h3 k (by omega)
  dsimp only at e1 e2 e3 ⊢
  unfold spec_thBoth.f bothB
  rw [e1, bsome]
  cases dialB s with
  | false => rfl
  | true =>
    rw [if_pos rfl, e2, bsome]
    cases oneB l with
    | false => rfl
    | true => rw [if_pos rfl, e3, bsome]; rfl
theorem thumbsOk_ev (s l r : ByteArray) (hs : s.size ≤ 140737488351232) (hl : l.size ≤ 140737488351232) (hr : r.size ≤ 140737488351232) : Ev (fun k => impl_thumbsOk.f k s l r) (if bothB s l r = true then (plN (bt l 0), plN (bt r 0), true) else (0, 0, false)) := by
  refine ev_from 0 fun k _ => ?_
  unfold impl_thumbsOk.f bothB
  rw [isDialed_is s hs, bsome]
  cases dialB s with
  | false => rfl
  | true =>
    rw [if_pos rfl, isKey_is l hl, bsome]
    cases h1 : oneB l with
    | false => rfl
    | true =>
      rw [if_pos rfl, isKey_is r hr, bsome]
      cases h2 : oneB r with
      | false => rfl
      | true =>
        obtain ⟨l1, pl⟩ := oneB_iff.1 h1
        obtain ⟨r1, pr⟩ := oneB_iff.1 h2
        simp only [impl_thumbsOk.j0]
        rw [show (!true) = false from rfl, if_neg (by simp), if_pos (by omega), place_is _ pl, bsome, if_pos (by omega), place_is _ pr, bsome]
        rfl
end Go.Proofs.YtldnddehmpbbpaaGreatDoor.Pu
end

section
namespace Go.Proofs.YtldnddehmpbbpaaGreatDoor.Pu
open Go.RowKit Go.Proofs.YtldnddehmpbbpaaGreatDoor.P Go.Proofs.YtldnddehmpbbpaaGreatDoorW.PrintWords Go.Proofs.YtldnddehmpbbpaaGreatDoorW.PrintLast Go.Proofs.YtldnddehmpbbpaaGreatDoorW.PrintMore
def planN (c : Bool) : List Int → List Int → Int → Int → Int
  | t :: T, q :: L, a, b => if t = 0 then distN a q c + planN c T L q b else distN b q c + planN c T L a q
  | _, _, _, _ => 0
def allB (L : List Int) : Bool := L.all fun x => decide (0 ≤ x) && decide (x ≤ 1)
theorem allB_iff {L : List Int} : allB L = true ↔ ∀ x ∈ L, 0 ≤ x ∧ x ≤ 1 := by unfold allB; simp [List.all_eq_true]
theorem l1All_l0 (L : List Int) (hl : L.length ≤ 1099511627776) : ∀ (d i : Nat), i + d = L.length → Ev (fun k => spec_l1All.l0 k 0 1 L L.length i) (allB (L.drop i))
  | 0, i, h => by
    obtain rfl : i = L.length := by omega
    rw [List.drop_length]
    refine ev_from 0 fun k _ => ?_
    simp only [spec_l1All.l0]
    rw [if_neg (by omega)]
    rfl
  | d + 1, i, h => by
    obtain ⟨K, ih⟩ := l1All_l0 L hl d (i + 1) (by omega)
    rw [drop_rd L i (by omega)]
    refine ev_from K fun k hk => ?_
    have e := ih k hk
    rw [show ((i + 1 : Nat) : Int) = (i : Int) + 1 from rfl] at e
    dsimp only at e
    simp only [spec_l1All.l0]
    unfold allB at e ⊢
    rw [if_pos (by omega), if_pos (by omega), if_pos (by omega), l1In_is, bsome, wr (by omega) (by omega), e, List.all_cons]
    cases (decide (0 ≤ rd L i) && decide (rd L i ≤ 1)) with
    | false => rfl
    | true => rw [if_pos rfl, Bool.true_and]
theorem l1All_ev (L : List Int) (hl : L.length ≤ 1099511627776) : Ev (fun k => spec_l1All.f k L 0 1) (allB L) := by
  obtain ⟨K, e⟩ := l1All_l0 L hl L.length 0 (by omega)
  exact ⟨K, fun k hk => by have e := e k hk; dsimp only at e; unfold spec_l1All.f; simpa using e⟩
theorem contains_is (L : List Int) : slices_ContainsFunc_int_int_at_ThumbPlan_1.f L = some (!allB L) := by
  unfold slices_ContainsFunc_int_int_at_ThumbPlan_1.f allB
  rw [List.not_all_eq_any_not]
theorem planS_l0 (s : ByteArray) (h : dialB s = true) (T : List Int) (hT : ∀ x ∈ T, 0 ≤ x ∧ x ≤ 1) (hl : T.length = s.size) (c : Bool) : ∀ (d i : Nat) (a b n : Int), i + d = s.size → isPad a = true → isPad b = true → 0 ≤ n → n ≤ 5 * i → Ev (fun k => spec_ThumbPlan.l0 k s c [a, b] n T T.length i) (n + planN c (T.drop i) ((placesN s).drop i) (plN a) (plN b), true)
  | 0, i, a, b, n, hi, ha, hb, h0, h1 => by
    obtain rfl : i = T.length := by omega
    rw [List.drop_length]
    refine ev_from 0 fun k _ => ?_
    simp only [spec_ThumbPlan.l0]
    rw [if_neg (by omega)]
    simp [planN]
  | d + 1, i, a, b, n, hi, ha, hb, h0, h1 => by
    have hs := (dialB_iff.1 h).1
    have hq := (dialB_iff.1 h).2 _ (bt_mem s i (by omega))
    have ht := hT _ (rd_mem T i (by omega))
    rw [drop_rd T i (by omega), drop_places s i (by omega), planN]
    by_cases h2 : rd T i = 0
    · have hd := distN_range (plN_range ha) (plN_range hq) c
      obtain ⟨K0, e0⟩ := thFar_ev ha hq c
      obtain ⟨K, ih⟩ := planS_l0 s h T hT hl c d (i + 1) (bt s i) b (n + distN (plN a) (plN (bt s i)) c) (by omega) hq hb (by omega) (by omega)
      rw [if_pos h2]
      refine ev_from (K0 + K) fun k hk => ?_
      have e := ih k (by omega)
      have e0 := e0 k (by omega)
      rw [show ((i + 1 : Nat) : Int) = (i : Int) + 1 from rfl] at e
      dsimp only at e e0
      simp only [spec_ThumbPlan.l0]
      rw [h2, if_pos (by omega), if_pos (by omega), if_pos (by omega), if_pos (by omega), if_pos (by simp), if_pos (by omega), show rd [a, b] 0 = a from rfl, e0, bsome, wr (x := (i : Int) + 1) (by omega) (by omega), wr (by omega) (by omega), show [a, b].set (0 : Int).toNat (bt s i) = [bt s i, b] from rfl, e, Int.add_assoc]
    · have h3 : rd T i = 1 := by omega
      have hd := distN_range (plN_range hb) (plN_range hq) c
      obtain ⟨K0, e0⟩ := thFar_ev hb hq c
      obtain ⟨K, ih⟩ := planS_l0 s h T hT hl c d (i + 1) a (bt s i) (n + distN (plN b) (plN (bt s i)) c) (by omega) ha hq (by omega) (by omega)
      rw [if_neg h2]
      refine ev_from (K0 + K) fun k hk => ?_
      have e := ih k (by omega)
      have e0 := e0 k (by omega)
      rw [show ((i + 1 : Nat) : Int) = (i : Int) + 1 from rfl] at e
      dsimp only at e e0
      simp only [spec_ThumbPlan.l0]
      rw [h3, if_pos (by omega), if_pos (by omega), if_pos (by omega), if_pos (by omega), if_pos (by simp), if_pos (by omega), show rd [a, b] 1 = b from rfl, e0, bsome, wr (x := (i : Int) + 1) (by omega) (by omega), wr (by omega) (by omega), show [a, b].set (1 : Int).toNat (bt s i) = [a, bt s i] from rfl, e, Int.add_assoc]
theorem planI_l0 (L : List Int) (hn : L.length ≤ 1000) (hL : ∀ p ∈ L, 0 ≤ p ∧ p ≤ 11) (T : List Int) (hT : ∀ x ∈ T, 0 ≤ x ∧ x ≤ 1) (hl : T.length = L.length) (c : Bool) : ∀ (d i : Nat) (a b n : Int), i + d = L.length → (0 ≤ a ∧ a ≤ 11) → (0 ≤ b ∧ b ≤ 11) → 0 ≤ n → n ≤ 5 * i → Ev (fun k => impl_ThumbPlan.l0 k T c n L L.length i a b) (n + planN c (T.drop i) (L.drop i) a b, true)
  | 0, i, a, b, n, hi, ha, hb, h0, h1 => by
    obtain rfl : i = L.length := by omega
    rw [List.drop_length]
    refine ev_from 0 fun k _ => ?_
    simp only [impl_ThumbPlan.l0]
    rw [if_neg (by omega)]
    rw [← hl, List.drop_length]
    simp [planN]
  | d + 1, i, a, b, n, hi, ha, hb, h0, h1 => by
    have hq := hL _ (rd_mem L i (by omega))
    have ht := hT _ (rd_mem T i (by omega))
    rw [drop_rd T i (by omega), drop_rd L i (by omega), planN]
    by_cases h2 : rd T i = 0
    · have hd := distN_range ha hq c
      obtain ⟨K, ih⟩ := planI_l0 L hn hL T hT hl c d (i + 1) (rd L i) b (n + distN a (rd L i) c) (by omega) hq hb (by omega) (by omega)
      rw [if_pos h2]
      refine ev_from K fun k hk => ?_
      have e := ih k (by omega)
      rw [show ((i + 1 : Nat) : Int) = (i : Int) + 1 from rfl] at e
      dsimp only at e
      simp only [impl_ThumbPlan.l0]
      unfold impl_thumbs_moved.f
      rw [if_pos (by omega), if_pos (by omega), if_pos (by omega), if_pos (by omega), if_pos h2, distance_is ha hq, bsome, bsome]
      dsimp only
      rw [wr (x := (i : Int) + 1) (by omega) (by omega), wr (by omega) (by omega), e, Int.add_assoc]
    · have h3 : rd T i = 1 := by omega
      have hd := distN_range hb hq c
      obtain ⟨K, ih⟩ := planI_l0 L hn hL T hT hl c d (i + 1) a (rd L i) (n + distN b (rd L i) c) (by omega) ha hq (by omega) (by omega)
      rw [if_neg h2]
      refine ev_from K fun k hk => ?_
      have e := ih k (by omega)
      rw [show ((i + 1 : Nat) : Int) = (i : Int) + 1 from rfl] at e
      dsimp only at e
      simp only [impl_ThumbPlan.l0]
      unfold impl_thumbs_moved.f
      rw [if_pos (by omega), if_pos (by omega), if_pos (by omega), if_pos (by omega), if_neg h2, distance_is hb hq, bsome, bsome]
      dsimp only
      rw [wr (x := (i : Int) + 1) (by omega) (by omega), wr (by omega) (by omega), e, Int.add_assoc]
def planT (s l r : ByteArray) (T : List Int) (c : Bool) : Int × Bool :=
  if (bothB s l r && (decide (T.length = s.size) && allB T)) = true then (planN c T (placesN s) (plN (bt l 0)) (plN (bt r 0)), true) else (0, false)
theorem planS_ev (s l r : ByteArray) (T : List Int) (c : Bool) (hT : T.length ≤ 1099511627776) : Ev (fun k => spec_ThumbPlan.f k s l r T c) (planT s l r T c) := by
  obtain ⟨K1, h1⟩ := thBoth_ev s l r
  obtain ⟨K2, h2⟩ := l1All_ev T hT
  unfold planT
  cases hb : bothB s l r with
  | false =>
    refine ev_from K1 fun k hk => ?_
    have e1 := h1 (k + 1) (by omega)
    rw [hb] at e1
    dsimp only at e1
    unfold spec_ThumbPlan.f
    rw [e1, bsome]
    rfl
  | true =>
    by_cases hn : T.length = s.size
    · cases ha : allB T with
      | false =>
        refine ev_from (K1 + K2) fun k hk => ?_
        have e1 := h1 (k + 1) (by omega)
        have e2 := h2 (k + 1) (by omega)
        rw [hb] at e1
        rw [ha] at e2
        dsimp only at e1 e2
        unfold spec_ThumbPlan.f
        rw [e1, bsome, if_pos rfl, if_pos (by omega), e2, bsome, Bool.and_false, Bool.and_false]
        rfl
      | true =>
        unfold bothB at hb
        rw [Bool.and_eq_true, Bool.and_eq_true] at hb
        obtain ⟨hd, ho1, ho2⟩ := hb
        obtain ⟨l1, pl⟩ := oneB_iff.1 ho1
        obtain ⟨r1, pr⟩ := oneB_iff.1 ho2
        obtain ⟨K3, e3⟩ := planS_l0 s hd T (allB_iff.1 ha) hn c s.size 0 _ _ 0 (by omega) pl pr (by omega) (by omega)
        refine ev_from (K1 + K2 + K3) fun k hk => ?_
        have e1 := h1 (k + 1) (by omega)
        have e2 := h2 (k + 1) (by omega)
        have e3 := e3 k (by omega)
        unfold bothB at e1
        rw [hd, ho1, ho2] at e1
        rw [ha] at e2
        dsimp only at e1 e2 e3
        unfold spec_ThumbPlan.f
        rw [e1, bsome, if_pos (by decide), if_pos (by omega), e2, bsome, decide_eq_true hn]
        simp only [spec_ThumbPlan.j0]
        rw [show (!true) = false from rfl, if_neg (by simp), if_pos (by omega), if_pos (by omega)]
        rw [Int.zero_add, List.drop_zero, List.drop_zero] at e3
        exact e3
    · refine ev_from K1 fun k hk => ?_
      have e1 := h1 (k + 1) (by omega)
      rw [hb] at e1
      dsimp only at e1
      unfold spec_ThumbPlan.f
      rw [e1, bsome, if_pos rfl, if_neg (by omega), decide_eq_false hn]
      rfl
theorem planI_ev (s l r : ByteArray) (T : List Int) (c : Bool) (hs : s.size ≤ 140737488351232) (hl : l.size ≤ 140737488351232) (hr : r.size ≤ 140737488351232) : Ev (fun k => impl_ThumbPlan.f k s l r T c) (planT s l r T c) := by
  obtain ⟨K1, h1⟩ := thumbsOk_ev s l r hs hl hr
  unfold planT
  cases hb : bothB s l r with
  | false =>
    refine ev_from K1 fun k hk => ?_
    have e1 := h1 (k + 1) (by omega)
    rw [hb] at e1
    dsimp only at e1
    unfold impl_ThumbPlan.f
    rw [e1, bsome]
    rfl
  | true =>
    by_cases hn : T.length = s.size
    · cases ha : allB T with
      | false =>
        refine ev_from K1 fun k hk => ?_
        have e1 := h1 (k + 1) (by omega)
        rw [hb, if_pos rfl] at e1
        dsimp only at e1
        unfold impl_ThumbPlan.f
        rw [e1, bsome]
        dsimp only
        rw [if_pos rfl, if_pos (by omega), contains_is, bsome, ha, Bool.and_false, Bool.and_false]
        rfl
      | true =>
        have hb' := hb
        unfold bothB at hb
        rw [Bool.and_eq_true, Bool.and_eq_true] at hb
        obtain ⟨hd, ho1, ho2⟩ := hb
        obtain ⟨l1, pl⟩ := oneB_iff.1 ho1
        obtain ⟨r1, pr⟩ := oneB_iff.1 ho2
        have hz := (dialB_iff.1 hd).1
        obtain ⟨K2, e2⟩ := places_ev s hd
        obtain ⟨K3, e3⟩ := planI_l0 (placesN s) (by rw [placesN_length]; omega) (placesN_range hd) T (allB_iff.1 ha) (by rw [placesN_length]; exact hn) c s.size 0 _ _ 0 (by rw [placesN_length]; omega) (plN_range pl) (plN_range pr) (by omega) (by omega)
        refine ev_from (K1 + K2 + K3) fun k hk => ?_
        have e1 := h1 (k + 1) (by omega)
        have e2 := e2 k (by omega)
        have e3 := e3 k (by omega)
        rw [hb', if_pos rfl] at e1
        dsimp only at e1 e2 e3
        unfold impl_ThumbPlan.f
        rw [e1, bsome]
        dsimp only
        rw [if_pos rfl, if_pos (by omega), contains_is, bsome, ha, decide_eq_true hn]
        simp only [impl_ThumbPlan.j0]
        rw [show (!true) = false from rfl, if_neg (by simp), e2, bsome]
        rw [Int.zero_add, List.drop_zero, List.drop_zero] at e3
        exact e3
    · refine ev_from K1 fun k hk => ?_
      have e1 := h1 (k + 1) (by omega)
      rw [hb, if_pos rfl] at e1
      dsimp only at e1
      unfold impl_ThumbPlan.f
      rw [e1, bsome]
      dsimp only
      rw [if_pos rfl, if_neg (by omega), decide_eq_false hn]
      rfl
end Go.Proofs.YtldnddehmpbbpaaGreatDoor.Pu
end

