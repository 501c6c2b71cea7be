/- Parts of the proof (printed walks, lemmas of our own, contracts of the library laid for this program), merged into one text by wip/mclaim.py. Conditions: each theorem's own. -/
import Derived.Test.YthnjmokaiiajmaaDoorM0
import Derived.Test.YthnjmokaiiajmaaDoorM1
namespace Go.Proofs.YthnjmokaiiajmaaDoor.P
open Go.RowKit Go.Proofs.YthnjmokaiiajmaaDoorW.PrintWords Go.Proofs.YthnjmokaiiajmaaDoorW.PrintLast Go.Proofs.YthnjmokaiiajmaaDoorW.PrintMore
attribute [local go_sem] max2_int min2_int max_two min_two max_three min_three max_four min_four   -- for this text's walks alone
set_option linter.unusedVariables false
set_option linter.unusedSimpArgs false

/-! ### spec_BestStarts: function 11 -/
def spec_BestStarts.l0 : Nat → List (List Int) → Int → List Int → Int → Int → Option (ByteArray × ByteArray × Int × Bool)
  | 0, _, _, _, _, _ => none
  | k + 1, x8, x10, x24, x25, x26 => if x26 < x25 then (if 0 ≤ x26 then (if x26 < (x24.length : Int) then (if 0 < (x8.length : Int) then (if 0 ≤ x10 then (if x10 < ((rd_L1 x8 0).length : Int) then (if (rd x24 x26) < (rd (rd_L1 x8 0) x10) then (spec_BestStarts.l0 k x8 x26 x24 x25 (wrap64 (x26 + 1))) else (spec_BestStarts.l0 k x8 x10 x24 x25 (wrap64 (x26 + 1)))) else (none)) else (none)) else (none)) else (none)) else (none)) else (if 0 ≤ (wrap64 (Int.tdiv x10 12)) then (if (wrap64 (Int.tdiv x10 12)) ≤ (wrap64 ((wrap64 (Int.tdiv x10 12)) + 1)) then (if (wrap64 ((wrap64 (Int.tdiv x10 12)) + 1)) ≤ 12 then (if 0 ≤ (Int.tmod x10 12) then (if (Int.tmod x10 12) ≤ (wrap64 ((Int.tmod x10 12) + 1)) then (if (wrap64 ((Int.tmod x10 12) + 1)) ≤ 12 then (if 0 < (x8.length : Int) then (if 0 ≤ x10 then (if x10 < ((rd_L1 x8 0).length : Int) then (some ((⟨#[49, 50, 51, 52, 53, 54, 55, 56, 57, 42, 48, 35]⟩ : ByteArray).extract ((wrap64 (Int.tdiv x10 12)) : Int).toNat ((wrap64 ((wrap64 (Int.tdiv x10 12)) + 1)) : Int).toNat, (⟨#[49, 50, 51, 52, 53, 54, 55, 56, 57, 42, 48, 35]⟩ : ByteArray).extract ((Int.tmod x10 12) : Int).toNat ((wrap64 ((Int.tmod x10 12) + 1)) : Int).toNat, rd (rd_L1 x8 0) x10, true)) else (none)) else (none)) else (none)) else (none)) else (none)) else (none)) else (none)) else (none)) else (none))
def spec_BestStarts.f (k : Nat) (a0 : ByteArray) (a1 : Bool) : Option (ByteArray × ByteArray × Int × Bool) := (spec_thGood.f k a0).bind fun t165 => (if t165 = true then ((spec_thTable.f k a0 a1).bind fun bt166 => (if 0 < (bt166.1.length : Int) then (spec_BestStarts.l0 k bt166.1 0 (rd_L1 bt166.1 0) ((rd_L1 bt166.1 0).length : Int) 0) else (none))) else (some ((⟨#[]⟩ : ByteArray), (⟨#[]⟩ : ByteArray), 0, false)))
theorem spec_BestStarts.mono_l : ∀ k, (∀ y0 y1 y2 y3 y4, LeO (spec_BestStarts.l0 k y0 y1 y2 y3 y4) (spec_BestStarts.l0 (k + 1) y0 y1 y2 y3 y4))
  | 0 => fun _ _ _ _ _ r h => by simp [spec_BestStarts.l0] at h
  | k + 1 => by
    have ih0 := spec_BestStarts.mono_l k
    · intro y0 y1 y2 y3 y4
      unfold spec_BestStarts.l0
      repeat' first
      | (with_reducible exact ih0 _ _ _ _ _)
      | (with_reducible exact spec_thGood.mono _ _)
      | (with_reducible exact spec_thTable.mono _ _ _)
      | (with_reducible exact LeO.refl _)
      | (with_reducible exact LeO.none _)
      | (with_reducible refine LeO.ite ?_ ?_)
      | (with_reducible refine LeO.bind ?_ (fun _ => ?_))
      | exact ih0 _ _ _ _ _
      | exact spec_thGood.mono _ _
      | exact spec_thTable.mono _ _ _
      | exact LeO.none _
      | refine LeO.ite ?_ ?_
      | refine LeO.bind ?_ (fun _ => ?_)
theorem spec_BestStarts.mono : ∀ a0 a1 k, LeO (spec_BestStarts.f k a0 a1) (spec_BestStarts.f (k + 1) a0 a1) := by
  intro a0 a1 k
  have ih0 := spec_BestStarts.mono_l k
  unfold spec_BestStarts.f
  repeat' first
      | (with_reducible exact ih0 _ _ _ _ _)
      | (with_reducible exact spec_thGood.mono _ _)
      | (with_reducible exact spec_thTable.mono _ _ _)
      | (with_reducible exact LeO.refl _)
      | (with_reducible exact LeO.none _)
      | (with_reducible refine LeO.ite ?_ ?_)
      | (with_reducible refine LeO.bind ?_ (fun _ => ?_))
      | exact ih0 _ _ _ _ _
      | exact spec_thGood.mono _ _
      | exact spec_thTable.mono _ _ _
      | exact LeO.none _
      | refine LeO.ite ?_ ?_
      | refine LeO.bind ?_ (fun _ => ?_)
set_option maxHeartbeats 8000000 in
set_option maxRecDepth 100000 in
theorem spec_BestStarts.calls (k : Nat) (a0 : ByteArray) (a1 : Bool) (r1 : ByteArray) (r2 : ByteArray) (r3 : Int) (r4 : Bool) (w : World) (h : spec_BestStarts.f k a0 a1 = some (r1, r2, r3, r4)) :
    Calls Tryd.prog 11 #[.string a0, .bool a1] w fun e w' => e = .returned (.tuple #[.string r1, .string r2, .int .i64 r3, .bool r4]) ∧ Below w.heap.size w w' := by
  have HB := Aside0.mk (Below.refl w.heap.size w)
  have H : ((spec_thGood.f k a0).bind fun t165 => (if t165 = true then ((spec_thTable.f k a0 a1).bind fun bt166 => (if 0 < (bt166.1.length : Int) then (spec_BestStarts.l0 k bt166.1 0 (rd_L1 bt166.1 0) ((rd_L1 bt166.1 0).length : Int) 0) else (none))) else (some ((⟨#[]⟩ : ByteArray), (⟨#[]⟩ : ByteArray), 0, false)))) = some (r1, r2, r3, r4) := h
  clear h
  replace H := Option.bind_eq_some_iff.mp H
  obtain ⟨t165, A30, H⟩ := H
  replace H : (if t165 = true then ((spec_thTable.f k a0 a1).bind fun bt166 => (if 0 < (bt166.1.length : Int) then (spec_BestStarts.l0 k bt166.1 0 (rd_L1 bt166.1 0) ((rd_L1 bt166.1 0).length : Int) 0) else (none))) else (some ((⟨#[]⟩ : ByteArray), (⟨#[]⟩ : ByteArray), 0, false))) = some (r1, r2, r3, r4) := H
  have A3 := Aside0.mk A30
  clear A30
  by_cases c4 : t165 = true
  · subst c4
    have H1 : ((spec_thTable.f k a0 a1).bind fun bt166 => (if 0 < (bt166.1.length : Int) then (spec_BestStarts.l0 k bt166.1 0 (rd_L1 bt166.1 0) ((rd_L1 bt166.1 0).length : Int) 0) else (none))) = some (r1, r2, r3, r4) := by rw [if_pos rfl] at H; exact H
    clear H
    have H := H1
    clear H1
    replace H := Option.bind_eq_some_iff.mp H
    obtain ⟨⟨t166, t167⟩, A50, H⟩ := H
    replace H : (if 0 < (t166.length : Int) then (spec_BestStarts.l0 k t166 0 (rd_L1 t166 0) ((rd_L1 t166 0).length : Int) 0) else (none)) = some (r1, r2, r3, r4) := H
    have A5 := Aside0.mk A50
    clear A50
    by_cases c6 : 0 < (t166.length : Int)
    · rw [if_pos c6] at H
      have c6b0 : decide (0 < (t166.length : Int)) = true := decide_eq_true c6
      have c6b1 : decide (0 < t166.length) = true := decide_eq_true (by omega)
      clear c6
      have H' := Aside0.mk H
      clear H
      go_enter Tryd.func11, Tryd.ntmps11
      go_wp2_with (first | (go_at_call 24; (with_reducible refine (spec_thGood.calls k a0 true _ A3.out).mono ?_); rintro e w' ⟨rfl, ⟨nd, rfl⟩⟩; (try first | exact ⟨rfl, _, World.drewN_drewN _ _ _⟩ | exact ⟨rfl, _, Eq.trans (World.drewN_drewN _ _ _) (congrArg (World.drewN _) (Nat.add_assoc _ _ _))⟩)) | (go_at_call 19; (with_reducible refine (spec_thTable.calls k a0 a1 t166 t167 _ A5.out).mono ?_); rintro e w7 ⟨v168, v170, rfl, ho0, ho1, hb⟩; have n0_ := Aside0.mk (Kd.S_lower ho0 (below_size (by repeat (first | (with_reducible first | exact HB.out | apply below_alloc | apply pw_below_drewN | apply below_drew1) | exact HB.out)))); have n1_ := Aside0.mk (Kd.S_lower ho1 (below_size (by repeat (first | (with_reducible first | exact HB.out | apply below_alloc | apply pw_below_drewN | apply below_drew1) | exact HB.out)))); have n2_ := Aside0.mk (below_step (by repeat (first | (with_reducible first | exact HB.out | apply below_alloc | apply pw_below_drewN | apply below_drew1) | exact HB.out)) hb); clear HB; have HO169 := n0_; have HO171 := n1_; have HB := n2_; clear n0_ n1_ n2_; (try clear hb); (try clear hb2); (try clear hk); (try clear hi); (try clear ho0); (try clear ho1); obtain ⟨Ao8, co8, eo8⟩ := Kd.S_slice HO169.out; subst eo8; have p172 : 0 ≤ (0 : Int) := (by omega); have q172 : 0 < (t166.length : Int) := of_decide_eq_true (by first | (with_reducible assumption) | assumption); obtain ⟨ad172, A172_0, c172_0, e172, hx172_0, hl172_0, hi172_0⟩ := at_L1 (Kd.S_reads' HO169.out).2.2 0 p172 q172; cases e172; obtain ⟨ce172, hce172, hMe172, hcc172⟩ := Kd.S_get HO169.out [] 0 p172 (by first | exact q172 | exact of_decide_eq_true (by first | (with_reducible assumption) | assumption) | (have e_ := (Kd.S_reads' HO169.out).1; omega)); obtain ⟨ve172_0, rfl, ge172_0⟩ := hMe172; have hv172_0 := hcc172 0 _ rfl; rw [Nat.add_zero, show ((Kd.slice 3 (Kd.int .i64))).sz = 1 from rfl, Nat.mul_one] at hv172_0; replace hv172_0 := Option.some.inj (hv172_0.symm.trans hx172_0); rw [hv172_0] at ge172_0; have HL172_0 := Aside0.mk (show Kd.R (Kd.int .i64) 3 _ _ _ _ (rd_L1 t166 0) from ge172_0); clear hv172_0 ge172_0; clear hcc172 hce172; have qi172 : (0 < t166.length) = True := eq_true (by omega); (try rw [show ((0 : Int)).toNat = 0 from rfl] at hx172_0); (try rw [Addr.add_zero'] at hx172_0); have HR172_0 := Aside0.mk hi172_0; have HC172_0 := Aside0.mk hl172_0; clear hi172_0 hl172_0; replace p172 := eq_true p172; replace q172 := eq_true q172))
      repeat (go_quiet (first | (go_at_call 24; (with_reducible refine (spec_thGood.calls k a0 true _ A3.out).mono ?_); rintro e w' ⟨rfl, ⟨nd, rfl⟩⟩; (try first | exact ⟨rfl, _, World.drewN_drewN _ _ _⟩ | exact ⟨rfl, _, Eq.trans (World.drewN_drewN _ _ _) (congrArg (World.drewN _) (Nat.add_assoc _ _ _))⟩)) | (go_at_call 19; (with_reducible refine (spec_thTable.calls k a0 a1 t166 t167 _ A5.out).mono ?_); rintro e w7 ⟨v168, v170, rfl, ho0, ho1, hb⟩; have n0_ := Aside0.mk (Kd.S_lower ho0 (below_size (by repeat (first | (with_reducible first | exact HB.out | apply below_alloc | apply pw_below_drewN | apply below_drew1) | exact HB.out)))); have n1_ := Aside0.mk (Kd.S_lower ho1 (below_size (by repeat (first | (with_reducible first | exact HB.out | apply below_alloc | apply pw_below_drewN | apply below_drew1) | exact HB.out)))); have n2_ := Aside0.mk (below_step (by repeat (first | (with_reducible first | exact HB.out | apply below_alloc | apply pw_below_drewN | apply below_drew1) | exact HB.out)) hb); clear HB; have HO169 := n0_; have HO171 := n1_; have HB := n2_; clear n0_ n1_ n2_; (try clear hb); (try clear hb2); (try clear hk); (try clear hi); (try clear ho0); (try clear ho1); obtain ⟨Ao8, co8, eo8⟩ := Kd.S_slice HO169.out; subst eo8; have p172 : 0 ≤ (0 : Int) := (by omega); have q172 : 0 < (t166.length : Int) := of_decide_eq_true (by first | (with_reducible assumption) | assumption); obtain ⟨ad172, A172_0, c172_0, e172, hx172_0, hl172_0, hi172_0⟩ := at_L1 (Kd.S_reads' HO169.out).2.2 0 p172 q172; cases e172; obtain ⟨ce172, hce172, hMe172, hcc172⟩ := Kd.S_get HO169.out [] 0 p172 (by first | exact q172 | exact of_decide_eq_true (by first | (with_reducible assumption) | assumption) | (have e_ := (Kd.S_reads' HO169.out).1; omega)); obtain ⟨ve172_0, rfl, ge172_0⟩ := hMe172; have hv172_0 := hcc172 0 _ rfl; rw [Nat.add_zero, show ((Kd.slice 3 (Kd.int .i64))).sz = 1 from rfl, Nat.mul_one] at hv172_0; replace hv172_0 := Option.some.inj (hv172_0.symm.trans hx172_0); rw [hv172_0] at ge172_0; have HL172_0 := Aside0.mk (show Kd.R (Kd.int .i64) 3 _ _ _ _ (rd_L1 t166 0) from ge172_0); clear hv172_0 ge172_0; clear hcc172 hce172; have qi172 : (0 < t166.length) = True := eq_true (by omega); (try rw [show ((0 : Int)).toNat = 0 from rfl] at hx172_0); (try rw [Addr.add_zero'] at hx172_0); have HR172_0 := Aside0.mk hi172_0; have HC172_0 := Aside0.mk hl172_0; clear hi172_0 hl172_0; replace p172 := eq_true p172; replace q172 := eq_true q172)); try go_wp2_with (first | (go_at_call 24; (with_reducible refine (spec_thGood.calls k a0 true _ A3.out).mono ?_); rintro e w' ⟨rfl, ⟨nd, rfl⟩⟩; (try first | exact ⟨rfl, _, World.drewN_drewN _ _ _⟩ | exact ⟨rfl, _, Eq.trans (World.drewN_drewN _ _ _) (congrArg (World.drewN _) (Nat.add_assoc _ _ _))⟩)) | (go_at_call 19; (with_reducible refine (spec_thTable.calls k a0 a1 t166 t167 _ A5.out).mono ?_); rintro e w7 ⟨v168, v170, rfl, ho0, ho1, hb⟩; have n0_ := Aside0.mk (Kd.S_lower ho0 (below_size (by repeat (first | (with_reducible first | exact HB.out | apply below_alloc | apply pw_below_drewN | apply below_drew1) | exact HB.out)))); have n1_ := Aside0.mk (Kd.S_lower ho1 (below_size (by repeat (first | (with_reducible first | exact HB.out | apply below_alloc | apply pw_below_drewN | apply below_drew1) | exact HB.out)))); have n2_ := Aside0.mk (below_step (by repeat (first | (with_reducible first | exact HB.out | apply below_alloc | apply pw_below_drewN | apply below_drew1) | exact HB.out)) hb); clear HB; have HO169 := n0_; have HO171 := n1_; have HB := n2_; clear n0_ n1_ n2_; (try clear hb); (try clear hb2); (try clear hk); (try clear hi); (try clear ho0); (try clear ho1); obtain ⟨Ao8, co8, eo8⟩ := Kd.S_slice HO169.out; subst eo8; have p172 : 0 ≤ (0 : Int) := (by omega); have q172 : 0 < (t166.length : Int) := of_decide_eq_true (by first | (with_reducible assumption) | assumption); obtain ⟨ad172, A172_0, c172_0, e172, hx172_0, hl172_0, hi172_0⟩ := at_L1 (Kd.S_reads' HO169.out).2.2 0 p172 q172; cases e172; obtain ⟨ce172, hce172, hMe172, hcc172⟩ := Kd.S_get HO169.out [] 0 p172 (by first | exact q172 | exact of_decide_eq_true (by first | (with_reducible assumption) | assumption) | (have e_ := (Kd.S_reads' HO169.out).1; omega)); obtain ⟨ve172_0, rfl, ge172_0⟩ := hMe172; have hv172_0 := hcc172 0 _ rfl; rw [Nat.add_zero, show ((Kd.slice 3 (Kd.int .i64))).sz = 1 from rfl, Nat.mul_one] at hv172_0; replace hv172_0 := Option.some.inj (hv172_0.symm.trans hx172_0); rw [hv172_0] at ge172_0; have HL172_0 := Aside0.mk (show Kd.R (Kd.int .i64) 3 _ _ _ _ (rd_L1 t166 0) from ge172_0); clear hv172_0 ge172_0; clear hcc172 hce172; have qi172 : (0 < t166.length) = True := eq_true (by omega); (try rw [show ((0 : Int)).toNat = 0 from rfl] at hx172_0); (try rw [Addr.add_zero'] at hx172_0); have HR172_0 := Aside0.mk hi172_0; have HC172_0 := Aside0.mk hl172_0; clear hi172_0 hl172_0; replace p172 := eq_true p172; replace q172 := eq_true q172)))
      go_loopg [10, 26] k (fun kq v10 v26 w' => ∃ (x10_1 : Int) (x26_1 : Int), v10 = .int .i64 x10_1 ∧ v26 = .int .i64 x26_1 ∧ Aside0 (spec_BestStarts.l0 kq t166 x10_1 (rd_L1 t166 0) ((rd_L1 t166 0).length : Int) x26_1 = some (r1, r2, r3, r4)) ∧ Aside0 (kq ≤ k) ∧ Aside0 (Kd.S (Kd.slice 3 (Kd.int .i64)) 28 w' w.heap.size (fun _ => True) (.slice (some ad172) t166.length co8) t166) ∧ Aside0 (Kd.C (Kd.int .i64) w' A172_0 (rd_L1 t166 0).length (rd_L1 t166 0)) ∧ Aside0 (Below w.heap.size w w'))
      case atStart => exact ⟨(0), (0), (by first | rfl | (simp; done) | (simp [*]; done)), (by first | rfl | (simp; done) | (simp [*]; done)), H', ⟨Nat.le_refl _⟩, ⟨by (with_reducible repeat (first | apply Kd.S_alloc | apply Kd.S_drewN | apply Kd.S_drew)); exact Kd.S_mono HO169.out (fun _ hk => trivial)⟩, ⟨by repeat (first | (with_reducible exact HR172_0.out) | (with_reducible refine Kd.C_alloc ?_ _) | (with_reducible refine Kd.C_drewN ?_ _) | (with_reducible refine Kd.C_drew ?_) | exact HR172_0.out)⟩, ⟨by repeat (first | (with_reducible first | exact HB.out | apply below_alloc | apply pw_below_drewN | apply below_drew1) | exact HB.out)⟩⟩
      case round =>
        clear H'
        try clear c1
        try clear p1
        try clear q1
        try clear hx1
        try clear qi1
        try clear p2
        try clear c4
        try clear c6
        try clear c6b0
        try clear c6b1
        try clear hx172_0
        try clear p172
        try clear q172
        obtain ⟨x10_1, x26_1, rfl, rfl, HA, HK1, HO_8, HR172_0, HB⟩ := hrel
        cases gk with
        | zero => exact absurd HA.out (by simp [spec_BestStarts.l0])
        | succ k1 =>
          have H := HA.out
          clear HA
          simp only [spec_BestStarts.l0] at H
          by_cases c9 : x26_1 < ((rd_L1 t166 0).length : Int)
          · rw [if_pos c9] at H
            have c9b0 : decide (x26_1 < ((rd_L1 t166 0).length : Int)) = true := decide_eq_true c9
            clear c9
            by_cases c10 : 0 ≤ x26_1
            · rw [if_pos c10] at H
              have c10b0 : decide (0 ≤ x26_1) = true := decide_eq_true c10
              clear c10
              by_cases c11 : x26_1 < ((rd_L1 t166 0).length : Int)
              · rw [if_pos c11] at H
                have c11b0 : decide (x26_1 < ((rd_L1 t166 0).length : Int)) = true := decide_eq_true c11
                clear c11
                by_cases c12 : 0 < (t166.length : Int)
                · rw [if_pos c12] at H
                  have c12b0 : decide (0 < (t166.length : Int)) = true := decide_eq_true c12
                  have c12b1 : decide (0 < t166.length) = true := decide_eq_true (by omega)
                  clear c12
                  by_cases c13 : 0 ≤ x10_1
                  · rw [if_pos c13] at H
                    have c13b0 : decide (0 ≤ x10_1) = true := decide_eq_true c13
                    clear c13
                    by_cases c14 : x10_1 < ((rd_L1 t166 0).length : Int)
                    · rw [if_pos c14] at H
                      have c14b0 : decide (x10_1 < ((rd_L1 t166 0).length : Int)) = true := decide_eq_true c14
                      clear c14
                      by_cases c15 : (rd (rd_L1 t166 0) x26_1) < (rd (rd_L1 t166 0) x10_1)
                      · rw [if_pos c15] at H
                        have c15b0 : decide ((rd (rd_L1 t166 0) x26_1) < (rd (rd_L1 t166 0) x10_1)) = true := decide_eq_true c15
                        clear c15
                        have H' := Aside0.mk H
                        clear H
                        have p173 : 0 ≤ (x26_1 : Int) := of_decide_eq_true (by first | (with_reducible assumption) | assumption)
                        have q173 : x26_1 < ((rd_L1 t166 0).length : Int) := of_decide_eq_true (by first | (with_reducible assumption) | assumption)
                        obtain ⟨ad173, e173, hx173_0⟩ := Kd.at_int HR172_0.out x26_1 p173 q173
                        cases e173
                        (try replace hx173_0 := (HB.out.cell (World.block_lt_of_cell? w _ hx173_0)).trans hx173_0)
                        replace p173 := eq_true p173
                        replace q173 := eq_true q173
                        have p174 : 0 ≤ (0 : Int) := (by omega)
                        have q174 : 0 < (t166.length : Int) := of_decide_eq_true (by first | (with_reducible assumption) | assumption)
                        obtain ⟨ad174, A174_0, c174_0, e174, hx174_0, hl174_0, hi174_0⟩ := at_L1 (Kd.S_reads' HO_8.out).2.2 0 p174 q174
                        obtain rfl : ad172 = ad174 := (by injection e174)
                        obtain ⟨ce174, hce174, hMe174, hcc174⟩ := Kd.S_get HO_8.out [] 0 p174 (by first | exact q174 | exact of_decide_eq_true (by first | (with_reducible assumption) | assumption) | (have e_ := (Kd.S_reads' HO_8.out).1; omega))
                        obtain ⟨ve174_0, rfl, ge174_0⟩ := hMe174
                        have hv174_0 := hcc174 0 _ rfl
                        rw [Nat.add_zero, show ((Kd.slice 3 (Kd.int .i64))).sz = 1 from rfl, Nat.mul_one] at hv174_0
                        replace hv174_0 := Option.some.inj (hv174_0.symm.trans hx174_0)
                        rw [hv174_0] at ge174_0
                        have HL174_0 := Aside0.mk (show Kd.R (Kd.int .i64) 3 _ _ _ _ (rd_L1 t166 0) from ge174_0)
                        clear hv174_0 ge174_0
                        clear hcc174 hce174
                        have qi174 : (0 < t166.length) = True := eq_true (by omega)
                        (try rw [show ((0 : Int)).toNat = 0 from rfl] at hx174_0)
                        (try rw [Addr.add_zero'] at hx174_0)
                        have HR174_0 := Aside0.mk hi174_0
                        have HC174_0 := Aside0.mk hl174_0
                        clear hi174_0 hl174_0
                        replace p174 := eq_true p174
                        replace q174 := eq_true q174
                        have p175 : 0 ≤ (x10_1 : Int) := of_decide_eq_true (by first | (with_reducible assumption) | assumption)
                        have q175 : x10_1 < ((rd_L1 t166 0).length : Int) := of_decide_eq_true (by first | (with_reducible assumption) | assumption)
                        obtain ⟨ad175, e175, hx175_0⟩ := Kd.at_int (by repeat (first | (with_reducible exact HR174_0.out) | (with_reducible refine Kd.C_alloc ?_ _) | (with_reducible refine Kd.C_drewN ?_ _) | (with_reducible refine Kd.C_drew ?_) | exact HR174_0.out)) x10_1 p175 q175
                        cases e175
                        replace p175 := eq_true p175
                        replace q175 := eq_true q175
                        go_wp2
                        repeat (go_quiet (fail); try go_wp2)
                        go_roundg k1
                        case measure => have := HK1.out; omega
                        case rel => exact ⟨(x26_1), (wrap64 (x26_1 + 1)), (by first | rfl | (simp; done) | (simp [*]; done)), (by first | rfl | (simp; done) | (simp [*]; done)), H', ⟨by have := HK1.out; omega⟩, ⟨by (with_reducible repeat (first | apply Kd.S_alloc | apply Kd.S_drewN | apply Kd.S_drew)); exact HO_8.out⟩, ⟨by repeat (first | (with_reducible exact HR172_0.out) | (with_reducible refine Kd.C_alloc ?_ _) | (with_reducible refine Kd.C_drewN ?_ _) | (with_reducible refine Kd.C_drew ?_) | exact HR172_0.out)⟩, ⟨by repeat (first | (with_reducible first | exact HB.out | apply below_alloc | apply pw_below_drewN | apply below_drew1) | exact HB.out)⟩⟩
                      · rw [if_neg c15] at H
                        have c15b0 : decide ((rd (rd_L1 t166 0) x26_1) < (rd (rd_L1 t166 0) x10_1)) = false := decide_eq_false c15
                        clear c15
                        have H' := Aside0.mk H
                        clear H
                        have p173 : 0 ≤ (x26_1 : Int) := of_decide_eq_true (by first | (with_reducible assumption) | assumption)
                        have q173 : x26_1 < ((rd_L1 t166 0).length : Int) := of_decide_eq_true (by first | (with_reducible assumption) | assumption)
                        obtain ⟨ad173, e173, hx173_0⟩ := Kd.at_int HR172_0.out x26_1 p173 q173
                        cases e173
                        (try replace hx173_0 := (HB.out.cell (World.block_lt_of_cell? w _ hx173_0)).trans hx173_0)
                        replace p173 := eq_true p173
                        replace q173 := eq_true q173
                        have p174 : 0 ≤ (0 : Int) := (by omega)
                        have q174 : 0 < (t166.length : Int) := of_decide_eq_true (by first | (with_reducible assumption) | assumption)
                        obtain ⟨ad174, A174_0, c174_0, e174, hx174_0, hl174_0, hi174_0⟩ := at_L1 (Kd.S_reads' HO_8.out).2.2 0 p174 q174
                        obtain rfl : ad172 = ad174 := (by injection e174)
                        obtain ⟨ce174, hce174, hMe174, hcc174⟩ := Kd.S_get HO_8.out [] 0 p174 (by first | exact q174 | exact of_decide_eq_true (by first | (with_reducible assumption) | assumption) | (have e_ := (Kd.S_reads' HO_8.out).1; omega))
                        obtain ⟨ve174_0, rfl, ge174_0⟩ := hMe174
                        have hv174_0 := hcc174 0 _ rfl
                        rw [Nat.add_zero, show ((Kd.slice 3 (Kd.int .i64))).sz = 1 from rfl, Nat.mul_one] at hv174_0
                        replace hv174_0 := Option.some.inj (hv174_0.symm.trans hx174_0)
                        rw [hv174_0] at ge174_0
                        have HL174_0 := Aside0.mk (show Kd.R (Kd.int .i64) 3 _ _ _ _ (rd_L1 t166 0) from ge174_0)
                        clear hv174_0 ge174_0
                        clear hcc174 hce174
                        have qi174 : (0 < t166.length) = True := eq_true (by omega)
                        (try rw [show ((0 : Int)).toNat = 0 from rfl] at hx174_0)
                        (try rw [Addr.add_zero'] at hx174_0)
                        have HR174_0 := Aside0.mk hi174_0
                        have HC174_0 := Aside0.mk hl174_0
                        clear hi174_0 hl174_0
                        replace p174 := eq_true p174
                        replace q174 := eq_true q174
                        have p175 : 0 ≤ (x10_1 : Int) := of_decide_eq_true (by first | (with_reducible assumption) | assumption)
                        have q175 : x10_1 < ((rd_L1 t166 0).length : Int) := of_decide_eq_true (by first | (with_reducible assumption) | assumption)
                        obtain ⟨ad175, e175, hx175_0⟩ := Kd.at_int (by repeat (first | (with_reducible exact HR174_0.out) | (with_reducible refine Kd.C_alloc ?_ _) | (with_reducible refine Kd.C_drewN ?_ _) | (with_reducible refine Kd.C_drew ?_) | exact HR174_0.out)) x10_1 p175 q175
                        cases e175
                        replace p175 := eq_true p175
                        replace q175 := eq_true q175
                        go_wp2
                        repeat (go_quiet (fail); try go_wp2)
                        go_roundg k1
                        case measure => have := HK1.out; omega
                        case rel => exact ⟨(x10_1), (wrap64 (x26_1 + 1)), (by first | rfl | (simp; done) | (simp [*]; done)), (by first | rfl | (simp; done) | (simp [*]; done)), H', ⟨by have := HK1.out; omega⟩, ⟨by (with_reducible repeat (first | apply Kd.S_alloc | apply Kd.S_drewN | apply Kd.S_drew)); exact HO_8.out⟩, ⟨by repeat (first | (with_reducible exact HR172_0.out) | (with_reducible refine Kd.C_alloc ?_ _) | (with_reducible refine Kd.C_drewN ?_ _) | (with_reducible refine Kd.C_drew ?_) | exact HR172_0.out)⟩, ⟨by repeat (first | (with_reducible first | exact HB.out | apply below_alloc | apply pw_below_drewN | apply below_drew1) | exact HB.out)⟩⟩
                    · rw [if_neg c14] at H
                      exact absurd H (by simp)
                  · rw [if_neg c13] at H
                    exact absurd H (by simp)
                · rw [if_neg c12] at H
                  exact absurd H (by simp)
              · rw [if_neg c11] at H
                exact absurd H (by simp)
            · rw [if_neg c10] at H
              exact absurd H (by simp)
          · rw [if_neg c9] at H
            have c9b0 : decide (x26_1 < ((rd_L1 t166 0).length : Int)) = false := decide_eq_false c9
            clear c9
            obtain ⟨ji16, hji16⟩ : ∃ j_ : Int, (wrap64 (Int.tdiv x10_1 12)) = j_ := ⟨_, rfl⟩
            replace H : (if 0 ≤ (ji16) then (if (ji16) ≤ (wrap64 ((ji16) + 1)) then (if (wrap64 ((ji16) + 1)) ≤ 12 then (if 0 ≤ (Int.tmod x10_1 12) then (if (Int.tmod x10_1 12) ≤ (wrap64 ((Int.tmod x10_1 12) + 1)) then (if (wrap64 ((Int.tmod x10_1 12) + 1)) ≤ 12 then (if 0 < (t166.length : Int) then (if 0 ≤ x10_1 then (if x10_1 < ((rd_L1 t166 0).length : Int) then (some ((⟨#[49, 50, 51, 52, 53, 54, 55, 56, 57, 42, 48, 35]⟩ : ByteArray).extract ((ji16) : Int).toNat ((wrap64 ((ji16) + 1)) : Int).toNat, (⟨#[49, 50, 51, 52, 53, 54, 55, 56, 57, 42, 48, 35]⟩ : ByteArray).extract ((Int.tmod x10_1 12) : Int).toNat ((wrap64 ((Int.tmod x10_1 12) + 1)) : Int).toNat, rd (rd_L1 t166 0) x10_1, true)) else (none)) else (none)) else (none)) else (none)) else (none)) else (none)) else (none)) else (none)) else (none)) = some (r1, r2, r3, r4) := by first | (rw [hji16] at H; exact H) | (simp only [hji16] at H ⊢; exact H)
            have hji16w : (IntKind.i64.wrap (Int.tdiv x10_1 12)) = ji16 := (i64_w _).trans hji16
            by_cases c17 : 0 ≤ (ji16)
            · rw [if_pos c17] at H
              have c17b0 := eq_true c17
              have c17b1 : decide (0 ≤ (ji16)) = true := decide_eq_true c17
              clear c17
              by_cases c18 : (ji16) ≤ (wrap64 ((ji16) + 1))
              · rw [if_pos c18] at H
                have c18b0 := eq_true c18
                have c18b1 : decide ((ji16) ≤ (wrap64 ((ji16) + 1))) = true := decide_eq_true c18
                by_cases c19 : (wrap64 ((ji16) + 1)) ≤ 12
                · rw [if_pos c19] at H
                  have c19b0 := eq_true c19
                  have c19b1 : decide ((wrap64 ((ji16) + 1)) ≤ 12) = true := decide_eq_true c19
                  obtain ⟨ji20, hji20⟩ : ∃ j_ : Int, (Int.tmod x10_1 12) = j_ := ⟨_, rfl⟩
                  replace H : (if 0 ≤ (ji20) then (if (ji20) ≤ (wrap64 ((ji20) + 1)) then (if (wrap64 ((ji20) + 1)) ≤ 12 then (if 0 < (t166.length : Int) then (if 0 ≤ x10_1 then (if x10_1 < ((rd_L1 t166 0).length : Int) then (some ((⟨#[49, 50, 51, 52, 53, 54, 55, 56, 57, 42, 48, 35]⟩ : ByteArray).extract ((ji16) : Int).toNat ((wrap64 ((ji16) + 1)) : Int).toNat, (⟨#[49, 50, 51, 52, 53, 54, 55, 56, 57, 42, 48, 35]⟩ : ByteArray).extract ((ji20) : Int).toNat ((wrap64 ((ji20) + 1)) : Int).toNat, rd (rd_L1 t166 0) x10_1, true)) else (none)) else (none)) else (none)) else (none)) else (none)) else (none)) = some (r1, r2, r3, r4) := by first | (rw [hji20] at H; exact H) | (simp only [hji20] at H ⊢; exact H)
                  by_cases c21 : 0 ≤ (ji20)
                  · rw [if_pos c21] at H
                    have c21b0 := eq_true c21
                    have c21b1 : decide (0 ≤ (ji20)) = true := decide_eq_true c21
                    clear c21
                    by_cases c22 : (ji20) ≤ (wrap64 ((ji20) + 1))
                    · rw [if_pos c22] at H
                      have c22b0 := eq_true c22
                      have c22b1 : decide ((ji20) ≤ (wrap64 ((ji20) + 1))) = true := decide_eq_true c22
                      by_cases c23 : (wrap64 ((ji20) + 1)) ≤ 12
                      · rw [if_pos c23] at H
                        have c23b0 := eq_true c23
                        have c23b1 : decide ((wrap64 ((ji20) + 1)) ≤ 12) = true := decide_eq_true c23
                        by_cases c24 : 0 < (t166.length : Int)
                        · rw [if_pos c24] at H
                          have c24b0 : decide (0 < (t166.length : Int)) = true := decide_eq_true c24
                          have c24b1 : decide (0 < t166.length) = true := decide_eq_true (by omega)
                          clear c24
                          by_cases c25 : 0 ≤ x10_1
                          · rw [if_pos c25] at H
                            have c25b0 : decide (0 ≤ x10_1) = true := decide_eq_true c25
                            clear c25
                            by_cases c26 : x10_1 < ((rd_L1 t166 0).length : Int)
                            · rw [if_pos c26] at H
                              have c26b0 : decide (x10_1 < ((rd_L1 t166 0).length : Int)) = true := decide_eq_true c26
                              clear c26
                              simp only [Option.some.injEq, Prod.mk.injEq] at H
                              obtain ⟨rfl, rfl, rfl, rfl⟩ := H
                              have p176 : 0 ≤ (0 : Int) := (by omega)
                              have q176 : 0 < (t166.length : Int) := of_decide_eq_true (by first | (with_reducible assumption) | assumption)
                              obtain ⟨ad176, A176_0, c176_0, e176, hx176_0, hl176_0, hi176_0⟩ := at_L1 (Kd.S_reads' HO_8.out).2.2 0 p176 q176
                              obtain rfl : ad172 = ad176 := (by injection e176)
                              obtain ⟨ce176, hce176, hMe176, hcc176⟩ := Kd.S_get HO_8.out [] 0 p176 (by first | exact q176 | exact of_decide_eq_true (by first | (with_reducible assumption) | assumption) | (have e_ := (Kd.S_reads' HO_8.out).1; omega))
                              obtain ⟨ve176_0, rfl, ge176_0⟩ := hMe176
                              have hv176_0 := hcc176 0 _ rfl
                              rw [Nat.add_zero, show ((Kd.slice 3 (Kd.int .i64))).sz = 1 from rfl, Nat.mul_one] at hv176_0
                              replace hv176_0 := Option.some.inj (hv176_0.symm.trans hx176_0)
                              rw [hv176_0] at ge176_0
                              have HL176_0 := Aside0.mk (show Kd.R (Kd.int .i64) 3 _ _ _ _ (rd_L1 t166 0) from ge176_0)
                              clear hv176_0 ge176_0
                              clear hcc176 hce176
                              have qi176 : (0 < t166.length) = True := eq_true (by omega)
                              (try rw [show ((0 : Int)).toNat = 0 from rfl] at hx176_0)
                              (try rw [Addr.add_zero'] at hx176_0)
                              have HR176_0 := Aside0.mk hi176_0
                              have HC176_0 := Aside0.mk hl176_0
                              clear hi176_0 hl176_0
                              replace p176 := eq_true p176
                              replace q176 := eq_true q176
                              have p177 : 0 ≤ (x10_1 : Int) := of_decide_eq_true (by first | (with_reducible assumption) | assumption)
                              have q177 : x10_1 < ((rd_L1 t166 0).length : Int) := of_decide_eq_true (by first | (with_reducible assumption) | assumption)
                              obtain ⟨ad177, e177, hx177_0⟩ := Kd.at_int (by repeat (first | (with_reducible exact HR176_0.out) | (with_reducible refine Kd.C_alloc ?_ _) | (with_reducible refine Kd.C_drewN ?_ _) | (with_reducible refine Kd.C_drew ?_) | exact HR176_0.out)) x10_1 p177 q177
                              cases e177
                              replace p177 := eq_true p177
                              replace q177 := eq_true q177
                              go_wp2
                              repeat (go_quiet (fail); try go_wp2)
                              refine bodyPost_ret (results_list (rs := [.tmp 4, .tmp 5, .tmp 6, .tmp 7]) rfl (by simp) (.tmp (.tmp (.tmp (.tmp .nil))))) rfl ?_
                              exact ⟨by first | rfl | (simp [errW_none, errW_some] <;> rfl) | (simp only [← hji16, ← hji20]; first | rfl | (simp [errW_none, errW_some] <;> rfl)) | (simp [*, errW_none, errW_some] <;> rfl), by repeat (first | (with_reducible first | exact HB.out | apply below_alloc | apply pw_below_drewN | apply below_drew1) | exact HB.out)⟩
                            · rw [if_neg c26] at H
                              exact absurd H (by simp)
                          · rw [if_neg c25] at H
                            exact absurd H (by simp)
                        · rw [if_neg c24] at H
                          exact absurd H (by simp)
                      · rw [if_neg c23] at H
                        exact absurd H (by simp)
                    · rw [if_neg c22] at H
                      exact absurd H (by simp)
                  · rw [if_neg c21] at H
                    exact absurd H (by simp)
                · rw [if_neg c19] at H
                  exact absurd H (by simp)
              · rw [if_neg c18] at H
                exact absurd H (by simp)
            · rw [if_neg c17] at H
              exact absurd H (by simp)
    · rw [if_neg c6] at H
      exact absurd H (by simp)
  · replace c4 := Bool.eq_false_iff.mpr c4
    subst c4
    have H1 : (some ((⟨#[]⟩ : ByteArray), (⟨#[]⟩ : ByteArray), 0, false)) = some (r1, r2, r3, r4) := by rw [if_neg (show ¬ (false = true) by decide)] at H; exact H
    clear H
    have H := H1
    clear H1
    simp only [Option.some.injEq, Prod.mk.injEq] at H
    obtain ⟨rfl, rfl, rfl, rfl⟩ := H
    go_enter Tryd.func11, Tryd.ntmps11
    go_wp2_with (first | (go_at_call 24; (with_reducible refine (spec_thGood.calls k a0 false _ A3.out).mono ?_); rintro e w' ⟨rfl, ⟨nd, rfl⟩⟩; (try first | exact ⟨rfl, _, World.drewN_drewN _ _ _⟩ | exact ⟨rfl, _, Eq.trans (World.drewN_drewN _ _ _) (congrArg (World.drewN _) (Nat.add_assoc _ _ _))⟩)))
    repeat (go_quiet (first | (go_at_call 24; (with_reducible refine (spec_thGood.calls k a0 false _ A3.out).mono ?_); rintro e w' ⟨rfl, ⟨nd, rfl⟩⟩; (try first | exact ⟨rfl, _, World.drewN_drewN _ _ _⟩ | exact ⟨rfl, _, Eq.trans (World.drewN_drewN _ _ _) (congrArg (World.drewN _) (Nat.add_assoc _ _ _))⟩))); try go_wp2_with (first | (go_at_call 24; (with_reducible refine (spec_thGood.calls k a0 false _ A3.out).mono ?_); rintro e w' ⟨rfl, ⟨nd, rfl⟩⟩; (try first | exact ⟨rfl, _, World.drewN_drewN _ _ _⟩ | exact ⟨rfl, _, Eq.trans (World.drewN_drewN _ _ _) (congrArg (World.drewN _) (Nat.add_assoc _ _ _))⟩))))
    refine bodyPost_ret (results_list (rs := [.tmp 4, .tmp 5, .tmp 6, .tmp 7]) rfl (by simp) (.tmp (.tmp (.tmp (.tmp .nil))))) rfl ?_
    exact ⟨by first | rfl | (simp [errW_none, errW_some] <;> rfl) | (simp [*, errW_none, errW_some] <;> rfl), by repeat (first | (with_reducible first | exact HB.out | apply below_alloc | apply pw_below_drewN | apply below_drew1) | exact HB.out)⟩

end Go.Proofs.YthnjmokaiiajmaaDoor.P

namespace Go.Proofs.YthnjmokaiiajmaaDoor.P
open Go.RowKit Go.Proofs.YthnjmokaiiajmaaDoorW.PrintWords Go.Proofs.YthnjmokaiiajmaaDoorW.PrintLast Go.Proofs.YthnjmokaiiajmaaDoorW.PrintMore
attribute [local go_sem] max2_int min2_int max_two min_two max_three min_three max_four min_four   -- for this text's walks alone
set_option linter.unusedVariables false
set_option linter.unusedSimpArgs false

/-! ### strings_Trim: function 39 -/
def strings_Trim.f (a0 : ByteArray) (a1 : ByteArray) : Option (ByteArray) := if a0.size ≤ 9223372036854775807 then (if a1.size < 4294967281 then (if a1.data.toList.all (fun b => decide (b.toNat < 128)) = true then (some ⟨(Lib.trimS a0.data.toList a1.data.toList).toArray⟩) else none) else none) else none
theorem strings_Trim.calls (a0 : ByteArray) (a1 : ByteArray) (r : ByteArray) (w : World) (h : strings_Trim.f a0 a1 = some r) :
    Calls Tryd.prog 39 #[.string a0, .string a1] w fun e w' => e = .returned (.string r) ∧ Below w.heap.size w w' := by
  unfold strings_Trim.f at h
  split at h
  · rename_i hs
    split at h
    · rename_i hc
      split at h
      · rename_i ha
        obtain rfl := Option.some.inj h
        refine (Any.strings_Trim_laid Tryd.lays160 (by kernel_rfl) a0 a1 w hs hc (fun j b hj => ?_)).mono ?_
        · have hb := List.all_eq_true.1 ha b (List.mem_of_getElem? hj)
          simpa using hb
        · rintro e w' ⟨rfl, hb⟩
          exact ⟨rfl, hb⟩
      · cases h
    · cases h
  · cases h

end Go.Proofs.YthnjmokaiiajmaaDoor.P

namespace Go.Proofs.YthnjmokaiiajmaaDoor.P
open Go.RowKit Go.Proofs.YthnjmokaiiajmaaDoorW.PrintWords Go.Proofs.YthnjmokaiiajmaaDoorW.PrintLast Go.Proofs.YthnjmokaiiajmaaDoorW.PrintMore
attribute [local go_sem] max2_int min2_int max_two min_two max_three min_three max_four min_four   -- for this text's walks alone
set_option linter.unusedVariables false
set_option linter.unusedSimpArgs false

/-! ### impl_over: function 34 -/
def impl_over.f (a0 : ByteArray) (a1 : ByteArray) : Option (Bool) := (strings_Trim.f a0 a1).bind fun t124 => (some (t124.toList == ([] : List UInt8)))
set_option maxHeartbeats 8000000 in
set_option maxRecDepth 100000 in
theorem impl_over.calls (a0 : ByteArray) (a1 : ByteArray) (r : Bool) (w : World) (h : impl_over.f a0 a1 = some r) :
    Calls Tryd.prog 34 #[.string a0, .string a1] w fun e w' => e = .returned (.bool r) ∧ Below w.heap.size w w' := by
  have HB := Aside0.mk (Below.refl w.heap.size w)
  have H : ((strings_Trim.f a0 a1).bind fun t124 => (some (t124.toList == ([] : List UInt8)))) = some r := h
  clear h
  replace H := Option.bind_eq_some_iff.mp H
  obtain ⟨t124, A30, H⟩ := H
  replace H : (some (t124.toList == ([] : List UInt8))) = some r := H
  have A3 := Aside0.mk A30
  clear A30
  obtain rfl := Option.some.inj H
  go_enter Tryd.func34, Tryd.ntmps34
  go_wp2_with (first | ((with_reducible refine gate_callee (f := 39) rfl ?_); refine goesL_ (some 7) rfl rfl Tryd.func39 (by kernel_rfl) rfl #[.string a0, .string a1] rfl (by (try simp only [List.map_toArray, List.map_cons, List.map_nil]); first | done | rfl | (simp only [List.length_drop, List.length_take]; rfl)) ?_; (with_reducible refine (strings_Trim.calls a0 a1 t124 _ A3.out).mono ?_); rintro e w4 ⟨rfl, hb⟩; refine ⟨_, rfl, ?_⟩; have n0_ := Aside0.mk (below_step (by repeat (first | (with_reducible first | exact HB.out | apply below_alloc | apply pw_below_drewN | apply below_drew1) | exact HB.out)) hb); clear HB; have HB := n0_; clear n0_; (try clear hb); (try clear hb2); (try clear hk); (try clear hi)))
  go_ret
  exact ⟨by first | rfl | (simp [errW_none, errW_some] <;> rfl) | (simp [*, errW_none, errW_some] <;> rfl), by repeat (first | (with_reducible first | exact HB.out | apply below_alloc | apply pw_below_drewN | apply below_drew1) | exact HB.out)⟩

end Go.Proofs.YthnjmokaiiajmaaDoor.P

namespace Go.Proofs.YthnjmokaiiajmaaDoor.P
open Go.RowKit Go.Proofs.YthnjmokaiiajmaaDoorW.PrintWords Go.Proofs.YthnjmokaiiajmaaDoorW.PrintLast Go.Proofs.YthnjmokaiiajmaaDoorW.PrintMore
attribute [local go_sem] max2_int min2_int max_two min_two max_three min_three max_four min_four   -- for this text's walks alone
set_option linter.unusedVariables false
set_option linter.unusedSimpArgs false

/-! ### impl_IsDialed: function 25 -/
def impl_IsDialed.f (a0 : ByteArray) : Option (Bool) := if (a0.size : Int) ≤ 30 then ((impl_over.f a0 (⟨#[49, 50, 51, 52, 53, 54, 55, 56, 57, 42, 48, 35]⟩ : ByteArray)).bind fun t125 => (some t125)) else (some false)
set_option maxHeartbeats 8000000 in
set_option maxRecDepth 100000 in
theorem impl_IsDialed.calls (a0 : ByteArray) (r : Bool) (w : World) (h : impl_IsDialed.f a0 = some r) :
    Calls Tryd.prog 25 #[.string a0] w fun e w' => e = .returned (.bool r) ∧ Below w.heap.size w w' := by
  have HB := Aside0.mk (Below.refl w.heap.size w)
  have H : (if (a0.size : Int) ≤ 30 then ((impl_over.f a0 (⟨#[49, 50, 51, 52, 53, 54, 55, 56, 57, 42, 48, 35]⟩ : ByteArray)).bind fun t125 => (some t125)) else (some false)) = some r := h
  clear h
  by_cases c2 : (a0.size : Int) ≤ 30
  · rw [if_pos c2] at H
    have c2b0 : decide ((a0.size : Int) ≤ 30) = true := decide_eq_true c2
    have c2b1 : decide (a0.size ≤ 30) = true := decide_eq_true (by omega)
    clear c2
    replace H := Option.bind_eq_some_iff.mp H
    obtain ⟨t125, A30, H⟩ := H
    replace H : (some t125) = some r := H
    have A3 := Aside0.mk A30
    clear A30
    obtain rfl := Option.some.inj H
    go_enter Tryd.func25, Tryd.ntmps25
    go_wp2_with (first | (go_at_call 34; (with_reducible refine (impl_over.calls a0 (⟨#[49, 50, 51, 52, 53, 54, 55, 56, 57, 42, 48, 35]⟩ : ByteArray) t125 _ A3.out).mono ?_); rintro e w4 ⟨rfl, hb⟩; have n0_ := Aside0.mk (below_step (by repeat (first | (with_reducible first | exact HB.out | apply below_alloc | apply pw_below_drewN | apply below_drew1) | exact HB.out)) hb); clear HB; have HB := n0_; clear n0_; (try clear hb); (try clear hb2); (try clear hk); (try clear hi)))
    go_ret
    exact ⟨by first | rfl | (simp [errW_none, errW_some] <;> rfl) | (simp [*, errW_none, errW_some] <;> rfl), by repeat (first | (with_reducible first | exact HB.out | apply below_alloc | apply pw_below_drewN | apply below_drew1) | exact HB.out)⟩
  · rw [if_neg c2] at H
    have c2b0 : decide ((a0.size : Int) ≤ 30) = false := decide_eq_false c2
    have c2b1 : decide (a0.size ≤ 30) = false := decide_eq_false (by omega)
    clear c2
    obtain rfl := Option.some.inj H
    go_enter Tryd.func25, Tryd.ntmps25
    go_wp2
    go_ret
    exact ⟨by first | rfl | (simp [errW_none, errW_some] <;> rfl) | (simp [*, errW_none, errW_some] <;> rfl), by repeat (first | (with_reducible first | exact HB.out | apply below_alloc | apply pw_below_drewN | apply below_drew1) | exact HB.out)⟩

end Go.Proofs.YthnjmokaiiajmaaDoor.P

namespace Go.Proofs.YthnjmokaiiajmaaDoor.P
open Go.RowKit Go.Proofs.YthnjmokaiiajmaaDoorW.PrintWords Go.Proofs.YthnjmokaiiajmaaDoorW.PrintLast Go.Proofs.YthnjmokaiiajmaaDoorW.PrintMore
attribute [local go_sem] max2_int min2_int max_two min_two max_three min_three max_four min_four   -- for this text's walks alone
set_option linter.unusedVariables false
set_option linter.unusedSimpArgs false

/-! ### strings_IndexByte: function 38 -/
def strings_IndexByte.f (a0 : ByteArray) (a1 : Int) : Option (Int) := some (Lib.indexByte a0.data.toList a1.toNat.toUInt8)
theorem strings_IndexByte.calls (a0 : ByteArray) (a1 : Int) (r : Int) (w : World) (h : strings_IndexByte.f a0 a1 = some r) :
    Calls Tryd.prog 38 #[.string a0, .int .u8 a1] w fun e w' => e = .returned (.int .i64 r) ∧ Drawn0 w w' := by
  obtain rfl := Option.some.inj h
  refine (Tryd.strings_IndexByte a0 a1 w).mono ?_
  rintro e w' ⟨rfl, rfl⟩
  exact ⟨rfl, Drawn0.refl _⟩

end Go.Proofs.YthnjmokaiiajmaaDoor.P

namespace Go.Proofs.YthnjmokaiiajmaaDoor.P
open Go.RowKit Go.Proofs.YthnjmokaiiajmaaDoorW.PrintWords Go.Proofs.YthnjmokaiiajmaaDoorW.PrintLast Go.Proofs.YthnjmokaiiajmaaDoorW.PrintMore
attribute [local go_sem] max2_int min2_int max_two min_two max_three min_three max_four min_four   -- for this text's walks alone
set_option linter.unusedVariables false
set_option linter.unusedSimpArgs false

/-! ### impl_place: function 32 -/
def impl_place.f (a0 : Int) : Option (Int) := (strings_IndexByte.f (⟨#[49, 50, 51, 52, 53, 54, 55, 56, 57, 42, 48, 35]⟩ : ByteArray) a0).bind fun t127 => (some t127)
set_option maxHeartbeats 8000000 in
set_option maxRecDepth 100000 in
theorem impl_place.calls (a0 : Int) (r : Int) (w : World) (h : impl_place.f a0 = some r) :
    Calls Tryd.prog 32 #[.int .u8 a0] w fun e w' => e = .returned (.int .i64 r) ∧ Drawn0 w w' := by
  have H : ((strings_IndexByte.f (⟨#[49, 50, 51, 52, 53, 54, 55, 56, 57, 42, 48, 35]⟩ : ByteArray) a0).bind fun t127 => (some t127)) = some r := h
  clear h
  replace H := Option.bind_eq_some_iff.mp H
  obtain ⟨t127, A20, H⟩ := H
  replace H : (some t127) = some r := H
  have A2 := Aside0.mk A20
  clear A20
  obtain rfl := Option.some.inj H
  go_enter Tryd.func32, Tryd.ntmps32
  go_wp2_with (first | ((with_reducible refine gate_callee (f := 38) rfl ?_); refine goesL_ (some 4) rfl rfl Tryd.func38 (by kernel_rfl) rfl #[.string (⟨#[49, 50, 51, 52, 53, 54, 55, 56, 57, 42, 48, 35]⟩ : ByteArray), .int .u8 a0] rfl (by (try simp only [List.map_toArray, List.map_cons, List.map_nil]); first | done | rfl | (simp only [List.length_drop, List.length_take]; rfl)) ?_; (with_reducible refine (strings_IndexByte.calls (⟨#[49, 50, 51, 52, 53, 54, 55, 56, 57, 42, 48, 35]⟩ : ByteArray) a0 t127 _ A2.out).mono ?_); rintro e w' ⟨rfl, ⟨nd, rfl⟩⟩; refine ⟨_, rfl, ?_⟩))
  go_ret
  exact ⟨by first | rfl | (simp; done) | (simp [*]; done), by repeat (first | exact Drawn0.refl _ | apply Drawn0.step)⟩

end Go.Proofs.YthnjmokaiiajmaaDoor.P

namespace Go.Proofs.YthnjmokaiiajmaaDoor.P
open Go.RowKit Go.Proofs.YthnjmokaiiajmaaDoorW.PrintWords Go.Proofs.YthnjmokaiiajmaaDoorW.PrintLast Go.Proofs.YthnjmokaiiajmaaDoorW.PrintMore
attribute [local go_sem] max2_int min2_int max_two min_two max_three min_three max_four min_four   -- for this text's walks alone
set_option linter.unusedVariables false
set_option linter.unusedSimpArgs false

/-! ### impl_places: function 33 -/
def impl_places.l0 : Nat → ByteArray → List Int → Int → Int → Option (List Int)
  | 0, _, _, _, _ => none
  | k + 1, x0, x3, x7, x8 => if x8 < x7 then (if 0 ≤ x8 then (if x8 < (x0.size : Int) then ((impl_place.f (bt x0 x8)).bind fun t137 => (if x3.length < 17592186044416 then (impl_places.l0 k x0 (x3 ++ [t137]) x7 (wrap64 (x8 + 1))) else (none))) else (none)) else (none)) else (some x3)
def impl_places.f (k : Nat) (a0 : ByteArray) : Option (List Int) := impl_places.l0 k a0 (([] : List Int)) (a0.size : Int) 0
theorem impl_places.mono_l : ∀ k, (∀ y0 y1 y2 y3, LeO (impl_places.l0 k y0 y1 y2 y3) (impl_places.l0 (k + 1) y0 y1 y2 y3))
  | 0 => fun _ _ _ _ r h => by simp [impl_places.l0] at h
  | k + 1 => by
    have ih0 := impl_places.mono_l k
    · intro y0 y1 y2 y3
      unfold impl_places.l0
      repeat' first
      | (with_reducible exact ih0 _ _ _ _)
      | (with_reducible exact LeO.refl _)
      | (with_reducible exact LeO.none _)
      | (with_reducible refine LeO.ite ?_ ?_)
      | (with_reducible refine LeO.bind ?_ (fun _ => ?_))
      | exact ih0 _ _ _ _
      | exact LeO.none _
      | refine LeO.ite ?_ ?_
      | refine LeO.bind ?_ (fun _ => ?_)
theorem impl_places.mono : ∀ a0 k, LeO (impl_places.f k a0) (impl_places.f (k + 1) a0) := by
  intro a0 k
  have ih0 := impl_places.mono_l k
  unfold impl_places.f
  repeat' first
      | (with_reducible exact ih0 _ _ _ _)
      | (with_reducible exact LeO.refl _)
      | (with_reducible exact LeO.none _)
      | (with_reducible refine LeO.ite ?_ ?_)
      | (with_reducible refine LeO.bind ?_ (fun _ => ?_))
      | exact ih0 _ _ _ _
      | exact LeO.none _
      | refine LeO.ite ?_ ?_
      | refine LeO.bind ?_ (fun _ => ?_)
set_option maxHeartbeats 8000000 in
set_option maxRecDepth 100000 in
theorem impl_places.calls (k : Nat) (a0 : ByteArray) (r : List Int) (w : World) (h : impl_places.f k a0 = some r) :
    Calls Tryd.prog 33 #[.string a0] w fun e w' => ∃ v0_ : Value, e = .returned (v0_) ∧ Kd.R (Kd.int .i64) 3 w' w.heap.size (fun _ => True) v0_ r ∧ Below w.heap.size w w' := by
  have HB := Aside0.mk (Below.refl w.heap.size w)
  have H : (impl_places.l0 k a0 (([] : List Int)) (a0.size : Int) 0) = some r := h
  clear h
  obtain ⟨y134, hy134⟩ : ∃ y_ : List Int, y_ = (([] : List Int)) := ⟨_, rfl⟩
  replace H : (impl_places.l0 k a0 y134 (a0.size : Int) 0) = some r := by first | (rw [hy134]; with_reducible exact H) | (have H2_ := (Option.bind_some _ _).symm.trans H; rw [hy134]; with_reducible exact H2_) | (have H2_ := (Option.bind_some _ _).symm.trans H; with_reducible exact H2_) | with_reducible exact H | (rw [hy134]; exact H) | exact H
  have Ny134 := Aside0.mk hy134
  clear hy134
  have H' := Aside0.mk H
  clear H
  go_enter Tryd.func33, Tryd.ntmps33
  go_wp2_with (first | ((with_reducible refine gate_dst (N := 5) rfl ?_); refine Kd.R_lit (Kd.int .i64) _ 3 ?hg (N := 5) ?hd (xs := ([] : List Int)) (inner := []) (ok := fun _ => True) (okp := fun _ => True) ?hr ?hp (fun _ hk => hk) trivial (Below.refl _ _) (Nat.le_refl _) (by simp) ?_; (case hd => rfl); (case hg => rfl); (case hr => first | (go_simp; done) | (go_simp; rfl)); (case hp => exact (Reps.none _ _)); intro v135 w2 ho3 hb hg_ hnew_; clear hg_ hnew_; (first | rw [← Ny134.out] at ho3 | (simp only [Int.reduceToNat] at ho3; rw [← Ny134.out] at ho3)); have n0_ := Aside0.mk (Kd.R_lower ho3 (below_size (by repeat (first | (with_reducible first | exact HB.out | apply below_alloc | apply pw_below_drewN | apply below_drew1) | exact HB.out)))); have n1_ := Aside0.mk (below_step (by repeat (first | (with_reducible first | exact HB.out | apply below_alloc | apply pw_below_drewN | apply below_drew1) | exact HB.out)) hb); clear HB; have HO136 := n0_; have HB := n1_; clear n0_ n1_; clear hb ho3))
  go_loopg [3, 8] k (fun kq v3 v8 w' => ∃ (x3_1 : List Int) (x8_1 : Int), v8 = .int .i64 x8_1 ∧ Aside0 (impl_places.l0 kq a0 x3_1 (a0.size : Int) x8_1 = some r) ∧ Aside0 (kq ≤ k) ∧ Aside0 (Kd.R (Kd.int .i64) 3 w' w.heap.size (fun _ => True) v3 x3_1) ∧ Aside0 (Below w.heap.size w w'))
  case atStart => exact ⟨(y134), (0), (by first | rfl | (simp; done) | (simp [*]; done)), H', ⟨Nat.le_refl _⟩, ⟨by (with_reducible repeat (first | apply Kd.R_alloc | apply Kd.R_drewN | apply Kd.R_drew)); exact HO136.out⟩, ⟨by repeat (first | (with_reducible first | exact HB.out | apply below_alloc | apply pw_below_drewN | apply below_drew1) | exact HB.out)⟩⟩
  case round =>
    clear H'
    try clear p2
    try clear c3
    obtain ⟨x3_1, x8_1, rfl, HA, HK1, HO_3, HB⟩ := hrel
    cases gk with
    | zero => exact absurd HA.out (by simp [impl_places.l0])
    | succ k1 =>
      have H := HA.out
      clear HA
      simp only [impl_places.l0] at H
      by_cases c4 : x8_1 < (a0.size : Int)
      · rw [if_pos c4] at H
        have c4b0 : decide (x8_1 < (a0.size : Int)) = true := decide_eq_true c4
        clear c4
        by_cases c5 : 0 ≤ x8_1
        · rw [if_pos c5] at H
          have c5b0 : decide (0 ≤ x8_1) = true := decide_eq_true c5
          clear c5
          by_cases c6 : x8_1 < (a0.size : Int)
          · rw [if_pos c6] at H
            have c6b0 : decide (x8_1 < (a0.size : Int)) = true := decide_eq_true c6
            clear c6
            replace H := Option.bind_eq_some_iff.mp H
            obtain ⟨t137, A80, H⟩ := H
            replace H : (if x3_1.length < 17592186044416 then (impl_places.l0 k1 a0 (x3_1 ++ [t137]) (a0.size : Int) (wrap64 (x8_1 + 1))) else (none)) = some r := H
            have A8 := Aside0.mk A80
            clear A80
            by_cases c9 : x3_1.length < 17592186044416
            · rw [if_pos c9] at H
              have LMc9 := Aside0.mk c9
              clear c9
              obtain ⟨y138, hy138⟩ : ∃ y_ : List Int, y_ = (x3_1 ++ [t137]) := ⟨_, rfl⟩
              replace H : (impl_places.l0 k1 a0 y138 (a0.size : Int) (wrap64 (x8_1 + 1))) = some r := by first | (rw [hy138]; with_reducible exact H) | (have H2_ := (Option.bind_some _ _).symm.trans H; rw [hy138]; with_reducible exact H2_) | (have H2_ := (Option.bind_some _ _).symm.trans H; with_reducible exact H2_) | with_reducible exact H | (rw [hy138]; exact H) | exact H
              have Ny138 := Aside0.mk hy138
              clear hy138
              have H' := Aside0.mk H
              clear H
              have p7 : 0 ≤ (x8_1 : Int) := of_decide_eq_true (by first | (with_reducible assumption) | assumption)
              have q7 : x8_1 < (a0.size : Int) := of_decide_eq_true (by first | (with_reducible assumption) | assumption)
              have hx7 := bt_at a0 x8_1
              replace p7 := eq_true p7
              replace q7 := eq_true q7
              go_wp2_with (first | ((with_reducible refine gate_callee (f := 32) rfl ?_); refine goesL_ (some 15) rfl rfl Tryd.func32 (by kernel_rfl) rfl #[.int .u8 (bt a0 x8_1)] rfl (by (try simp only [List.map_toArray, List.map_cons, List.map_nil]); first | done | rfl | (simp only [List.length_drop, List.length_take]; rfl)) ?_; (with_reducible refine (impl_place.calls (bt a0 x8_1) t137 _ A8.out).mono ?_); rintro e w' ⟨rfl, ⟨nd, rfl⟩⟩; refine ⟨_, rfl, ?_⟩) | ((with_reducible refine gate_builtin (b := .append) (xs := #[.tmp 11, .tmp 16]) rfl ?_); at_builtin; refine Kd.R_append (Kd.int .i64) (w0 := w) w.heap.size rfl (.tmp 11) (.tmp 16) 28 3 (.int .i64 0) 8 rfl Tryd.underlying28 info3 rfl (by decide) (by omega) u3 x3_1 t137 [.int .i64 t137] (fun _ => True) (fun _ => False) rfl rfl ?aP (fun _ hk => hk.elim) ?aF ?aO ?aB ?aS ?aL ?_; (case aP => exact rfl); (case aB => exact (by repeat (first | (with_reducible first | exact HB.out | apply below_alloc | apply pw_below_drewN | apply below_drew1) | exact HB.out))); (case aF => exact (fun _ _ => trivial)); (case aO => exact (by (with_reducible repeat (first | apply Kd.R_alloc | apply Kd.R_drewN | apply Kd.R_drew)); exact HO_3.out)); (case aS => exact (below_size (by repeat (first | (with_reducible first | exact HB.out | apply below_alloc | apply pw_below_drewN | apply below_drew1) | exact HB.out)))); (case aL => have := LMc9.out; omega); intro v139 w10 ho hb hg hat; rw [← Ny138.out] at ho; have n0_ := Aside0.mk (hb); have n1_ := Aside0.mk (ho); clear HB; clear HO_3; have HB := n0_; have HO140 := n1_; clear n0_ n1_; clear ho hb hg hat))
              go_roundg k1
              case measure => have := HK1.out; omega
              case rel => exact ⟨(y138), (wrap64 (x8_1 + 1)), (by first | rfl | (simp; done) | (simp [*]; done)), H', ⟨by have := HK1.out; omega⟩, ⟨by (with_reducible repeat (first | apply Kd.R_alloc | apply Kd.R_drewN | apply Kd.R_drew)); exact HO140.out⟩, ⟨by repeat (first | (with_reducible first | exact HB.out | apply below_alloc | apply pw_below_drewN | apply below_drew1) | exact HB.out)⟩⟩
            · rw [if_neg c9] at H
              exact absurd H (by simp)
          · rw [if_neg c6] at H
            exact absurd H (by simp)
        · rw [if_neg c5] at H
          exact absurd H (by simp)
      · rw [if_neg c4] at H
        have c4b0 : decide (x8_1 < (a0.size : Int)) = false := decide_eq_false c4
        clear c4
        obtain rfl := Option.some.inj H
        go_wp2
        go_ret
        exact ⟨_, by first | rfl | (simp [errW_none, errW_some] <;> rfl) | (simp [*, errW_none, errW_some] <;> rfl), by (with_reducible repeat (first | apply Kd.R_alloc | apply Kd.R_drewN | apply Kd.R_drew)); exact HO_3.out, by repeat (first | (with_reducible first | exact HB.out | apply below_alloc | apply pw_below_drewN | apply below_drew1) | exact HB.out)⟩

end Go.Proofs.YthnjmokaiiajmaaDoor.P

namespace Go.Proofs.YthnjmokaiiajmaaDoor.P
open Go.RowKit Go.Proofs.YthnjmokaiiajmaaDoorW.PrintWords Go.Proofs.YthnjmokaiiajmaaDoorW.PrintLast Go.Proofs.YthnjmokaiiajmaaDoorW.PrintMore
attribute [local go_sem] max2_int min2_int max_two min_two max_three min_three max_four min_four   -- for this text's walks alone
set_option linter.unusedVariables false
set_option linter.unusedSimpArgs false

/-! ### impl_size: function 40 -/
def impl_size.f (a0 : Int) : Option (Int) := some (mx a0 (wrap64 (-a0)))
set_option maxHeartbeats 8000000 in
set_option maxRecDepth 100000 in
theorem impl_size.calls (a0 : Int) (r : Int) (w : World) (h : impl_size.f a0 = some r) :
    Calls Tryd.prog 40 #[.int .i64 a0] w fun e w' => e = .returned (.int .i64 r) ∧ Below w.heap.size w w' := by
  have HB := Aside0.mk (Below.refl w.heap.size w)
  have H : (some (mx a0 (wrap64 (-a0)))) = some r := h
  clear h
  obtain ⟨ji2, hji2⟩ : ∃ j_ : Int, (mx a0 (wrap64 (-a0))) = j_ := ⟨_, rfl⟩
  replace H : (some ji2) = some r := by first | (rw [hji2] at H; exact H) | (simp only [hji2] at H ⊢; exact H)
  have hji2_ : (if a0 < (wrap64 (-a0)) then (wrap64 (-a0)) else a0) = ji2 := hji2
  obtain rfl := Option.some.inj H
  go_enter Tryd.func40, Tryd.ntmps40
  go_wp2
  go_ret
  exact ⟨by first | rfl | (simp [errW_none, errW_some] <;> rfl) | (simp only [← hji2]; first | rfl | (simp [errW_none, errW_some] <;> rfl)) | (simp [*, errW_none, errW_some] <;> rfl), by repeat (first | (with_reducible first | exact HB.out | apply below_alloc | apply pw_below_drewN | apply below_drew1) | exact HB.out)⟩

end Go.Proofs.YthnjmokaiiajmaaDoor.P

namespace Go.Proofs.YthnjmokaiiajmaaDoor.P
open Go.RowKit Go.Proofs.YthnjmokaiiajmaaDoorW.PrintWords Go.Proofs.YthnjmokaiiajmaaDoorW.PrintLast Go.Proofs.YthnjmokaiiajmaaDoorW.PrintMore
attribute [local go_sem] max2_int min2_int max_two min_two max_three min_three max_four min_four   -- for this text's walks alone
set_option linter.unusedVariables false
set_option linter.unusedSimpArgs false

/-! ### impl_distance: function 37 -/
def impl_distance.f (a0 : Int) (a1 : Int) (a2 : Bool) : Option (Int) := (impl_size.f (wrap64 ((Int.tmod a0 3) - (Int.tmod a1 3)))).bind fun t141 => ((impl_size.f (wrap64 ((wrap64 (Int.tdiv a0 3)) - (wrap64 (Int.tdiv a1 3))))).bind fun t142 => (if a2 = true then (some (mx t141 t142)) else (some (wrap64 (t141 + t142)))))
set_option maxHeartbeats 8000000 in
set_option maxRecDepth 100000 in
theorem impl_distance.calls (a0 : Int) (a1 : Int) (a2 : Bool) (r : Int) (w : World) (h : impl_distance.f a0 a1 a2 = some r) :
    Calls Tryd.prog 37 #[.int .i64 a0, .int .i64 a1, .bool a2] w fun e w' => e = .returned (.int .i64 r) ∧ Below w.heap.size w w' := by
  have HB := Aside0.mk (Below.refl w.heap.size w)
  have H : ((impl_size.f (wrap64 ((Int.tmod a0 3) - (Int.tmod a1 3)))).bind fun t141 => ((impl_size.f (wrap64 ((wrap64 (Int.tdiv a0 3)) - (wrap64 (Int.tdiv a1 3))))).bind fun t142 => (if a2 = true then (some (mx t141 t142)) else (some (wrap64 (t141 + t142)))))) = some r := h
  clear h
  replace H := Option.bind_eq_some_iff.mp H
  obtain ⟨t141, A40, H⟩ := H
  replace H : ((impl_size.f (wrap64 ((wrap64 (Int.tdiv a0 3)) - (wrap64 (Int.tdiv a1 3))))).bind fun t142 => (if a2 = true then (some (mx t141 t142)) else (some (wrap64 (t141 + t142))))) = some r := H
  have A4 := Aside0.mk A40
  clear A40
  replace H := Option.bind_eq_some_iff.mp H
  obtain ⟨t142, A50, H⟩ := H
  replace H : (if a2 = true then (some (mx t141 t142)) else (some (wrap64 (t141 + t142)))) = some r := H
  have A5 := Aside0.mk A50
  clear A50
  by_cases c6 : a2 = true
  · subst c6
    have H1 : (some (mx t141 t142)) = some r := by rw [if_pos rfl] at H; exact H
    clear H
    have H := H1
    clear H1
    obtain ⟨ji7, hji7⟩ : ∃ j_ : Int, (mx t141 t142) = j_ := ⟨_, rfl⟩
    replace H : (some ji7) = some r := by first | (rw [hji7] at H; exact H) | (simp only [hji7] at H ⊢; exact H)
    (try rw [hji7] at A4)
    (try rw [hji7] at A5)
    have hji7_ : (if t141 < t142 then t142 else t141) = ji7 := hji7
    obtain rfl := Option.some.inj H
    go_enter Tryd.func37, Tryd.ntmps37
    go_wp2_with (first | ((with_reducible refine gate_callee (f := 40) rfl ?_); refine goesL_ (some 14) rfl rfl Tryd.func40 (by kernel_rfl) rfl #[.int .i64 (wrap64 ((Int.tmod a0 3) - (Int.tmod a1 3)))] rfl (by (try simp only [List.map_toArray, List.map_cons, List.map_nil]); first | done | rfl | (simp only [List.length_drop, List.length_take]; rfl)) ?_; (with_reducible refine (impl_size.calls (wrap64 ((Int.tmod a0 3) - (Int.tmod a1 3))) t141 _ A4.out).mono ?_); rintro e w8 ⟨rfl, hb⟩; refine ⟨_, rfl, ?_⟩; have n0_ := Aside0.mk (below_step (by repeat (first | (with_reducible first | exact HB.out | apply below_alloc | apply pw_below_drewN | apply below_drew1) | exact HB.out)) hb); clear HB; have HB := n0_; clear n0_; (try clear hb); (try clear hb2); (try clear hk); (try clear hi)) | ((with_reducible refine gate_callee (f := 40) rfl ?_); refine goesL_ (some 20) rfl rfl Tryd.func40 (by kernel_rfl) rfl #[.int .i64 (wrap64 ((wrap64 (Int.tdiv a0 3)) - (wrap64 (Int.tdiv a1 3))))] rfl (by (try simp only [List.map_toArray, List.map_cons, List.map_nil]); first | done | rfl | (simp only [List.length_drop, List.length_take]; rfl)) ?_; (with_reducible refine (impl_size.calls (wrap64 ((wrap64 (Int.tdiv a0 3)) - (wrap64 (Int.tdiv a1 3)))) t142 _ A5.out).mono ?_); rintro e w9 ⟨rfl, hb⟩; refine ⟨_, rfl, ?_⟩; have n0_ := Aside0.mk (below_step (by repeat (first | (with_reducible first | exact HB.out | apply below_alloc | apply pw_below_drewN | apply below_drew1) | exact HB.out)) hb); clear HB; have HB := n0_; clear n0_; (try clear hb); (try clear hb2); (try clear hk); (try clear hi)))
    go_ret
    exact ⟨by first | rfl | (simp [errW_none, errW_some] <;> rfl) | (simp only [← hji7]; first | rfl | (simp [errW_none, errW_some] <;> rfl)) | (simp [*, errW_none, errW_some] <;> rfl), by repeat (first | (with_reducible first | exact HB.out | apply below_alloc | apply pw_below_drewN | apply below_drew1) | exact HB.out)⟩
  · replace c6 := Bool.eq_false_iff.mpr c6
    subst c6
    have H1 : (some (wrap64 (t141 + t142))) = some r := by rw [if_neg (show ¬ (false = true) by decide)] at H; exact H
    clear H
    have H := H1
    clear H1
    obtain rfl := Option.some.inj H
    go_enter Tryd.func37, Tryd.ntmps37
    go_wp2_with (first | ((with_reducible refine gate_callee (f := 40) rfl ?_); refine goesL_ (some 14) rfl rfl Tryd.func40 (by kernel_rfl) rfl #[.int .i64 (wrap64 ((Int.tmod a0 3) - (Int.tmod a1 3)))] rfl (by (try simp only [List.map_toArray, List.map_cons, List.map_nil]); first | done | rfl | (simp only [List.length_drop, List.length_take]; rfl)) ?_; (with_reducible refine (impl_size.calls (wrap64 ((Int.tmod a0 3) - (Int.tmod a1 3))) t141 _ A4.out).mono ?_); rintro e w10 ⟨rfl, hb⟩; refine ⟨_, rfl, ?_⟩; have n0_ := Aside0.mk (below_step (by repeat (first | (with_reducible first | exact HB.out | apply below_alloc | apply pw_below_drewN | apply below_drew1) | exact HB.out)) hb); clear HB; have HB := n0_; clear n0_; (try clear hb); (try clear hb2); (try clear hk); (try clear hi)) | ((with_reducible refine gate_callee (f := 40) rfl ?_); refine goesL_ (some 20) rfl rfl Tryd.func40 (by kernel_rfl) rfl #[.int .i64 (wrap64 ((wrap64 (Int.tdiv a0 3)) - (wrap64 (Int.tdiv a1 3))))] rfl (by (try simp only [List.map_toArray, List.map_cons, List.map_nil]); first | done | rfl | (simp only [List.length_drop, List.length_take]; rfl)) ?_; (with_reducible refine (impl_size.calls (wrap64 ((wrap64 (Int.tdiv a0 3)) - (wrap64 (Int.tdiv a1 3)))) t142 _ A5.out).mono ?_); rintro e w11 ⟨rfl, hb⟩; refine ⟨_, rfl, ?_⟩; have n0_ := Aside0.mk (below_step (by repeat (first | (with_reducible first | exact HB.out | apply below_alloc | apply pw_below_drewN | apply below_drew1) | exact HB.out)) hb); clear HB; have HB := n0_; clear n0_; (try clear hb); (try clear hb2); (try clear hk); (try clear hi)))
    go_ret
    exact ⟨by first | rfl | (simp [errW_none, errW_some] <;> rfl) | (simp [*, errW_none, errW_some] <;> rfl), by repeat (first | (with_reducible first | exact HB.out | apply below_alloc | apply pw_below_drewN | apply below_drew1) | exact HB.out)⟩

end Go.Proofs.YthnjmokaiiajmaaDoor.P

namespace Go.Proofs.YthnjmokaiiajmaaDoor.P
open Go.RowKit Go.Proofs.YthnjmokaiiajmaaDoorW.PrintWords Go.Proofs.YthnjmokaiiajmaaDoorW.PrintLast Go.Proofs.YthnjmokaiiajmaaDoorW.PrintMore
attribute [local go_sem] max2_int min2_int max_two min_two max_three min_three max_four min_four   -- for this text's walks alone
set_option linter.unusedVariables false
set_option linter.unusedSimpArgs false

/-! ### impl_thumbs_moved: function 28 -/
def impl_thumbs_moved.f (a0_0 : Int) (a0_1 : Int) (a1 : Int) (a2 : Int) (a3 : Bool) : Option (Int × Int × Int) := if a1 = 0 then ((impl_distance.f a0_0 a2 a3).bind fun t145 => (some (a2, a0_1, t145))) else ((impl_distance.f a0_1 a2 a3).bind fun t146 => (some (a0_0, a2, t146)))
def impl_thumbs_moved.T2 : Bool × List (List Nat × List Nat) := (true, [([], []), ([], []), ([1], [1]), ([0, 2], [0, 2]), ([], []), ([4], [4]), ([], []), ([], []), ([5, 6, 7], [5, 6, 7]), ([3, 8, 0, 1, 2, 3], [3]), ([8, 9, 0, 1, 2, 3, 4, 5, 6, 7, 8, 9], [8])])
def impl_thumbs_moved.B2 : List Nat := [0, 0, 2, 7, 0, 16, 0, 0, 240, 511, 1023]
theorem impl_thumbs_moved.tab2 : rtab .any (opsOf Tryd.f28 2) = impl_thumbs_moved.T2 := by kernel_rfl
theorem impl_thumbs_moved.bits2 : waitsOk impl_thumbs_moved.T2.2 impl_thumbs_moved.B2 = true := by kernel_rfl
def impl_thumbs_moved.T3 : Bool × List (List Nat × List Nat) := (true, [([], []), ([0], [0]), ([], []), ([1, 2], [1, 2]), ([], []), ([4], [4]), ([], []), ([], []), ([5, 6, 7], [5, 6, 7]), ([3, 8, 0, 1, 2, 3], [3]), ([8, 9, 0, 1, 2, 3, 4, 5, 6, 7, 8, 9], [8])])
def impl_thumbs_moved.B3 : List Nat := [0, 1, 0, 7, 0, 16, 0, 0, 240, 511, 1023]
theorem impl_thumbs_moved.tab3 : rtab .any (opsOf Tryd.f28 3) = impl_thumbs_moved.T3 := by kernel_rfl
theorem impl_thumbs_moved.bits3 : waitsOk impl_thumbs_moved.T3.2 impl_thumbs_moved.B3 = true := by kernel_rfl
set_option maxHeartbeats 8000000 in
set_option maxRecDepth 100000 in
theorem impl_thumbs_moved.calls (a0_0 : Int) (a0_1 : Int) (a1 : Int) (a2 : Int) (a3 : Bool) (r1 : Int) (r2 : Int) (r3 : Int) (w : World) (h : impl_thumbs_moved.f a0_0 a0_1 a1 a2 a3 = some (r1, r2, r3)) :
    Calls Tryd.prog 28 #[.agg #[.int .i64 a0_0, .int .i64 a0_1], .int .i64 a1, .int .i64 a2, .bool a3] w fun e w' => e = .returned (.tuple #[.agg #[.int .i64 r1, .int .i64 r2], .int .i64 r3]) ∧ Below w.heap.size w w' := by
  have hu39 := Tryd.underlying39
  have HB := Aside0.mk (Below.refl w.heap.size w)
  have H : (if a1 = 0 then ((impl_distance.f a0_0 a2 a3).bind fun t145 => (some (a2, a0_1, t145))) else ((impl_distance.f a0_1 a2 a3).bind fun t146 => (some (a0_0, a2, t146)))) = some (r1, r2, r3) := h
  clear h
  by_cases c5 : a1 = 0
  · rw [if_pos c5] at H
    have c5b0 : (a1 == 0) = true := beq_iff_eq.mpr c5
    have c5b1 : (a1 != 0) = false := bne_eq_false_iff_eq.mpr c5
    clear c5
    replace H := Option.bind_eq_some_iff.mp H
    obtain ⟨t145, A60, H⟩ := H
    replace H : (some (a2, a0_1, t145)) = some (r1, r2, r3) := H
    have A6 := Aside0.mk A60
    clear A60
    simp only [Option.some.injEq, Prod.mk.injEq] at H
    obtain ⟨rfl, rfl, rfl⟩ := H
    go_enter Tryd.func28, Tryd.ntmps28
    try go_wp2_with (first | ((with_reducible refine gate_dst (N := 4) rfl ?_); refine box_event ?hg (N := 4) ?hd (cs := #[.int .i64 a0_0, .int .i64 a0_1]) (t := 39) ?hr ?_; (case hd => rfl); (case hg => rfl); (case hr => first | (go_simp; done) | (go_simp; rfl)); intro gb143 hg w7 hbox hb; have n0_ := Aside0.mk (below_step (by repeat (first | (with_reducible first | exact HB.out | apply below_alloc | apply pw_below_drewN | apply below_drew1) | exact HB.out)) hb); have n1_ := Aside0.mk (hbox); have n2_ := Aside0.mk ((by rw [hg]; exact (below_size (by repeat (first | (with_reducible first | exact HB.out | apply below_alloc | apply pw_below_drewN | apply below_drew1) | exact HB.out))) : w.heap.size ≤ gb143)); have n3_ := Aside0.mk ((by rw [hg]; exact (below_size (by repeat (first | (with_reducible first | exact HB.out | apply below_alloc | apply pw_below_drewN | apply below_drew1) | exact HB.out))) : w.heap.size ≤ gb143)); clear HB; have HB := n0_; have BK143 := n1_; have GW143 := n2_; have GE143 := n3_; clear n0_ n1_ n2_ n3_; clear hb hbox hg) | ((with_reducible refine gate_dst (N := 8) rfl ?_); refine box_event ?hg (N := 8) ?hd (cs := #[.int .i64 0, .int .i64 0]) (t := 39) ?hr ?_; (case hd => rfl); (case hg => rfl); (case hr => first | (go_simp; done) | (go_simp; rfl)); intro gb144 hg w8 hbox hb; have n0_ := Aside0.mk (blk_below (g := gb143) (o := .cells #[.int .i64 a0_0, .int .i64 a0_1] 39 (0, 0)) (by (with_reducible repeat (first | refine blk_drewN ?_ _ | refine blk_drew ?_ | refine blk_alloc ?_ _)); exact BK143.out) hb); have n1_ := Aside0.mk (below_step (by repeat (first | (with_reducible first | exact HB.out | apply below_alloc | apply pw_below_drewN | apply below_drew1 | refine below_set ?_ GE143.out) | exact HB.out)) hb); have n2_ := Aside0.mk (hbox); have n3_ := Aside0.mk ((by rw [hg]; exact (below_size (by repeat (first | (with_reducible first | exact HB.out | apply below_alloc | apply pw_below_drewN | apply below_drew1 | refine below_set ?_ GE143.out) | exact HB.out))) : w.heap.size ≤ gb144)); have n4_ := Aside0.mk ((by rw [hg]; exact (below_size (by repeat (first | (with_reducible first | exact HB.out | apply below_alloc | apply pw_below_drewN | apply below_drew1 | refine below_set ?_ GE143.out) | exact HB.out))) : w.heap.size ≤ gb144)); have n5_ := Aside0.mk ((by rw [hg]; exact Nat.ne_of_lt (blk_lt (g := gb143) (o := .cells #[.int .i64 a0_0, .int .i64 a0_1] 39 (0, 0)) (by (with_reducible repeat (first | refine blk_drewN ?_ _ | refine blk_drew ?_ | refine blk_alloc ?_ _)); exact BK143.out)) : gb143 ≠ gb144)); have n6_ := Aside0.mk ((by rw [hg]; exact Nat.ne_of_gt (blk_lt (g := gb143) (o := .cells #[.int .i64 a0_0, .int .i64 a0_1] 39 (0, 0)) (by (with_reducible repeat (first | refine blk_drewN ?_ _ | refine blk_drew ?_ | refine blk_alloc ?_ _)); exact BK143.out)) : gb144 ≠ gb143)); clear BK143; clear HB; have BK143 := n0_; have HB := n1_; have BK144 := n2_; have GW144 := n3_; have GE144 := n4_; have NB143_144 := n5_; have NB144_143 := n6_; clear n0_ n1_ n2_ n3_ n4_ n5_ n6_; clear hb hbox hg))
    have n0_ := Aside0.mk (blk_drew BK143.out)
    have n1_ := Aside0.mk (blk_drew BK144.out)
    have n2_ := Aside0.mk (below_drew1 HB.out)
    clear BK143
    clear BK144
    clear HB
    have BK143 := n0_
    have BK144 := n1_
    have HB := n2_
    clear n0_ n1_ n2_
    refine start_ (n := 11) (S := fun w' => w'.cell? ⟨gb143, 0, none⟩ = some (.int .i64 a0_0) ∧ w'.cell? ⟨gb143, 1, none⟩ = some (.int .i64 a0_1)) (ds := []) #[false, false, false, false, false, false, false, false, false, false, false] (by kernel_rfl) rfl rfl ⟨(blk_cell BK143.out 0).trans rfl, (blk_cell BK143.out 1).trans rfl⟩ (fun hHeld => ?_); refine with_tabW impl_thumbs_moved.tab2 impl_thumbs_moved.bits2 (fun HT_ HW_ => ?_)
    generalize w8.drew = w9 at BK143 BK144 HB hHeld ⊢
    refine pure_ (i := 0) (N := some 12) (v := ?_) (a' := ?_) #[true, false, false, false, false, false, false, false, false, false, false] rfl rfl (any_of HT_.out (by kernel_rfl)) (fun _ _ _ h => h) (Or.inl ⟨by rfl, ?_⟩) ?_ ?_
    rotate_left
    · intro w'
      go_simp
      with_reducible rfl
    rotate_left
    · simp only [Act.put, List.setIfInBounds_toArray, List.set_cons_zero, List.set_cons_succ, i64_w, i32_w]
      rfl
    refine pure_ (i := 1) (N := some 13) (v := ?_) (a' := ?_) #[true, true, false, false, false, false, false, false, false, false, false] rfl rfl (any_of HT_.out (by kernel_rfl)) (fun _ _ _ h => h) (Or.inl ⟨by rfl, ?_⟩) ?_ ?_
    rotate_left
    · intro w'
      go_simp
      with_reducible rfl
    rotate_left
    · simp only [Act.put, List.setIfInBounds_toArray, List.set_cons_zero, List.set_cons_succ, i64_w, i32_w]
      rfl
    refine pure_ (i := 4) (N := some 16) (v := ?_) (a' := ?_) #[true, true, false, false, true, false, false, false, false, false, false] rfl rfl (any_of HT_.out (by kernel_rfl)) (fun _ _ _ h => h) (Or.inl ⟨by rfl, ?_⟩) ?_ ?_
    rotate_left
    · intro w'
      go_simp
      with_reducible rfl
    rotate_left
    · simp only [Act.put, List.setIfInBounds_toArray, List.set_cons_zero, List.set_cons_succ, i64_w, i32_w]
      rfl
    refine pure_ (i := 6) (N := some 18) (v := ?_) (a' := ?_) #[true, true, false, false, true, false, true, false, false, false, false] rfl rfl (any_of HT_.out (by kernel_rfl)) (fun _ _ _ h => h) (Or.inl ⟨by rfl, ?_⟩) ?_ ?_
    rotate_left
    · intro w'
      go_simp
      with_reducible rfl
    rotate_left
    · simp only [Act.put, List.setIfInBounds_toArray, List.set_cons_zero, List.set_cons_succ, i64_w, i32_w]
      rfl
    refine pure_ (i := 7) (N := some 19) (v := ?_) (a' := ?_) #[true, true, false, false, true, false, true, true, false, false, false] rfl rfl (any_of HT_.out (by kernel_rfl)) (fun _ _ _ h => h) (Or.inl ⟨by rfl, ?_⟩) ?_ ?_
    rotate_left
    · intro w'
      go_simp
      with_reducible rfl
    rotate_left
    · simp only [Act.put, List.setIfInBounds_toArray, List.set_cons_zero, List.set_cons_succ, i64_w, i32_w]
      rfl
    refine take_ (i := 2) (N := some 14) (v := ?_) (a' := ?_) #[true, true, true, false, true, false, true, true, false, false, false] rfl rfl (take_ofW HT_.out HW_.out (by kernel_rfl)) (fun _ _ _ h => h) (Or.inl ⟨by rfl, ?_⟩) hHeld ?_ ?_
    rotate_left
    · rintro w' ⟨s0, s1⟩
      go_simp
      with_reducible rfl
    rotate_left
    · simp only [Act.put, List.setIfInBounds_toArray, List.set_cons_zero, List.set_cons_succ, i64_w, i32_w]
      rfl
    refine pure_ (i := 3) (N := some 15) (v := ?_) (a' := ?_) #[true, true, true, true, true, false, true, true, false, false, false] rfl rfl (any_of HT_.out (by kernel_rfl)) (fun _ _ _ h => h) (Or.inl ⟨by rfl, ?_⟩) ?_ ?_
    rotate_left
    · intro w'
      go_simp
      with_reducible rfl
    rotate_left
    · simp only [Act.put, List.setIfInBounds_toArray, List.set_cons_zero, List.set_cons_succ, i64_w, i32_w]
      rfl
    refine take_ (i := 5) (N := some 17) (v := ?_) (a' := ?_) #[true, true, true, true, true, true, true, true, false, false, false] rfl rfl (take_ofW HT_.out HW_.out (by kernel_rfl)) (fun _ _ _ h => h) (Or.inl ⟨by rfl, ?_⟩) hHeld ?_ ?_
    rotate_left
    · rintro w' ⟨s0, s1⟩
      go_simp
      with_reducible rfl
    rotate_left
    · simp only [Act.put, List.setIfInBounds_toArray, List.set_cons_zero, List.set_cons_succ, i64_w, i32_w]
      rfl
    refine one_ (i := 8) (N := some 20) #[true, true, true, true, true, true, true, true, true, false, false] rfl rfl (one_of HT_.out (by kernel_rfl)) (by decide) (fun K hK => ?_)
    refine goes_ Tryd.func37 (by kernel_rfl) rfl #[.int .i64 a0_0, .int .i64 a2, .bool a3] (by rfl) rfl rfl (by (try simp only [List.map_toArray, List.map_cons, List.map_nil]); first | done | rfl | (simp only [List.length_drop, List.length_take]; rfl)) ?_
    with_reducible refine (impl_distance.calls a0_0 a2 a3 t145 _ A6.out).mono ?_
    rintro e w10 ⟨rfl, hb⟩
    refine ⟨_, rfl, ?_⟩
    have n0_ := Aside0.mk (blk_below (g := gb143) (o := .cells #[.int .i64 a0_0, .int .i64 a0_1] 39 (0, 0)) (by (with_reducible repeat (first | refine blk_drewN ?_ _ | refine blk_drew ?_ | refine blk_alloc ?_ _)); exact BK143.out) hb)
    have n1_ := Aside0.mk (blk_below (g := gb144) (o := .cells #[.int .i64 0, .int .i64 0] 39 (0, 0)) (by (with_reducible repeat (first | refine blk_drewN ?_ _ | refine blk_drew ?_ | refine blk_alloc ?_ _)); exact BK144.out) hb)
    have n2_ := Aside0.mk (below_step (by repeat (first | (with_reducible first | exact HB.out | apply below_alloc | apply pw_below_drewN | apply below_drew1 | refine below_set ?_ GE143.out | refine below_set ?_ GE144.out) | exact HB.out)) hb)
    clear BK143
    clear BK144
    clear HB
    have BK143 := n0_
    have BK144 := n1_
    have HB := n2_
    clear n0_ n1_ n2_
    (try clear hb)
    (try clear hb2)
    (try clear hk)
    (try clear hi)
    refine hK.out _ _ ⟨(blk_cell BK143.out 0).trans rfl, (blk_cell BK143.out 1).trans rfl⟩ (fun hHeld => ?_)
    clear hK K
    refine norm_ (a' := ?_) ?_ ?_
    rotate_left
    · show Act.put _ (some 20) _ = _
      simp only [Act.put, List.setIfInBounds_toArray, List.set_cons_zero, List.set_cons_succ, i64_w, i32_w]
      rfl
    refine one_ (i := 9) (N := none) #[true, true, true, true, true, true, true, true, true, true, false] rfl rfl (one_of HT_.out (by kernel_rfl)) (by decide) (fun K hK => ?_)
    have hs11 : w10.cell? ⟨gb144, 0, none⟩ = some (.int .i64 0) := (blk_cell BK144.out 0).trans rfl
    have hfs11 := blk_frozen BK144.out 0
    have hns11_0 := NB143_144.out
    have hms11_0 := NB144_143.out
    have hs12 : w10.cell? ⟨gb144, 1, none⟩ = some (.int .i64 0) := (blk_cell BK144.out 1).trans rfl
    have hfs12 := blk_frozen BK144.out 1
    have hns12_0 := NB143_144.out
    have hms12_0 := NB144_143.out
    refine skip_ (w1 := ?_) (by rfl) rfl ?_ ?_
    rotate_left
    · go_simp
      rfl
    refine hK.out _ _ ⟨((cell_far (p := ⟨gb144, _, none⟩) NB143_144.out _).trans (((cell_far (p := ⟨gb144, _, none⟩) NB143_144.out _).trans (hHeld.1)))), ((cell_far (p := ⟨gb144, _, none⟩) NB143_144.out _).trans (((cell_far (p := ⟨gb144, _, none⟩) NB143_144.out _).trans (hHeld.2))))⟩ (fun hHeld => ?_)
    clear hK K
    refine pure_ (i := 10) (N := some 9) (v := ?_) (a' := ?_) #[true, true, true, true, true, true, true, true, true, true, true] rfl rfl (any_of HT_.out (by kernel_rfl)) (fun _ _ _ h => h) (Or.inl ⟨by rfl, ?_⟩) ?_ ?_
    rotate_left
    · intro w'
      go_simp
      with_reducible rfl
    rotate_left
    · simp only [Act.put, List.setIfInBounds_toArray, List.set_cons_zero, List.set_cons_succ, i64_w, i32_w]
      rfl
    refine done_ (done_of HT_.out (by kernel_rfl)) ?_
    try go_wp2
    refine bodyPost_ret (results_ct rfl _ _ gb144 39 #[.int .i64 a2, .int .i64 a0_1] (0, 0) _ rfl (by (with_reducible repeat (first | refine blk_drewN ?_ _ | refine blk_drew ?_ | refine blk_alloc ?_ _)); refine blk_put (cs := #[.int .i64 a2, .int .i64 0]) ?_ 1 _ rfl; (with_reducible repeat (first | refine blk_drewN ?_ _ | refine blk_drew ?_ | refine blk_alloc ?_ _)); refine blk_put (cs := #[.int .i64 0, .int .i64 0]) ?_ 0 _ rfl; (with_reducible repeat (first | refine blk_drewN ?_ _ | refine blk_drew ?_ | refine blk_alloc ?_ _)); exact BK144.out) Tryd.underlying39 rfl (by kernel_rfl)) rfl ?_
    exact ⟨by first | rfl | (simp [errW_none, errW_some] <;> rfl) | (simp [*, errW_none, errW_some] <;> rfl), by repeat (first | (with_reducible first | exact HB.out | apply below_alloc | apply pw_below_drewN | apply below_drew1 | refine below_set ?_ GE143.out | refine below_set ?_ GE144.out) | exact HB.out)⟩
  · rw [if_neg c5] at H
    have c5b0 : (a1 == 0) = false := beq_eq_false_iff_ne.mpr c5
    have c5b1 : (a1 != 0) = true := bne_iff_ne.mpr c5
    replace H := Option.bind_eq_some_iff.mp H
    obtain ⟨t146, A130, H⟩ := H
    replace H : (some (a0_0, a2, t146)) = some (r1, r2, r3) := H
    have A13 := Aside0.mk A130
    clear A130
    simp only [Option.some.injEq, Prod.mk.injEq] at H
    obtain ⟨rfl, rfl, rfl⟩ := H
    go_enter Tryd.func28, Tryd.ntmps28
    try go_wp2_with (first | ((with_reducible refine gate_dst (N := 4) rfl ?_); refine box_event ?hg (N := 4) ?hd (cs := #[.int .i64 a0_0, .int .i64 a0_1]) (t := 39) ?hr ?_; (case hd => rfl); (case hg => rfl); (case hr => first | (go_simp; done) | (go_simp; rfl)); intro gb143 hg w14 hbox hb; have n0_ := Aside0.mk (below_step (by repeat (first | (with_reducible first | exact HB.out | apply below_alloc | apply pw_below_drewN | apply below_drew1) | exact HB.out)) hb); have n1_ := Aside0.mk (hbox); have n2_ := Aside0.mk ((by rw [hg]; exact (below_size (by repeat (first | (with_reducible first | exact HB.out | apply below_alloc | apply pw_below_drewN | apply below_drew1) | exact HB.out))) : w.heap.size ≤ gb143)); have n3_ := Aside0.mk ((by rw [hg]; exact (below_size (by repeat (first | (with_reducible first | exact HB.out | apply below_alloc | apply pw_below_drewN | apply below_drew1) | exact HB.out))) : w.heap.size ≤ gb143)); clear HB; have HB := n0_; have BK143 := n1_; have GW143 := n2_; have GE143 := n3_; clear n0_ n1_ n2_ n3_; clear hb hbox hg) | ((with_reducible refine gate_dst (N := 8) rfl ?_); refine box_event ?hg (N := 8) ?hd (cs := #[.int .i64 0, .int .i64 0]) (t := 39) ?hr ?_; (case hd => rfl); (case hg => rfl); (case hr => first | (go_simp; done) | (go_simp; rfl)); intro gb144 hg w15 hbox hb; have n0_ := Aside0.mk (blk_below (g := gb143) (o := .cells #[.int .i64 a0_0, .int .i64 a0_1] 39 (0, 0)) (by (with_reducible repeat (first | refine blk_drewN ?_ _ | refine blk_drew ?_ | refine blk_alloc ?_ _)); exact BK143.out) hb); have n1_ := Aside0.mk (below_step (by repeat (first | (with_reducible first | exact HB.out | apply below_alloc | apply pw_below_drewN | apply below_drew1 | refine below_set ?_ GE143.out) | exact HB.out)) hb); have n2_ := Aside0.mk (hbox); have n3_ := Aside0.mk ((by rw [hg]; exact (below_size (by repeat (first | (with_reducible first | exact HB.out | apply below_alloc | apply pw_below_drewN | apply below_drew1 | refine below_set ?_ GE143.out) | exact HB.out))) : w.heap.size ≤ gb144)); have n4_ := Aside0.mk ((by rw [hg]; exact (below_size (by repeat (first | (with_reducible first | exact HB.out | apply below_alloc | apply pw_below_drewN | apply below_drew1 | refine below_set ?_ GE143.out) | exact HB.out))) : w.heap.size ≤ gb144)); have n5_ := Aside0.mk ((by rw [hg]; exact Nat.ne_of_lt (blk_lt (g := gb143) (o := .cells #[.int .i64 a0_0, .int .i64 a0_1] 39 (0, 0)) (by (with_reducible repeat (first | refine blk_drewN ?_ _ | refine blk_drew ?_ | refine blk_alloc ?_ _)); exact BK143.out)) : gb143 ≠ gb144)); have n6_ := Aside0.mk ((by rw [hg]; exact Nat.ne_of_gt (blk_lt (g := gb143) (o := .cells #[.int .i64 a0_0, .int .i64 a0_1] 39 (0, 0)) (by (with_reducible repeat (first | refine blk_drewN ?_ _ | refine blk_drew ?_ | refine blk_alloc ?_ _)); exact BK143.out)) : gb144 ≠ gb143)); clear BK143; clear HB; have BK143 := n0_; have HB := n1_; have BK144 := n2_; have GW144 := n3_; have GE144 := n4_; have NB143_144 := n5_; have NB144_143 := n6_; clear n0_ n1_ n2_ n3_ n4_ n5_ n6_; clear hb hbox hg))
    have n0_ := Aside0.mk (blk_drew BK143.out)
    have n1_ := Aside0.mk (blk_drew BK144.out)
    have n2_ := Aside0.mk (below_drew1 HB.out)
    clear BK143
    clear BK144
    clear HB
    have BK143 := n0_
    have BK144 := n1_
    have HB := n2_
    clear n0_ n1_ n2_
    refine start_ (n := 11) (S := fun w' => w'.cell? ⟨gb143, 0, none⟩ = some (.int .i64 a0_0) ∧ w'.cell? ⟨gb143, 1, none⟩ = some (.int .i64 a0_1)) (ds := []) #[false, false, false, false, false, false, false, false, false, false, false] (by kernel_rfl) rfl rfl ⟨(blk_cell BK143.out 0).trans rfl, (blk_cell BK143.out 1).trans rfl⟩ (fun hHeld => ?_); refine with_tabW impl_thumbs_moved.tab3 impl_thumbs_moved.bits3 (fun HT_ HW_ => ?_)
    generalize w15.drew = w16 at BK143 BK144 HB hHeld ⊢
    refine pure_ (i := 0) (N := some 21) (v := ?_) (a' := ?_) #[true, false, false, false, false, false, false, false, false, false, false] rfl rfl (any_of HT_.out (by kernel_rfl)) (fun _ _ _ h => h) (Or.inl ⟨by rfl, ?_⟩) ?_ ?_
    rotate_left
    · intro w'
      go_simp
      with_reducible rfl
    rotate_left
    · simp only [Act.put, List.setIfInBounds_toArray, List.set_cons_zero, List.set_cons_succ, i64_w, i32_w]
      rfl
    refine pure_ (i := 2) (N := some 23) (v := ?_) (a' := ?_) #[true, false, true, false, false, false, false, false, false, false, false] rfl rfl (any_of HT_.out (by kernel_rfl)) (fun _ _ _ h => h) (Or.inl ⟨by rfl, ?_⟩) ?_ ?_
    rotate_left
    · intro w'
      go_simp
      with_reducible rfl
    rotate_left
    · simp only [Act.put, List.setIfInBounds_toArray, List.set_cons_zero, List.set_cons_succ, i64_w, i32_w]
      rfl
    refine pure_ (i := 4) (N := some 25) (v := ?_) (a' := ?_) #[true, false, true, false, true, false, false, false, false, false, false] rfl rfl (any_of HT_.out (by kernel_rfl)) (fun _ _ _ h => h) (Or.inl ⟨by rfl, ?_⟩) ?_ ?_
    rotate_left
    · intro w'
      go_simp
      with_reducible rfl
    rotate_left
    · simp only [Act.put, List.setIfInBounds_toArray, List.set_cons_zero, List.set_cons_succ, i64_w, i32_w]
      rfl
    refine pure_ (i := 6) (N := some 27) (v := ?_) (a' := ?_) #[true, false, true, false, true, false, true, false, false, false, false] rfl rfl (any_of HT_.out (by kernel_rfl)) (fun _ _ _ h => h) (Or.inl ⟨by rfl, ?_⟩) ?_ ?_
    rotate_left
    · intro w'
      go_simp
      with_reducible rfl
    rotate_left
    · simp only [Act.put, List.setIfInBounds_toArray, List.set_cons_zero, List.set_cons_succ, i64_w, i32_w]
      rfl
    refine pure_ (i := 7) (N := some 28) (v := ?_) (a' := ?_) #[true, false, true, false, true, false, true, true, false, false, false] rfl rfl (any_of HT_.out (by kernel_rfl)) (fun _ _ _ h => h) (Or.inl ⟨by rfl, ?_⟩) ?_ ?_
    rotate_left
    · intro w'
      go_simp
      with_reducible rfl
    rotate_left
    · simp only [Act.put, List.setIfInBounds_toArray, List.set_cons_zero, List.set_cons_succ, i64_w, i32_w]
      rfl
    refine take_ (i := 1) (N := some 22) (v := ?_) (a' := ?_) #[true, true, true, false, true, false, true, true, false, false, false] rfl rfl (take_ofW HT_.out HW_.out (by kernel_rfl)) (fun _ _ _ h => h) (Or.inl ⟨by rfl, ?_⟩) hHeld ?_ ?_
    rotate_left
    · rintro w' ⟨s0, s1⟩
      go_simp
      with_reducible rfl
    rotate_left
    · simp only [Act.put, List.setIfInBounds_toArray, List.set_cons_zero, List.set_cons_succ, i64_w, i32_w]
      rfl
    refine pure_ (i := 3) (N := some 24) (v := ?_) (a' := ?_) #[true, true, true, true, true, false, true, true, false, false, false] rfl rfl (any_of HT_.out (by kernel_rfl)) (fun _ _ _ h => h) (Or.inl ⟨by rfl, ?_⟩) ?_ ?_
    rotate_left
    · intro w'
      go_simp
      with_reducible rfl
    rotate_left
    · simp only [Act.put, List.setIfInBounds_toArray, List.set_cons_zero, List.set_cons_succ, i64_w, i32_w]
      rfl
    refine take_ (i := 5) (N := some 26) (v := ?_) (a' := ?_) #[true, true, true, true, true, true, true, true, false, false, false] rfl rfl (take_ofW HT_.out HW_.out (by kernel_rfl)) (fun _ _ _ h => h) (Or.inl ⟨by rfl, ?_⟩) hHeld ?_ ?_
    rotate_left
    · rintro w' ⟨s0, s1⟩
      go_simp
      with_reducible rfl
    rotate_left
    · simp only [Act.put, List.setIfInBounds_toArray, List.set_cons_zero, List.set_cons_succ, i64_w, i32_w]
      rfl
    refine one_ (i := 8) (N := some 29) #[true, true, true, true, true, true, true, true, true, false, false] rfl rfl (one_of HT_.out (by kernel_rfl)) (by decide) (fun K hK => ?_)
    refine goes_ Tryd.func37 (by kernel_rfl) rfl #[.int .i64 a0_1, .int .i64 a2, .bool a3] (by rfl) rfl rfl (by (try simp only [List.map_toArray, List.map_cons, List.map_nil]); first | done | rfl | (simp only [List.length_drop, List.length_take]; rfl)) ?_
    with_reducible refine (impl_distance.calls a0_1 a2 a3 t146 _ A13.out).mono ?_
    rintro e w17 ⟨rfl, hb⟩
    refine ⟨_, rfl, ?_⟩
    have n0_ := Aside0.mk (blk_below (g := gb143) (o := .cells #[.int .i64 a0_0, .int .i64 a0_1] 39 (0, 0)) (by (with_reducible repeat (first | refine blk_drewN ?_ _ | refine blk_drew ?_ | refine blk_alloc ?_ _)); exact BK143.out) hb)
    have n1_ := Aside0.mk (blk_below (g := gb144) (o := .cells #[.int .i64 0, .int .i64 0] 39 (0, 0)) (by (with_reducible repeat (first | refine blk_drewN ?_ _ | refine blk_drew ?_ | refine blk_alloc ?_ _)); exact BK144.out) hb)
    have n2_ := Aside0.mk (below_step (by repeat (first | (with_reducible first | exact HB.out | apply below_alloc | apply pw_below_drewN | apply below_drew1 | refine below_set ?_ GE143.out | refine below_set ?_ GE144.out) | exact HB.out)) hb)
    clear BK143
    clear BK144
    clear HB
    have BK143 := n0_
    have BK144 := n1_
    have HB := n2_
    clear n0_ n1_ n2_
    (try clear hb)
    (try clear hb2)
    (try clear hk)
    (try clear hi)
    refine hK.out _ _ ⟨(blk_cell BK143.out 0).trans rfl, (blk_cell BK143.out 1).trans rfl⟩ (fun hHeld => ?_)
    clear hK K
    refine norm_ (a' := ?_) ?_ ?_
    rotate_left
    · show Act.put _ (some 29) _ = _
      simp only [Act.put, List.setIfInBounds_toArray, List.set_cons_zero, List.set_cons_succ, i64_w, i32_w]
      rfl
    refine one_ (i := 9) (N := none) #[true, true, true, true, true, true, true, true, true, true, false] rfl rfl (one_of HT_.out (by kernel_rfl)) (by decide) (fun K hK => ?_)
    have hs18 : w17.cell? ⟨gb144, 0, none⟩ = some (.int .i64 0) := (blk_cell BK144.out 0).trans rfl
    have hfs18 := blk_frozen BK144.out 0
    have hns18_0 := NB143_144.out
    have hms18_0 := NB144_143.out
    have hs19 : w17.cell? ⟨gb144, 1, none⟩ = some (.int .i64 0) := (blk_cell BK144.out 1).trans rfl
    have hfs19 := blk_frozen BK144.out 1
    have hns19_0 := NB143_144.out
    have hms19_0 := NB144_143.out
    refine skip_ (w1 := ?_) (by rfl) rfl ?_ ?_
    rotate_left
    · go_simp
      rfl
    refine hK.out _ _ ⟨((cell_far (p := ⟨gb144, _, none⟩) NB143_144.out _).trans (((cell_far (p := ⟨gb144, _, none⟩) NB143_144.out _).trans (hHeld.1)))), ((cell_far (p := ⟨gb144, _, none⟩) NB143_144.out _).trans (((cell_far (p := ⟨gb144, _, none⟩) NB143_144.out _).trans (hHeld.2))))⟩ (fun hHeld => ?_)
    clear hK K
    refine pure_ (i := 10) (N := some 9) (v := ?_) (a' := ?_) #[true, true, true, true, true, true, true, true, true, true, true] rfl rfl (any_of HT_.out (by kernel_rfl)) (fun _ _ _ h => h) (Or.inl ⟨by rfl, ?_⟩) ?_ ?_
    rotate_left
    · intro w'
      go_simp
      with_reducible rfl
    rotate_left
    · simp only [Act.put, List.setIfInBounds_toArray, List.set_cons_zero, List.set_cons_succ, i64_w, i32_w]
      rfl
    refine done_ (done_of HT_.out (by kernel_rfl)) ?_
    try go_wp2
    refine bodyPost_ret (results_ct rfl _ _ gb144 39 #[.int .i64 a0_0, .int .i64 a2] (0, 0) _ rfl (by (with_reducible repeat (first | refine blk_drewN ?_ _ | refine blk_drew ?_ | refine blk_alloc ?_ _)); refine blk_put (cs := #[.int .i64 a0_0, .int .i64 0]) ?_ 1 _ rfl; (with_reducible repeat (first | refine blk_drewN ?_ _ | refine blk_drew ?_ | refine blk_alloc ?_ _)); refine blk_put (cs := #[.int .i64 0, .int .i64 0]) ?_ 0 _ rfl; (with_reducible repeat (first | refine blk_drewN ?_ _ | refine blk_drew ?_ | refine blk_alloc ?_ _)); exact BK144.out) Tryd.underlying39 rfl (by kernel_rfl)) rfl ?_
    exact ⟨by first | rfl | (simp [errW_none, errW_some] <;> rfl) | (simp [*, errW_none, errW_some] <;> rfl), by repeat (first | (with_reducible first | exact HB.out | apply below_alloc | apply pw_below_drewN | apply below_drew1 | refine below_set ?_ GE143.out | refine below_set ?_ GE144.out) | exact HB.out)⟩

end Go.Proofs.YthnjmokaiiajmaaDoor.P

namespace Go.Proofs.YthnjmokaiiajmaaDoor.P
open Go.RowKit Go.Proofs.YthnjmokaiiajmaaDoorW.PrintWords Go.Proofs.YthnjmokaiiajmaaDoorW.PrintLast Go.Proofs.YthnjmokaiiajmaaDoorW.PrintMore
attribute [local go_sem] max2_int min2_int max_two min_two max_three min_three max_four min_four   -- for this text's walks alone
set_option linter.unusedVariables false
set_option linter.unusedSimpArgs false

/-! ### impl_newLooker: function 22 -/
theorem impl_newLooker.laid : laidOutB Tryd.prog = true := by kernel_rfl
theorem impl_newLooker.law39 : Go.WideMaps.KeyLaw Tryd.prog 39 := deep_law_laid impl_newLooker.laid (m := 2) (by omega) (of_decide_eq_true (by kernel_rfl)) (by kernel_rfl) (by rw [Tryd.underlying39])
theorem impl_newLooker.kt39 : Tryd.prog.keyType 39 = true := by kernel_rfl
theorem impl_newLooker.und3 : Tryd.prog.underlying 3 = some (.int .i64) := by kernel_rfl
theorem impl_newLooker.cells3 : Tryd.prog.cellsOf 3 = 1 := by kernel_rfl
theorem impl_newLooker.tsz : ∃ m, Tryd.prog.types.size = m + 2 := ⟨Tryd.prog.types.size - 2, by have : 2 ≤ Tryd.prog.types.size := of_decide_eq_true (by kernel_rfl); omega⟩
theorem impl_newLooker.cells39 : Tryd.prog.cellsOf 39 = 2 := by kernel_rfl
theorem impl_newLooker.key39 {a b : Int} (wa : (Lit.int .i64 a).wf = true) (wb : (Lit.int .i64 b).wf = true) : keyOf Tryd.prog 39 (.agg #[.int .i64 a, .int .i64 b]) = some (.string (keyBytes [.int .i64 a, .int .i64 b])) := by
  obtain ⟨m, hm⟩ := impl_newLooker.tsz
  unfold keyOf
  simp only [Tryd.underlying39]
  rw [if_pos (by simp [impl_newLooker.kt39, Value.formed, Tryd.underlying39, impl_newLooker.cells39]), hm]
  unfold Program.keyLits
  simp only [Tryd.underlying39, Value.cells]
  rw [if_pos ⟨by rw [impl_newLooker.cells39]; rfl, by simp⟩]
  simp only [impl_newLooker.cells3, List.mapM_cons, List.mapM_nil, List.drop_zero, List.drop_succ_cons, List.take_succ_cons, List.take_zero]
  unfold Program.keyLits
  simp [impl_newLooker.und3, wa, wb]
def impl_newLooker.rg (x : Int) : Prop := 0 ≤ x ∧ x ≤ 11
theorem impl_newLooker.wf {x : Int} (h : impl_newLooker.rg x) : (Lit.int .i64 x).wf = true := by
  obtain ⟨h1, h2⟩ := h
  have e1 : IntKind.i64.min = -9223372036854775808 := by decide
  have e2 : IntKind.i64.max = 9223372036854775807 := by decide
  simp [Lit.wf, e1, e2]
  omega
/-- Each entry tells what it should. -/
def impl_newLooker.Good (look : Int → Int → Option (Int × Int)) (es : Array MapEntry) : Prop :=
  ∀ e ∈ es.toList, ∃ x y s p, impl_newLooker.rg x ∧ impl_newLooker.rg y ∧ e.key = .agg #[.int .i64 x, .int .i64 y] ∧ e.val = .agg #[.int .i64 s, .int .i64 p] ∧ look x y = some (s, p)
theorem impl_newLooker.Good.keys {look : Int → Int → Option (Int × Int)} {es : Array MapEntry} (h : impl_newLooker.Good look es) : ∀ e ∈ es.toList, ∃ l, keyOf Tryd.prog 39 e.key = some l := fun e he => by
  obtain ⟨x, y, s, p, hx, hy, hk, _⟩ := h e he
  exact ⟨_, by rw [hk]; exact impl_newLooker.key39 (impl_newLooker.wf hx) (impl_newLooker.wf hy)⟩
theorem impl_newLooker.run_look {look : Int → Int → Option (Int × Int)} {es : Array MapEntry} {w : World} {m clock : Nat} {x y : Int} (hb : w.heap[m]? = some (.map es clock)) (h : impl_newLooker.Good look es) (hx : impl_newLooker.rg x) (hy : impl_newLooker.rg y) :
    (Instr.lookup 57 (.map (some m)) (.agg #[.int .i64 x, .int .i64 y]) true).run Tryd.prog w = .ok (.tuple #[.agg #[.int .i64 0, .int .i64 0], .bool false]) w ∨
    ∃ s p, look x y = some (s, p) ∧ (Instr.lookup 57 (.map (some m)) (.agg #[.int .i64 x, .int .i64 y]) true).run Tryd.prog w = .ok (.tuple #[.agg #[.int .i64 s, .int .i64 p], .bool true]) w := by
  have hkey := impl_newLooker.key39 (impl_newLooker.wf hx) (impl_newLooker.wf hy)
  have hz : (zeroValue 43).run Tryd.prog w = .ok (.agg #[.int .i64 0, .int .i64 0]) w := by kernel_rfl
  rcases impl_newLooker.law39.find w hkey es.toList h.keys with ⟨h1, h2⟩ | ⟨j, e0, h1, h2, h3⟩
  · exact Or.inl (by simp [Instr.lookup, run_underlying Tryd.underlying57, MapKept.run_getObj_map hb, impl_newLooker.law39.check w _ hkey, h1, hz, Result.andThen])
  · obtain ⟨x', y', s, p, _, _, hk, hv, hl⟩ := h e0 (List.mem_of_getElem? h2)
    have e := hk.symm.trans h3
    simp only [Value.agg.injEq, Array.mk.injEq, List.cons.injEq, Value.int.injEq, true_and, and_true] at e
    obtain ⟨rfl, rfl⟩ := e
    exact Or.inr ⟨s, p, hl, by simp [Instr.lookup, run_underlying Tryd.underlying57, MapKept.run_getObj_map hb, impl_newLooker.law39.check w _ hkey, h1, hv, Result.andThen]⟩
theorem impl_newLooker.run_put {look : Int → Int → Option (Int × Int)} {es : Array MapEntry} {w : World} {m clock : Nat} {x y s p : Int} (hb : w.heap[m]? = some (.map es clock)) (h : impl_newLooker.Good look es) (hx : impl_newLooker.rg x) (hy : impl_newLooker.rg y) (hl : look x y = some (s, p)) :
    ∃ es' clock', (Instr.mapUpdate 57 (.map (some m)) (.agg #[.int .i64 x, .int .i64 y]) (.agg #[.int .i64 s, .int .i64 p])).run Tryd.prog w = .ok () (ChangeMaps.setBlock w m (.map es' clock')) ∧ impl_newLooker.Good look es' := by
  have hkey := impl_newLooker.key39 (impl_newLooker.wf hx) (impl_newLooker.wf hy)
  rcases impl_newLooker.law39.find w hkey es.toList h.keys with ⟨h1, h2⟩ | ⟨j, e0, h1, h2, h3⟩
  · refine ⟨es.push ⟨.agg #[.int .i64 x, .int .i64 y], .agg #[.int .i64 s, .int .i64 p], clock⟩, clock + 1, by simp [Instr.mapUpdate, run_underlying Tryd.underlying57, MapKept.run_getObj_map hb, impl_newLooker.law39.check w false hkey, h1, MapKept.run_setObj_map _ hb, Result.andThen, ChangeMaps.setBlock], fun e he => ?_⟩
    simp only [Array.toList_push, List.mem_append, List.mem_singleton] at he
    rcases he with he | rfl
    · exact h e he
    · exact ⟨x, y, s, p, hx, hy, rfl, rfl, hl⟩
  · have hj : j < es.size := by
      have := (List.getElem?_eq_some_iff.1 h2).1
      simpa using this
    have hjg : es[j]? = some e0 := by rw [← Array.getElem?_toList]; exact h2
    have hst := impl_newLooker.law39.stays w hkey
    refine ⟨es.modify j fun e => { e with key := .agg #[.int .i64 x, .int .i64 y], val := .agg #[.int .i64 s, .int .i64 p] }, clock, ?_, fun e he => ?_⟩
    · simp [Instr.mapUpdate, run_underlying Tryd.underlying57, MapKept.run_getObj_map hb, impl_newLooker.law39.check w false hkey, h1, MapKept.run_setObj_map _ hb, Result.andThen, ChangeMaps.setBlock, hjg, h3, hst]
    · obtain ⟨q, hq, rfl⟩ := List.getElem_of_mem he
      have hq' : q < es.size := by simpa using hq
      rw [Array.getElem_toList, Array.getElem_modify]
      split
      · exact ⟨x, y, s, p, hx, hy, rfl, rfl, hl⟩
      · exact h _ (Array.mem_toList_iff.2 (Array.getElem_mem hq'))

/-- What is left, behind one round of both. -/
def impl_newLooker.rnd (st pl o1 o2 sd : Int) : Int × Int :=
  if st < 0 ∨ wrap64 (o1 + sd) < st then (wrap64 (o1 + sd), o2) else if wrap64 (o1 + sd) = st then (st, wrap64 (pl + o2)) else (st, pl)
def impl_newLooker.look (c : Bool) : List Int → Int → Int → Option (Int × Int)
  | [], _, _ => some (0, 1)
  | p :: L, l, r => (impl_thumbs_moved.f l r 0 p c).bind fun m0 => (impl_newLooker.look c L m0.1 m0.2.1).bind fun o0 => (impl_thumbs_moved.f l r 1 p c).bind fun m1 => (impl_newLooker.look c L m1.1 m1.2.1).bind fun o1 => some (impl_newLooker.rnd (impl_newLooker.rnd (-1) 0 o0.1 o0.2 m0.2.2).1 (impl_newLooker.rnd (-1) 0 o0.1 o0.2 m0.2.2).2 o1.1 o1.2 m1.2.2)
theorem impl_newLooker.moved_rg {l r p x y sd wh : Int} {c : Bool} (h : impl_thumbs_moved.f l r wh p c = some (x, y, sd)) (hl : impl_newLooker.rg l) (hr : impl_newLooker.rg r) (hp : impl_newLooker.rg p) : impl_newLooker.rg x ∧ impl_newLooker.rg y := by
  unfold impl_thumbs_moved.f at h
  split at h
  · obtain ⟨q, _, h⟩ := Option.bind_eq_some_iff.1 h
    obtain ⟨rfl, h2⟩ := Prod.mk.inj (Option.some.inj h)
    obtain ⟨rfl, rfl⟩ := Prod.mk.inj h2
    exact ⟨hp, hr⟩
  · obtain ⟨q, _, h⟩ := Option.bind_eq_some_iff.1 h
    obtain ⟨rfl, h2⟩ := Prod.mk.inj (Option.some.inj h)
    obtain ⟨rfl, rfl⟩ := Prod.mk.inj h2
    exact ⟨hl, hp⟩
structure impl_newLooker.Dk where
  lb : Nat
  A : Option Addr
  kc : Nat
  mb : Nat
  mc : Nat
  ms : List Nat
  L : List Int
  c : Bool
  lim : Nat
/-- A looker in memory. -/
structure impl_newLooker.Lk (w : World) (D : impl_newLooker.Dk) : Prop where
  box : w.heap[D.lb]? = some (.cells #[.slice D.A D.L.length D.kc, .bool D.c, .slice (some ⟨D.mb, 0, none⟩) (D.L.length + 1) D.mc] 52 (0, 0))
  keys : ∀ j, j < D.L.length → ∃ kb ko, kb < D.lim ∧ D.A = some ⟨kb, ko, none⟩ ∧ w.cell? ⟨kb, ko + j, none⟩ = some (.int .i64 (D.L.getD j 0))
  row : ∀ j, j ≤ D.L.length → w.cell? ⟨D.mb, j, none⟩ = some (.map (some (D.ms.getD j 0)))
  maps : ∀ j, j ≤ D.L.length → ∃ es clock, w.heap[D.ms.getD j 0]? = some (.map es clock) ∧ impl_newLooker.Good (impl_newLooker.look D.c (D.L.drop j)) es
  len : D.ms.length = D.L.length + 1
  nodup : D.ms.Nodup
  lb_lt : D.lb < D.lim
  mb_lt : D.mb < D.lim
  ms_lt : ∀ m ∈ D.ms, m < D.lim
theorem impl_newLooker.cell_eq {w w' : World} {b j : Nat} (h : w'.heap[b]? = w.heap[b]?) : w'.cell? ⟨b, j, none⟩ = w.cell? ⟨b, j, none⟩ := by
  unfold World.cell?
  rw [show w'.heap[(⟨b, j, none⟩ : Addr).block]? = w.heap[(⟨b, j, none⟩ : Addr).block]? from h]
theorem impl_newLooker.Lk.mem {w : World} {D : impl_newLooker.Dk} (h : impl_newLooker.Lk w D) {j : Nat} (hj : j ≤ D.L.length) : D.ms.getD j 0 ∈ D.ms := by
  have : j < D.ms.length := by rw [h.len]; omega
  rw [List.getD_eq_getElem?_getD, List.getElem?_eq_getElem this]
  exact List.getElem_mem this
theorem impl_newLooker.Lk.keep {w w' : World} {D : impl_newLooker.Dk} (h : impl_newLooker.Lk w D) (hk : ∀ k, k < D.lim → w'.heap[k]? = w.heap[k]?) : impl_newLooker.Lk w' D where
  box := (hk _ h.lb_lt).trans h.box
  keys := fun j hj => by
    obtain ⟨kb, ko, h1, h2, h3⟩ := h.keys j hj
    exact ⟨kb, ko, h1, h2, (impl_newLooker.cell_eq (hk _ h1)).trans h3⟩
  row := fun j hj => (impl_newLooker.cell_eq (hk _ h.mb_lt)).trans (h.row j hj)
  maps := fun j hj => by
    obtain ⟨es, cl, h1, h2⟩ := h.maps j hj
    exact ⟨es, cl, (hk _ (h.ms_lt _ (h.mem hj))).trans h1, h2⟩
  len := h.len
  nodup := h.nodup
  lb_lt := h.lb_lt
  mb_lt := h.mb_lt
  ms_lt := h.ms_lt
theorem impl_newLooker.Lk.map_at {w : World} {D : impl_newLooker.Dk} (h : impl_newLooker.Lk w D) {m : Nat} (hm : m ∈ D.ms) : ∃ es cl, w.heap[m]? = some (.map es cl) := by
  obtain ⟨j, hj, rfl⟩ := List.getElem_of_mem hm
  have hj' : j ≤ D.L.length := by have := h.len; omega
  obtain ⟨es, cl, h1, _⟩ := h.maps j hj'
  rw [List.getD_eq_getElem?_getD, List.getElem?_eq_getElem hj] at h1
  exact ⟨es, cl, h1⟩
theorem impl_newLooker.Lk.cells_far {w : World} {D : impl_newLooker.Dk} (h : impl_newLooker.Lk w D) {g : Nat} {a : Array Value} {t : TypeId} {f : Nat × Nat} (hg : w.heap[g]? = some (.cells a t f)) : g ∉ D.ms := fun hm => by
  obtain ⟨es, cl, h1⟩ := h.map_at hm
  rw [hg] at h1
  cases h1
theorem impl_newLooker.Lk.cell_far {w : World} {D : impl_newLooker.Dk} (h : impl_newLooker.Lk w D) {g j : Nat} {v : Value} (hg : w.cell? ⟨g, j, none⟩ = some v) : g ∉ D.ms := fun hm => by
  obtain ⟨es, cl, h1⟩ := h.map_at hm
  unfold World.cell? at hg
  rw [show w.heap[(⟨g, j, none⟩ : Addr).block]? = some (.map es cl) from h1] at hg
  simp at hg
/-- Nothing but the looker's maps has turned. -/
structure impl_newLooker.MK (D : impl_newLooker.Dk) (w w' : World) : Prop where
  os : w'.os = w.os
  tape : w'.tape = w.tape
  output : w'.output = w.output
  size : w.heap.size ≤ w'.heap.size
  block : ∀ k, k < w.heap.size → k ∉ D.ms → w'.heap[k]? = w.heap[k]?
theorem impl_newLooker.MK.refl (D : impl_newLooker.Dk) (w : World) : impl_newLooker.MK D w w := ⟨rfl, rfl, rfl, Nat.le_refl _, fun _ _ _ => rfl⟩
theorem impl_newLooker.MK.trans {D : impl_newLooker.Dk} {w w1 w2 : World} (h : impl_newLooker.MK D w w1) (h2 : impl_newLooker.MK D w1 w2) : impl_newLooker.MK D w w2 :=
  ⟨h2.os.trans h.os, h2.tape.trans h.tape, h2.output.trans h.output, Nat.le_trans h.size h2.size, fun k hk hn => (h2.block k (Nat.lt_of_lt_of_le hk h.size) hn).trans (h.block k hk hn)⟩
theorem impl_newLooker.MK.of_below {D : impl_newLooker.Dk} {w w1 : World} (h : Below w.heap.size w w1) : impl_newLooker.MK D w w1 := ⟨h.os, h.tape, h.output, h.size, fun k hk _ => h.block k hk⟩
theorem impl_newLooker.MK.then_below {D : impl_newLooker.Dk} {w w1 w2 : World} (h : impl_newLooker.MK D w w1) (h2 : Below w.heap.size w1 w2) : impl_newLooker.MK D w w2 :=
  ⟨h2.os.trans h.os, h2.tape.trans h.tape, h2.output.trans h.output, Nat.le_trans h.size h2.size, fun k hk hn => (h2.block k hk).trans (h.block k hk hn)⟩
theorem impl_newLooker.MK.below {D : impl_newLooker.Dk} {w0 w w1 : World} {B : Nat} (h : impl_newLooker.MK D w w1) (hb : Below B w0 w) (hB : B ≤ w.heap.size) (hm : ∀ m ∈ D.ms, B ≤ m) : Below B w0 w1 :=
  ⟨h.os.trans hb.os, h.tape.trans hb.tape, h.output.trans hb.output, Nat.le_trans hb.size h.size, fun k hk => (h.block k (Nat.lt_of_lt_of_le hk hB) (fun hk2 => by have := hm k hk2; omega)).trans (hb.block k hk)⟩
theorem impl_newLooker.MK.blk {D : impl_newLooker.Dk} {w w1 : World} {g : Nat} {a : Array Value} {t : TypeId} {f : Nat × Nat} (h : impl_newLooker.MK D w w1) (HL : impl_newLooker.Lk w D) (hg : w.heap[g]? = some (.cells a t f)) : w1.heap[g]? = some (.cells a t f) :=
  (h.block g (Array.getElem?_eq_some_iff.1 hg).1 (HL.cells_far hg)).trans hg
theorem impl_newLooker.C_plain {w : World} {A : Option Addr} {xs : List Int} (h : (Kd.int .i64).C w A xs.length xs) (hn : 0 < xs.length) : ∃ b off, A = some ⟨b, off, none⟩ ∧ ∀ j, j < xs.length → w.cell? ⟨b, off + j, none⟩ = some (.int .i64 (xs.getD j 0)) := by
  obtain ⟨ad, rfl, h0⟩ := Kd.at_int h 0 (Int.le_refl 0) (by omega)
  obtain ⟨b, o, s⟩ := ad
  have hs : s = none := by
    cases s with
    | none => rfl
    | some x =>
      rw [show (0 : Int).toNat = 0 from rfl] at h0
      simp only [Addr.add, if_pos] at h0
      unfold World.cell? at h0
      split at h0 <;> simp_all
  subst hs
  refine ⟨b, o, rfl, fun j hj => ?_⟩
  obtain ⟨ad, e, hj'⟩ := Kd.at_int h (j : Int) (by omega) (by omega)
  cases e
  rw [Int.toNat_natCast] at hj'
  rw [show xs.getD j 0 = rd xs (j : Int) from rfl, ← hj']
  congr 1
  unfold Addr.add
  by_cases hj0 : j = 0 <;> simp [hj0]

def impl_newLooker.f (k : Nat) (s : ByteArray) (c : Bool) : Option (List Int × Bool) := (impl_places.f k s).bind fun L => if L.length = s.size ∧ s.size ≤ 1000 then some (L, c) else none
theorem impl_newLooker.mono : ∀ a0 a1 k, LeO (impl_newLooker.f k a0 a1) (impl_newLooker.f (k + 1) a0 a1) := by
  intro a0 a1 k r h
  unfold impl_newLooker.f at h ⊢
  obtain ⟨L, hL, h⟩ := Option.bind_eq_some_iff.1 h
  rw [impl_places.mono a0 k L hL, Option.bind_some]
  exact h
theorem impl_newLooker.f_len {k : Nat} {s : ByteArray} {c c' : Bool} {L : List Int} (h : impl_newLooker.f k s c = some (L, c')) : c = c' ∧ L.length = s.size ∧ s.size ≤ 1000 ∧ impl_places.f k s = some L := by
  unfold impl_newLooker.f at h
  obtain ⟨L', hL, h⟩ := Option.bind_eq_some_iff.1 h
  split at h
  · rename_i h1
    obtain ⟨rfl, rfl⟩ := Prod.mk.inj (Option.some.inj h)
    exact ⟨rfl, h1.1, h1.2, hL⟩
  · cases h
/-- All that a looker has lies from B on. -/
structure impl_newLooker.Lo (B : Nat) (D : impl_newLooker.Dk) : Prop where
  ms : ∀ m ∈ D.ms, B ≤ m
  lb : B ≤ D.lb
  mb : B ≤ D.mb
  keys : ∀ a, D.A = some a → B ≤ a.block
theorem impl_newLooker.Lk.far {w : World} {D : impl_newLooker.Dk} {B : Nat} (h : impl_newLooker.Lk w D) (hB : impl_newLooker.Lo B D) {p : Addr} (hp : p.block < B) (u : Value) : impl_newLooker.Lk (w.setCell p u) D where
  box := (Below.heap_setCell w p u _ (by have := hB.lb; omega)).trans h.box
  keys := fun j hj => by
    obtain ⟨kb, ko, h1, h2, h3⟩ := h.keys j hj
    have h4 : B ≤ kb := hB.keys _ h2
    exact ⟨kb, ko, h1, h2, (impl_newLooker.cell_eq (Below.heap_setCell w p u _ (by omega))).trans h3⟩
  row := fun j hj => (impl_newLooker.cell_eq (Below.heap_setCell w p u _ (by have := hB.mb; omega))).trans (h.row j hj)
  maps := fun j hj => by
    obtain ⟨es, cl, h1, h2⟩ := h.maps j hj
    have := hB.ms _ (h.mem hj)
    exact ⟨es, cl, (Below.heap_setCell w p u _ (by omega)).trans h1, h2⟩
  len := h.len
  nodup := h.nodup
  lb_lt := h.lb_lt
  mb_lt := h.mb_lt
  ms_lt := h.ms_lt
theorem impl_newLooker.own_some {w : World} {base : Nat} {e : TypeId} {size n : Nat} {v : Value} {xs : List Value} (h : w.ownsRow base e size v n xs) (hn : 0 < n) : ∃ g cap cur, v = .slice (some ⟨g, 0, none⟩) n cap ∧ base ≤ g ∧ w.heap[g]? = some (.cells cur e (0, 0)) := by
  rcases h.2 with ⟨_, h0⟩ | ⟨g, cap, cur, rfl, hg, hh, _⟩
  · omega
  · exact ⟨g, cap, cur, rfl, hg, hh⟩
/-- The loop that makes the maps. -/
structure impl_newLooker.Lp (w1 wr : World) (lb : Nat) (A : Option Addr) (n c0 : Nat) (c : Bool) (v : Value) (t : Nat) (ms : List Nat) : Prop where
  box : wr.heap[lb]? = some (.cells #[.slice A n c0, .bool c, v] 52 (0, 0))
  own : wr.ownsRow (lb + 1) 57 1 v t (ms.map fun m => Value.map (some m))
  nodup : ms.Nodup
  maps : ∀ m ∈ ms, lb < m ∧ m < wr.heap.size ∧ wr.heap[m]? = some (.map #[] 0)
  below : Below w1.heap.size w1 wr
  lb_ge : w1.heap.size ≤ lb
theorem impl_newLooker.Lp.far {w1 wr : World} {lb : Nat} {A : Option Addr} {n c0 : Nat} {c : Bool} {v : Value} {t : Nat} {ms : List Nat} (h : impl_newLooker.Lp w1 wr lb A n c0 c v t ms) {k : Nat} {o : Obj} (hk : wr.heap[k]? = some o) (ho : ∀ cells, o ≠ .cells cells 57 (0, 0)) : some k ≠ v.ownBlock := fun e => by
  obtain ⟨cells, hc⟩ := own_typed h.own k e.symm
  exact ho cells (Option.some.inj (hk.symm.trans hc))
theorem impl_newLooker.Lp.box_far {w1 wr : World} {lb : Nat} {A : Option Addr} {n c0 : Nat} {c : Bool} {v : Value} {t : Nat} {ms : List Nat} (h : impl_newLooker.Lp w1 wr lb A n c0 c v t ms) : some lb ≠ v.ownBlock := h.far h.box (by intro cells e; cases e)
theorem impl_newLooker.Lp.next {w1 wr w' : World} {lb : Nat} {A : Option Addr} {n c0 : Nat} {c : Bool} {v v' : Value} {t : Nat} {ms : List Nat} (h : impl_newLooker.Lp w1 wr lb A n c0 c v t ms)
    (hO : w'.ownsRow (lb + 1) 57 1 v' (t + 1) ((ms.map fun m => Value.map (some m)) ++ [Value.map (some wr.heap.size)])) (hG : ((wr.alloc (.map #[] 0)).alloc (.cells #[Value.map (some wr.heap.size)] 57)).grownBy w' v.ownBlock) :
    w'.heap[lb]? = some (.cells #[.slice A n c0, .bool c, v] 52 (0, 0)) ∧ impl_newLooker.Lp w1 (w'.setCell ⟨lb, 2, none⟩ v') lb A n c0 c v' (t + 1) (ms ++ [wr.heap.size]) := by
  have hX := blk_grown (blk_alloc (blk_alloc h.box (.map #[] 0)) (.cells #[Value.map (some wr.heap.size)] 57)) hG h.box_far
  have hlb := blk_lt h.box
  have hsz : ((wr.alloc (.map #[] 0)).alloc (.cells #[Value.map (some wr.heap.size)] 57)).heap.size = wr.heap.size + 2 := by simp
  have hsz2 := hG.size
  rw [hsz] at hsz2
  refine ⟨hX, blk_put hX 2 _ rfl, own_move (by rw [List.map_append]; exact hO) (fun k hk => ?_), ?_, ?_, ?_, h.lb_ge⟩
  · have := own_base hO k hk
    exact Below.heap_setCell w' _ _ k (by show k ≠ lb; omega)
  · rw [List.nodup_append]
    refine ⟨h.nodup, by simp, fun a ha b hb => ?_⟩
    rw [List.mem_singleton] at hb
    have := (h.maps a ha).2.1
    omega
  · intro m hm
    rw [List.mem_append, List.mem_singleton] at hm
    rcases hm with hm | rfl
    · obtain ⟨h1, h2, h3⟩ := h.maps m hm
      refine ⟨h1, by simp; omega, ?_⟩
      rw [Below.heap_setCell w' _ _ m (by show m ≠ lb; omega)]
      exact blk_grown (blk_alloc (blk_alloc h3 _) _) hG (h.far h3 (by intro cells e; cases e))
    · refine ⟨hlb, by simp; omega, ?_⟩
      rw [Below.heap_setCell w' _ _ wr.heap.size (by show wr.heap.size ≠ lb; omega)]
      refine blk_grown (blk_alloc (blk_new wr _) _) hG (fun e => ?_)
      obtain ⟨cells, hc⟩ := own_typed h.own _ e.symm
      have := blk_lt hc
      omega
  · have hb2 : Below w1.heap.size w1 ((wr.alloc (.map #[] 0)).alloc (.cells #[Value.map (some wr.heap.size)] 57)) := below_alloc (below_alloc h.below _) _
    exact below_set (Below.grown hb2 hG (by rw [hsz]; have := h.below.size; omega) (fun k hk => by have := own_base h.own k hk; have := h.lb_ge; omega)) h.lb_ge
theorem impl_newLooker.own_cell {w : World} {base : Nat} {e : TypeId} {n g cap : Nat} {xs : List Value} (h : w.ownsRow base e 1 (.slice (some ⟨g, 0, none⟩) n cap) n xs) {j : Nat} (hj : j < n) : w.cell? ⟨g, j, none⟩ = xs[j]? := by
  rcases h.2 with ⟨e, _⟩ | ⟨g', cap', cur, e, _, hh, _, _, _, ht⟩
  · cases e
  · cases e
    rw [← ht]
    exact (blk_cell hh j).trans (by rw [List.getElem?_take, if_pos (by omega), Array.getElem?_toList])
theorem impl_newLooker.Lp.done {w1 wr : World} {lb n c0 g cap : Nat} {A : Option Addr} {c : Bool} {ms : List Nat} {L : List Int} (h : impl_newLooker.Lp w1 wr lb A L.length c0 c (.slice (some ⟨g, 0, none⟩) (n + 1) cap) (n + 1) ms) (hn : L.length = n) (hC : (Kd.int .i64).C w1 A L.length L) (hms : ms.length = n + 1) :
    impl_newLooker.Lk wr ⟨lb, A, c0, g, cap, ms, L, c, wr.heap.size⟩ where
  box := by
    have := h.box
    rw [← hn] at this
    exact this
  keys := fun j hj => by
    obtain ⟨b, off, rfl, hc⟩ := impl_newLooker.C_plain hC (by have : j < L.length := hj; omega)
    have h1 := hc j hj
    have h2 : b < w1.heap.size := World.block_lt_of_cell? _ _ h1
    exact ⟨b, off, Nat.lt_of_lt_of_le h2 h.below.size, rfl, (h.below.cell h2).trans h1⟩
  row := fun j hj => by
    have hj' : j < n + 1 := by have : j ≤ L.length := hj; omega
    refine (impl_newLooker.own_cell h.own hj').trans ?_
    rw [List.getElem?_map, List.getD_eq_getElem?_getD, List.getElem?_eq_getElem (by omega)]
    rfl
  maps := fun j hj => by
    have hj' : j < ms.length := by have : j ≤ L.length := hj; omega
    have hm : ms.getD j 0 ∈ ms := by
      rw [List.getD_eq_getElem?_getD, List.getElem?_eq_getElem hj']
      exact List.getElem_mem hj'
    exact ⟨#[], 0, (h.maps _ hm).2.2, fun e he => by simp at he⟩
  len := by
    show ms.length = L.length + 1
    omega
  nodup := h.nodup
  lb_lt := blk_lt h.box
  mb_lt := by
    rcases h.own.2 with ⟨e, _⟩ | ⟨g', cap', cur, e, _, hh, _⟩
    · cases e
    · cases e
      exact blk_lt hh
  ms_lt := fun m hm => (h.maps m hm).2.1
theorem impl_newLooker.info57 : (Tryd.prog.info? 57).map (fun i => (i.zero, i.size, i.bytes)) = some (some (.map none), 1, 8) := by kernel_rfl
set_option maxHeartbeats 8000000 in
set_option maxRecDepth 100000 in
theorem impl_newLooker.calls0 (k : Nat) (s : ByteArray) (c c' : Bool) (L : List Int) (w : World) (h : impl_newLooker.f k s c = some (L, c')) :
    Calls Tryd.prog 22 #[.string s, .bool c] w fun e w' => ∃ D : impl_newLooker.Dk, e = .returned (.pointer (some ⟨D.lb, 0, none⟩)) ∧ D.L = L ∧ D.c = c' ∧ D.lim ≤ w'.heap.size ∧ impl_newLooker.Lo w.heap.size D ∧ impl_newLooker.Lk w' D ∧ Below w.heap.size w w' := by
  obtain ⟨rfl, hlen, hsz, hpl⟩ := impl_newLooker.f_len h
  have HP := Aside0.mk (impl_places.calls k s L w hpl)
  have hw1 : IntKind.i64.wrap ((s.size : Int) + 1) = (s.size : Int) + 1 := (i64_w _).trans (by unfold wrap64; omega)
  clear h hpl
  have HLen := Aside0.mk hlen
  clear hlen
  go_enter Tryd.func22, Tryd.ntmps22
  go_upto_region 2 with (go_at_call 33; refine (HP.out).mono ?_; rintro e_ w1 ⟨v0, rfl, hR, hb⟩; obtain ⟨A, c0, rfl⟩ := Kd.R_slice hR)
  have hC := (Kd.R_reads' hR).2.2
  have HC := Aside0.mk hC
  have H2 : Aside0 ((w1.alloc (.cells #[.slice A L.length c0, .bool c, .slice none 0 0] 52)).heap[w1.heap.size]? = some (.cells #[.slice A L.length c0, .bool c, .slice none 0 0] 52 (0, 0))) := ⟨blk_new w1 _⟩
  have B2 : Aside0 (Below w1.heap.size w1 (w1.alloc (.cells #[.slice A L.length c0, .bool c, .slice none 0 0] 52))) := ⟨below_alloc (Below.refl _ _) _⟩
  have HB1 := Aside0.mk hb
  have S2 : Aside0 ((w1.alloc (.cells #[.slice A L.length c0, .bool c, .slice none 0 0] 52)).heap.size = w1.heap.size + 1) := ⟨by simp⟩
  generalize w1.alloc (.cells #[.slice A L.length c0, .bool c, .slice none 0 0] 52) = W2 at *
  obtain ⟨lb, hlb⟩ : ∃ lb, lb = w1.heap.size := ⟨_, rfl⟩
  rw [← hlb] at H2 S2
  simp only [← hlb]
  have HLB := Aside0.mk hlb
  have HKB : Aside0 (∀ q, (Value.slice A L.length c0).ownBlock = some q → w.heap.size ≤ q) := ⟨by obtain ⟨inner, ho⟩ := Kd.R_own hR; exact fun q hq => Go.Proofs.YthnjmokaiiajmaaDoorW.PrintWords.own_base ho q hq⟩
  clear hlb hR hb hC HP
  obtain ⟨i9, hi9, hz9, hz91, hz92⟩ := info_parts impl_newLooker.info57
  have hmm := @run_makeMap Tryd.prog
  go_wp2
  go_loopg [14] (s.size + 1) (fun gg s14 wr => ∃ (t : Nat) (v : Value) (ms : List Nat), s14 = .int .i64 (t : Int) ∧ t + gg = s.size + 1 ∧ ms.length = t ∧ Aside0 (impl_newLooker.Lp w1 wr lb A L.length c0 c v t ms))
  case atStart => exact ⟨0, _, [], rfl, by omega, rfl, ⟨⟨H2.out, Go.Proofs.YthnjmokaiiajmaaDoorW.PrintWords.own_nil _ _ _ _, List.nodup_nil, by simp, B2.out, by rw [HLB.out]; exact Nat.le_refl _⟩⟩⟩
  case round =>
    obtain ⟨t, v, ms, rfl, ht, hms, HX⟩ := hrel
    clear H2 B2 S2
    by_cases hlt : t < s.size + 1
    · obtain ⟨d, rfl⟩ : ∃ d, gk = d + 1 := ⟨gk - 1, by omega⟩
      have htz0 : (0 : Int) ≤ (t : Int) := Int.natCast_nonneg _
      have htz1 : (t : Int) < (s.size : Int) + 1 := by omega
      have c1 : wr.cell? ⟨lb, 2, none⟩ = some v := (blk_cell HX.out.box 2).trans rfl
      have hlt1 : lb < wr.heap.size := blk_lt HX.out.box
      go_upto_region 5 with (first | ((with_reducible refine gate_builtin (b := .append) (xs := #[.tmp 20, .tmp 22]) rfl ?_); at_builtin; refine wpList_append_own _ rfl (.tmp 20) (.tmp 22) 50 rfl (lb + 1) 57 i9 (.map none) 1 8 Tryd.underlying50 hi9 hz9 hz91 hz92 rfl (by omega) v t (ms.map fun m => Value.map (some m)) rfl ((HX.out.own.alloc _).alloc _) ⟨wr.heap.size + 1, 0, none⟩ 1 1 [.map (some wr.heap.size)] (by first | rfl | simp) rfl ?hn (by simp [Value.oneCell']) (by simp only [maxLen]; omega) (by omega) (by simp; omega) ?hK; (case hn => exact World.news_of_block (cs := #[.map (some wr.heap.size)]) (t := 57) (fr := (0, 0)) (by have := heap_alloc_new (wr.alloc (.map #[] 0)) (.cells #[.map (some wr.heap.size)] 57); simpa using this)); intro v' w' hO' hG' hz'; obtain ⟨g, cap, cur, rfl, _, _⟩ := impl_newLooker.own_some hO' (by omega); obtain ⟨hX', HN'⟩ := HX.out.next hO' hG'; have HX' := Aside0.mk HN'; have c2 : w'.cell? ⟨lb, 2, none⟩ = some v := (blk_cell hX' 2).trans rfl; have f2 : w'.frozen? ⟨lb, 2, none⟩ = false := blk_frozen hX' 2; clear hO' hG' hz' hX' HN' c1))
      generalize w'.setCell ⟨lb, 2, none⟩ (Value.slice (some ⟨g, 0, none⟩) (t + 1) cap) = w2 at *
      clear c2 f2
      go_wp2
      go_roundg d
      case measure => omega
      case rel => exact ⟨t + 1, _, ms ++ [wr.heap.size], by go_num, by omega, by rw [List.length_append, List.length_singleton, hms], HX'⟩
    · obtain rfl : gk = 0 := by omega
      obtain rfl : t = s.size + 1 := by omega
      obtain ⟨g, cap, cur, rfl, hg, hcur⟩ := impl_newLooker.own_some HX.out.own (by omega)
      have hlen := HLen.out
      have hx := HX.out
      have hhc := HC.out
      have hw := HB1.out
      clear hmm
      go_wp2
      go_ret
      exact ⟨⟨lb, A, c0, g, cap, ms, L, c, wr.heap.size⟩, rfl, rfl, rfl, Nat.le_refl _, ⟨fun m hm => by have := (hx.maps m hm).1; have := hx.lb_ge; have := hw.size; omega, by have := hx.lb_ge; have := hw.size; show w.heap.size ≤ lb; omega, by have h1 := Go.Proofs.YthnjmokaiiajmaaDoorW.PrintWords.own_base hx.own g rfl; have := hx.lb_ge; have := hw.size; show w.heap.size ≤ g; omega, fun a ha => by obtain rfl : A = some a := ha; exact HKB.out _ rfl⟩, hx.done hlen hhc hms, hw.trans (hx.below.mono hw.size)⟩
theorem impl_newLooker.calls (k : Nat) (s : ByteArray) (c : Bool) (t : List Int × Bool) (w : World) (h : impl_newLooker.f k s c = some t) :
    Calls Tryd.prog 22 #[.string s, .bool c] w fun e w' => ∃ D : impl_newLooker.Dk, e = .returned (.pointer (some ⟨D.lb, 0, none⟩)) ∧ D.L = t.1 ∧ D.c = t.2 ∧ D.lim ≤ w'.heap.size ∧ impl_newLooker.Lo w.heap.size D ∧ impl_newLooker.Lk w' D ∧ Below w.heap.size w w' :=
  impl_newLooker.calls0 k s c t.2 t.1 w h

end Go.Proofs.YthnjmokaiiajmaaDoor.P

namespace Go.Proofs.YthnjmokaiiajmaaDoor.P
open Go.RowKit Go.Proofs.YthnjmokaiiajmaaDoorW.PrintWords Go.Proofs.YthnjmokaiiajmaaDoorW.PrintLast Go.Proofs.YthnjmokaiiajmaaDoorW.PrintMore
attribute [local go_sem] max2_int min2_int max_two min_two max_three min_three max_four min_four   -- for this text's walks alone
set_option linter.unusedVariables false
set_option linter.unusedSimpArgs false

/-! ### impl_looker_from: function 23 -/
/-- The state of the loop over both thumbs. -/
structure impl_looker_from.Rv (w wr : World) (D : impl_newLooker.Dk) (b5 b6 b9 : Nat) (l r st pl : Int) : Prop where
  lk : impl_newLooker.Lk wr D
  kept : impl_newLooker.MK D w wr
  lim : D.lim ≤ w.heap.size
  h5 : wr.heap[b5]? = some (.cells #[.int .i64 l, .int .i64 r] 39 (0, 0))
  h6 : wr.heap[b6]? = some (.cells #[.int .i64 0, .int .i64 0] 43 (0, 0))
  h9 : wr.heap[b9]? = some (.cells #[.int .i64 st, .int .i64 pl] 43 (0, 0))
  g5 : w.heap.size ≤ b5
  g6 : w.heap.size ≤ b6
  g9 : b6 < b9
theorem impl_looker_from.Rv.grow {w wr w2 : World} {D : impl_newLooker.Dk} {b5 b6 b9 : Nat} {l r st pl : Int} (h : impl_looker_from.Rv w wr D b5 b6 b9 l r st pl) (hb : Below wr.heap.size wr w2) : impl_looker_from.Rv w w2 D b5 b6 b9 l r st pl where
  lk := h.lk.keep fun k hk => hb.block k (by have := h.lim; have := h.kept.size; omega)
  kept := h.kept.trans (impl_newLooker.MK.of_below hb)
  lim := h.lim
  h5 := blk_below h.h5 hb
  h6 := blk_below h.h6 hb
  h9 := blk_below h.h9 hb
  g5 := h.g5
  g6 := h.g6
  g9 := h.g9
theorem impl_looker_from.Rv.call {w wr w2 : World} {D : impl_newLooker.Dk} {b5 b6 b9 : Nat} {l r st pl : Int} (h : impl_looker_from.Rv w wr D b5 b6 b9 l r st pl) (hl : impl_newLooker.Lk w2 D) (hm : impl_newLooker.MK D wr w2) : impl_looker_from.Rv w w2 D b5 b6 b9 l r st pl where
  lk := hl
  kept := h.kept.trans hm
  lim := h.lim
  h5 := hm.blk h.lk h.h5
  h6 := hm.blk h.lk h.h6
  h9 := hm.blk h.lk h.h9
  g5 := h.g5
  g6 := h.g6
  g9 := h.g9
theorem impl_looker_from.keep_set {w wr : World} {D : impl_newLooker.Dk} (hl : impl_newLooker.Lk wr D) (hm : impl_newLooker.MK D w wr) (hlim : D.lim ≤ w.heap.size) {p : Addr} (hp : w.heap.size ≤ p.block) (u : Value) : impl_newLooker.Lk (wr.setCell p u) D ∧ impl_newLooker.MK D w (wr.setCell p u) :=
  ⟨hl.keep fun k hk => Below.heap_setCell wr p u k (by omega), hm.then_below ((Below.refl _ _).setCell hp u)⟩
theorem impl_looker_from.Rv.far {w wr : World} {D : impl_newLooker.Dk} {b5 b6 b9 : Nat} {l r st pl : Int} (h : impl_looker_from.Rv w wr D b5 b6 b9 l r st pl) {p : Addr} (hp : w.heap.size ≤ p.block) (n5 : b5 ≠ p.block) (n6 : b6 ≠ p.block) (n9 : b9 ≠ p.block) (u : Value) : impl_looker_from.Rv w (wr.setCell p u) D b5 b6 b9 l r st pl :=
  ⟨(impl_looker_from.keep_set h.lk h.kept h.lim hp u).1, (impl_looker_from.keep_set h.lk h.kept h.lim hp u).2, h.lim, (Below.heap_setCell wr p u _ n5).trans h.h5, (Below.heap_setCell wr p u _ n6).trans h.h6, (Below.heap_setCell wr p u _ n9).trans h.h9, h.g5, h.g6, h.g9⟩
theorem impl_looker_from.Rv.n59 {w wr : World} {D : impl_newLooker.Dk} {b5 b6 b9 : Nat} {l r st pl : Int} (h : impl_looker_from.Rv w wr D b5 b6 b9 l r st pl) : b5 ≠ b9 := fun e => by
  have h5 := h.h5
  rw [e, h.h9] at h5
  cases h5
theorem impl_looker_from.Rv.steps {w wr : World} {D : impl_newLooker.Dk} {b5 b6 b9 : Nat} {l r st pl : Int} (h : impl_looker_from.Rv w wr D b5 b6 b9 l r st pl) (x : Int) : impl_looker_from.Rv w (wr.setCell ⟨b9, 0, none⟩ (.int .i64 x)) D b5 b6 b9 l r x pl :=
  ⟨(impl_looker_from.keep_set h.lk h.kept h.lim (p := ⟨b9, 0, none⟩) (by show w.heap.size ≤ b9; have := h.g9; have := h.g6; omega) _).1, (impl_looker_from.keep_set h.lk h.kept h.lim (p := ⟨b9, 0, none⟩) (by show w.heap.size ≤ b9; have := h.g9; have := h.g6; omega) _).2, h.lim, (Below.heap_setCell wr _ _ _ h.n59).trans h.h5, (Below.heap_setCell wr _ _ _ (by show b6 ≠ b9; have := h.g9; omega)).trans h.h6, blk_put h.h9 0 _ rfl, h.g5, h.g6, h.g9⟩
theorem impl_looker_from.Rv.plans {w wr : World} {D : impl_newLooker.Dk} {b5 b6 b9 : Nat} {l r st pl : Int} (h : impl_looker_from.Rv w wr D b5 b6 b9 l r st pl) (x : Int) : impl_looker_from.Rv w (wr.setCell ⟨b9, 1, none⟩ (.int .i64 x)) D b5 b6 b9 l r st x :=
  ⟨(impl_looker_from.keep_set h.lk h.kept h.lim (p := ⟨b9, 1, none⟩) (by show w.heap.size ≤ b9; have := h.g9; have := h.g6; omega) _).1, (impl_looker_from.keep_set h.lk h.kept h.lim (p := ⟨b9, 1, none⟩) (by show w.heap.size ≤ b9; have := h.g9; have := h.g6; omega) _).2, h.lim, (Below.heap_setCell wr _ _ _ h.n59).trans h.h5, (Below.heap_setCell wr _ _ _ (by show b6 ≠ b9; have := h.g9; omega)).trans h.h6, blk_put h.h9 1 _ rfl, h.g5, h.g6, h.g9⟩
/-- How far the loop has come. -/
def impl_looker_from.At (c : Bool) (L : List Int) (l r p0 s p : Int) : Nat → Int → Int → Prop
  | 0, st, pl => st = -1 ∧ pl = 0 ∧ impl_newLooker.look c (p0 :: L) l r = some (s, p)
  | 1, st, pl => ∃ x y sd s1 q1, impl_thumbs_moved.f l r 1 p0 c = some (x, y, sd) ∧ impl_newLooker.look c L x y = some (s1, q1) ∧ impl_newLooker.rnd st pl s1 q1 sd = (s, p)
  | _, st, pl => st = s ∧ pl = p
theorem impl_looker_from.At.next {c : Bool} {L : List Int} {l r p0 s p : Int} {t : Nat} {st pl : Int} (h : impl_looker_from.At c L l r p0 s p t st pl) (ht : t < 2) :
    ∃ x y sd s1 q1, impl_thumbs_moved.f l r (t : Int) p0 c = some (x, y, sd) ∧ impl_newLooker.look c L x y = some (s1, q1) ∧ impl_looker_from.At c L l r p0 s p (t + 1) (impl_newLooker.rnd st pl s1 q1 sd).1 (impl_newLooker.rnd st pl s1 q1 sd).2 := by
  rcases t with _ | _ | t
  · obtain ⟨rfl, rfl, h⟩ := h
    rw [impl_newLooker.look] at h
    obtain ⟨⟨x, y, sd⟩, e0, h⟩ := Option.bind_eq_some_iff.1 h
    obtain ⟨⟨s0, q0⟩, e1, h⟩ := Option.bind_eq_some_iff.1 h
    obtain ⟨⟨x', y', sd'⟩, e2, h⟩ := Option.bind_eq_some_iff.1 h
    obtain ⟨⟨s1, q1⟩, e3, h⟩ := Option.bind_eq_some_iff.1 h
    exact ⟨x, y, sd, s0, q0, e0, e1, x', y', sd', s1, q1, e2, e3, Option.some.inj h⟩
  · obtain ⟨x, y, sd, s1, q1, e0, e1, e2⟩ := h
    exact ⟨x, y, sd, s1, q1, e0, e1, by rw [e2], by rw [e2]⟩
  · omega
theorem impl_looker_from.begin {w w3 : World} {D : impl_newLooker.Dk} {b5 b6 : Nat} {l r : Int} (hl : impl_newLooker.Lk w D) (hlim : D.lim ≤ w.heap.size) (hb : Below w.heap.size w w3) (h5 : w3.heap[b5]? = some (.cells #[.int .i64 l, .int .i64 r] 39 (0, 0))) (h6 : w3.heap[b6]? = some (.cells #[.int .i64 0, .int .i64 0] 43 (0, 0))) (g5 : w.heap.size ≤ b5) (g6 : w.heap.size ≤ b6) {b9 : Nat} {st pl : Int} (h9 : w3.heap[b9]? = some (.cells #[.int .i64 st, .int .i64 pl] 43 (0, 0))) (g9 : b6 < b9) : impl_looker_from.Rv w w3 D b5 b6 b9 l r st pl :=
  ⟨hl.keep fun k hk => hb.block k (by omega), impl_newLooker.MK.of_below hb, hlim, h5, h6, h9, g5, g6, g9⟩
theorem impl_looker_from.Rv.put {w wr : World} {D : impl_newLooker.Dk} {b5 b6 b9 i : Nat} {l r st pl : Int} {es es' : Array MapEntry} {cl cl' : Nat} (h : impl_looker_from.Rv w wr D b5 b6 b9 l r st pl) (hi : i ≤ D.L.length) (hm : wr.heap[D.ms.getD i 0]? = some (.map es cl)) (hg : impl_newLooker.Good (impl_newLooker.look D.c (D.L.drop i)) es') :
    impl_looker_from.Rv w (ChangeMaps.setBlock wr.drew (D.ms.getD i 0) (.map es' cl')) D b5 b6 b9 l r st pl := by
  have hsame := ChangeMaps.heap_setBlock_same (w := wr.drew) hm (.map es' cl')
  have hother : ∀ k, k ≠ D.ms.getD i 0 → (ChangeMaps.setBlock wr.drew (D.ms.getD i 0) (.map es' cl')).heap[k]? = wr.heap[k]? := fun k hk => ChangeMaps.heap_setBlock_other (w := wr.drew) hm _ hk
  have hmem := h.lk.mem hi
  have hne : ∀ {k : Nat}, k ∉ D.ms → k ≠ D.ms.getD i 0 := fun hk e => hk (e ▸ hmem)
  refine ⟨⟨(hother _ (hne (h.lk.cells_far h.lk.box))).trans h.lk.box, fun j hj => ?_, fun j hj => (impl_newLooker.cell_eq (hother _ (hne (h.lk.cell_far (h.lk.row j hj))))).trans (h.lk.row j hj), fun j hj => ?_, h.lk.len, h.lk.nodup, h.lk.lb_lt, h.lk.mb_lt, h.lk.ms_lt⟩, ⟨h.kept.os, h.kept.tape, h.kept.output, ?_, fun k hk hn => ?_⟩, h.lim, (hother _ (hne (h.lk.cells_far h.h5))).trans h.h5, (hother _ (hne (h.lk.cells_far h.h6))).trans h.h6, (hother _ (hne (h.lk.cells_far h.h9))).trans h.h9, h.g5, h.g6, h.g9⟩
  · obtain ⟨kb, ko, h1, h2, h3⟩ := h.lk.keys j hj
    exact ⟨kb, ko, h1, h2, (impl_newLooker.cell_eq (hother _ (hne (h.lk.cell_far h3)))).trans h3⟩
  · by_cases hji : D.ms.getD j 0 = D.ms.getD i 0
    · have e : j = i := by
        have l1 : j < D.ms.length := by rw [h.lk.len]; omega
        have l2 : i < D.ms.length := by rw [h.lk.len]; omega
        rw [List.getD_eq_getElem?_getD, List.getD_eq_getElem?_getD, List.getElem?_eq_getElem l1, List.getElem?_eq_getElem l2] at hji
        exact (List.getElem_inj h.lk.nodup).1 hji
      subst e
      exact ⟨es', cl', hsame, hg⟩
    · obtain ⟨es1, cl1, h1, h2⟩ := h.lk.maps j hj
      exact ⟨es1, cl1, (hother _ hji).trans h1, h2⟩
  · show w.heap.size ≤ (wr.heap.setIfInBounds _ _).size
    rw [Array.size_setIfInBounds]
    exact h.kept.size
  · exact (hother _ (hne hn)).trans (h.kept.block k hk hn)
theorem impl_looker_from.Rv.out_ {w wr : World} {D : impl_newLooker.Dk} {b5 b6 b9 : Nat} {l r st pl : Int} (h : impl_looker_from.Rv w wr D b5 b6 b9 l r st pl) (s p : Int) :
    ((wr.setCell ⟨b6, 0, none⟩ (.int .i64 s)).setCell ⟨b6, 1, none⟩ (.int .i64 p)).heap[b6]? = some (.cells #[.int .i64 s, .int .i64 p] 43 (0, 0)) ∧ impl_newLooker.Lk ((wr.setCell ⟨b6, 0, none⟩ (.int .i64 s)).setCell ⟨b6, 1, none⟩ (.int .i64 p)) D ∧ impl_newLooker.MK D w ((wr.setCell ⟨b6, 0, none⟩ (.int .i64 s)).setCell ⟨b6, 1, none⟩ (.int .i64 p)) := by
  have k1 := impl_looker_from.keep_set h.lk h.kept h.lim (p := ⟨b6, 0, none⟩) h.g6 (.int .i64 s)
  have k2 := impl_looker_from.keep_set k1.1 k1.2 h.lim (p := ⟨b6, 1, none⟩) h.g6 (.int .i64 p)
  exact ⟨blk_put (cs := #[.int .i64 s, .int .i64 0]) (blk_put (cs := #[.int .i64 0, .int .i64 0]) h.h6 0 _ rfl) 1 _ rfl, k2.1, k2.2⟩
theorem impl_looker_from.run_look2 {lk : Int → Int → Option (Int × Int)} {es : Array MapEntry} {m clock : Nat} {x y : Int} (h : impl_newLooker.Good lk es) (hx : impl_newLooker.rg x) (hy : impl_newLooker.rg y) :
    (∀ w : World, w.heap[m]? = some (.map es clock) → (Instr.lookup 57 (.map (some m)) (.agg #[.int .i64 x, .int .i64 y]) true).run Tryd.prog w = .ok (.tuple #[.agg #[.int .i64 0, .int .i64 0], .bool false]) w) ∨
    ∃ s p, lk x y = some (s, p) ∧ ∀ w : World, w.heap[m]? = some (.map es clock) → (Instr.lookup 57 (.map (some m)) (.agg #[.int .i64 x, .int .i64 y]) true).run Tryd.prog w = .ok (.tuple #[.agg #[.int .i64 s, .int .i64 p], .bool true]) w := by
  have hkey := impl_newLooker.key39 (impl_newLooker.wf hx) (impl_newLooker.wf hy)
  have hz : ∀ w, (zeroValue 43).run Tryd.prog w = .ok (.agg #[.int .i64 0, .int .i64 0]) w := fun w => by kernel_rfl
  by_cases hex : ∃ e, e ∈ es.toList ∧ e.key = .agg #[.int .i64 x, .int .i64 y]
  · obtain ⟨e1, he1, hk1⟩ := hex
    obtain ⟨x1, y1, s, p, _, _, hk1', hv1, hl1⟩ := h e1 he1
    have e := hk1'.symm.trans hk1
    simp only [Value.agg.injEq, Array.mk.injEq, List.cons.injEq, Value.int.injEq, true_and, and_true] at e
    obtain ⟨rfl, rfl⟩ := e
    refine Or.inr ⟨s, p, hl1, fun w hb => ?_⟩
    rcases impl_newLooker.law39.find w hkey es.toList h.keys with ⟨h1, h2⟩ | ⟨j, e0, h1, h2, h3⟩
    · exact absurd hk1 (h2 e1 he1)
    · obtain ⟨x', y', s', p', _, _, hk, hv, hl⟩ := h e0 (List.mem_of_getElem? h2)
      have e := hk.symm.trans h3
      simp only [Value.agg.injEq, Array.mk.injEq, List.cons.injEq, Value.int.injEq, true_and, and_true] at e
      obtain ⟨rfl, rfl⟩ := e
      obtain ⟨rfl, rfl⟩ := Prod.mk.inj (Option.some.inj (hl1.symm.trans hl))
      simp [Instr.lookup, run_underlying Tryd.underlying57, MapKept.run_getObj_map hb, impl_newLooker.law39.check w _ hkey, h1, hv, Result.andThen]
  · refine Or.inl fun w hb => ?_
    rcases impl_newLooker.law39.find w hkey es.toList h.keys with ⟨h1, h2⟩ | ⟨j, e0, h1, h2, h3⟩
    · simp [Instr.lookup, run_underlying Tryd.underlying57, MapKept.run_getObj_map hb, impl_newLooker.law39.check w _ hkey, h1, hz, Result.andThen]
    · exact absurd ⟨e0, List.mem_of_getElem? h2, h3⟩ hex

set_option maxHeartbeats 16000000 in
set_option maxRecDepth 100000 in
theorem impl_looker_from.calls0 (D : impl_newLooker.Dk) (hL : ∀ p ∈ D.L, impl_newLooker.rg p) (hD : D.L.length ≤ 1000) : ∀ (d i : Nat) (l r s p : Int) (w : World), i + d = D.L.length → impl_newLooker.rg l → impl_newLooker.rg r → impl_newLooker.look D.c (D.L.drop i) l r = some (s, p) → impl_newLooker.Lk w D → D.lim ≤ w.heap.size →
    Calls Tryd.prog 23 #[.pointer (some ⟨D.lb, 0, none⟩), .int .i64 i, .agg #[.int .i64 l, .int .i64 r]] w fun e w' => e = .returned (.agg #[.int .i64 s, .int .i64 p]) ∧ impl_newLooker.Lk w' D ∧ impl_newLooker.MK D w w' := by
  intro d
  induction d with
  | zero =>
    intro i l r s p w hi hl hr h HL hlim
    obtain rfl : i = D.L.length := by omega
    rw [List.drop_length] at h
    obtain ⟨rfl, rfl⟩ := Prod.mk.inj (Option.some.inj h)
    have c0 : w.cell? ⟨D.lb, 0, none⟩ = some (.slice D.A D.L.length D.kc) := (blk_cell HL.box 0).trans rfl
    have hlt := blk_lt HL.box
    have HLk := Aside0.mk HL
    clear HL h
    go_enter Tryd.func23, Tryd.ntmps23
    go_wp2
    have hb : Below w.heap.size w ((w.alloc (.cells #[.int .i64 l, .int .i64 r] 39)).alloc (.cells #[.int .i64 0, .int .i64 1] 43)) := below_alloc (below_alloc (Below.refl _ _) _) _
    refine bodyPost_ret (results_cell_row rfl _ _ (w.heap.size + 1) 43 #[.int .i64 0, .int .i64 1] (0, 0) _ rfl (by have := blk_new (w.alloc (.cells #[.int .i64 l, .int .i64 r] 39)) (.cells #[.int .i64 0, .int .i64 1] 43); simpa using this) Tryd.underlying43 rfl (by kernel_rfl)) rfl ⟨rfl, HLk.out.keep fun k hk => hb.block k (by omega), impl_newLooker.MK.of_below hb⟩
  | succ d ih =>
    intro i l r s p w hi hl hr h HL hlim
    have hil : i < D.L.length := by omega
    obtain ⟨p0, hp0⟩ : ∃ p0, p0 = D.L.getD i 0 := ⟨_, rfl⟩
    have hdr : D.L.drop i = p0 :: D.L.drop (i + 1) := by
      rw [List.drop_eq_getElem_cons hil, hp0, List.getD_eq_getElem?_getD, List.getElem?_eq_getElem hil]
      rfl
    have hr0 : impl_newLooker.rg p0 := hL p0 (by rw [hp0, List.getD_eq_getElem?_getD, List.getElem?_eq_getElem hil]; exact List.getElem_mem hil)
    obtain ⟨kb, ko, hkb, hA, hkc⟩ := HL.keys i hil
    rw [← hp0] at hkc
    obtain ⟨es, cl, hmap, hgood⟩ := HL.maps i (by omega)
    obtain ⟨mi, hmi⟩ : ∃ mi, mi = D.ms.getD i 0 := ⟨_, rfl⟩
    have hrow := HL.row i (by omega)
    rw [← hmi] at hmap hrow
    have hmem : mi ∈ D.ms := by rw [hmi]; exact HL.mem (by omega)
    have c0 : w.cell? ⟨D.lb, 0, none⟩ = some (.slice D.A D.L.length D.kc) := (blk_cell HL.box 0).trans rfl
    have hbx := blk_lt HL.box
    have hu39 := Tryd.underlying39
    have hwi : IntKind.i64.wrap ((i : Int) + 1) = (i : Int) + 1 := (i64_w _).trans (by unfold wrap64; omega)
    have HLk := Aside0.mk HL
    have H := Aside0.mk h
    have HG := Aside0.mk hgood
    have HM := Aside0.mk hmap
    have HK := Aside0.mk hkc
    have HR0 := Aside0.mk hrow
    have HIH := Aside0.mk ih
    have HDr := Aside0.mk hdr
    have HA := Aside0.mk hA
    have HP0 := Aside0.mk hp0
    clear HL h hgood hmap hkc hrow ih hdr hp0 hA
    have hne : ((i : Int) = (D.L.length : Int)) = False := eq_false (by omega)
    have hned : decide ((i : Int) = (D.L.length : Int)) = false := decide_eq_false (by omega)
    have hbq : ((i : Int) == (D.L.length : Int)) = false := beq_eq_false_iff_ne.2 (by omega)
    go_enter Tryd.func23, Tryd.ntmps23
    go_upto_region 3 with fail
    have hb : Below w.heap.size w ((w.alloc (.cells #[.int .i64 l, .int .i64 r] 39)).alloc (.cells #[.int .i64 0, .int .i64 0] 43)) := below_alloc (below_alloc (Below.refl _ _) _) _
    have h5 : ((w.alloc (.cells #[.int .i64 l, .int .i64 r] 39)).alloc (.cells #[.int .i64 0, .int .i64 0] 43)).heap[w.heap.size]? = some (.cells #[.int .i64 l, .int .i64 r] 39 (0, 0)) := blk_alloc (blk_new _ _) _
    have h6 : ((w.alloc (.cells #[.int .i64 l, .int .i64 r] 39)).alloc (.cells #[.int .i64 0, .int .i64 0] 43)).heap[w.heap.size + 1]? = some (.cells #[.int .i64 0, .int .i64 0] 43 (0, 0)) := by have := blk_new (w.alloc (.cells #[.int .i64 l, .int .i64 r] 39)) (.cells #[.int .i64 0, .int .i64 0] 43); simpa using this
    have hs1 : ((w.alloc (.cells #[.int .i64 l, .int .i64 r] 39)).alloc (.cells #[.int .i64 0, .int .i64 0] 43)).heap.size = w.heap.size + 2 := by simp
    generalize ((w.alloc (.cells #[.int .i64 l, .int .i64 r] 39)).alloc (.cells #[.int .i64 0, .int .i64 0] 43)) = W1 at *
    obtain ⟨b5, hb5⟩ : ∃ b5, b5 = w.heap.size := ⟨_, rfl⟩
    obtain ⟨b6, hb6⟩ : ∃ b6, b6 = w.heap.size + 1 := ⟨_, rfl⟩
    rw [← hb5] at h5
    rw [← hb6] at h6
    simp only [← hb5, ← hb6]
    have HB1 := Aside0.mk hb
    have H5 := Aside0.mk h5
    have H6 := Aside0.mk h6
    have HS1 := Aside0.mk hs1
    have HE5 := Aside0.mk hb5
    have HE6 := Aside0.mk hb6
    have HL1 : Aside0 (impl_newLooker.Lk W1 D) := ⟨HLk.out.keep fun k hk => hb.block k (by omega)⟩
    have HM1 : Aside0 (W1.heap[mi]? = some (.map es cl)) := ⟨blk_below HM.out hb⟩
    have HMi := Aside0.mk hmi
    clear hb h5 h6 hs1 hb5 hb6 c0 hmi
    have c0 : W1.cell? ⟨D.lb, 0, none⟩ = some (.slice D.A D.L.length D.kc) := (blk_cell HL1.out.box 0).trans rfl
    have c1 : W1.cell? ⟨D.lb, 1, none⟩ = some (.bool D.c) := (blk_cell HL1.out.box 1).trans rfl
    have c2 : W1.cell? ⟨D.lb, 2, none⟩ = some (.slice (some ⟨D.mb, 0, none⟩) (D.L.length + 1) D.mc) := (blk_cell HL1.out.box 2).trans rfl
    have c3 : W1.cell? ⟨D.mb, i, none⟩ = some (.map (some mi)) := by rw [HMi.out]; exact HL1.out.row i (by omega)
    have c5 : W1.cell? ⟨b5, 0, none⟩ = some (.int .i64 l) := (blk_cell H5.out 0).trans rfl
    have c6 : W1.cell? ⟨b5, 1, none⟩ = some (.int .i64 r) := (blk_cell H5.out 1).trans rfl
    have hlt5 : b5 < W1.heap.size := blk_lt H5.out
    have hltb : D.lb < W1.heap.size := blk_lt HL1.out.box
    have hltm : D.mb < W1.heap.size := by have := HL1.out.mb_lt; have := HS1.out; omega
    have hi1 : (i : Int) < (D.L.length : Int) + 1 := by omega
    have hi0 : (0 : Int) ≤ (i : Int) := Int.natCast_nonneg _
    rcases impl_looker_from.run_look2 (m := mi) (clock := cl) HG.out hl hr with hmiss | ⟨s', p', hlk, hhit⟩
    · have q1 := hmiss W1.drew HM1.out
      have q2 := hmiss ((W1.alloc (.cells #[.int .i64 0, .int .i64 0] 43)).drew) (blk_alloc (w := W1) HM1.out _)
      clear hmiss hmem
      go_region
      all_goals as_aux_lemma =>
        have hb2 : Below W1.heap.size W1 ((W1.alloc (.cells #[.int .i64 0, .int .i64 0] 43)).drew) := (below_alloc (Below.refl _ _) _).drew
        generalize (W1.alloc (.cells #[.int .i64 0, .int .i64 0] 43)).drew = W2 at *
        have HB2 : Aside0 (Below w.heap.size w W2) := ⟨below_step HB1.out hb2⟩
        have H52 := Aside0.mk (blk_below H5.out hb2)
        have H62 := Aside0.mk (blk_below H6.out hb2)
        clear c0 c1 c2 c3 c5 c6 q1 q2 HB1 H5 H6 HM1 HL1 hb2 hltb hltm hi1 HM HR0 hlt5
        go_upto_region 7 with fail
        have hR : impl_looker_from.Rv w (W2.alloc (.cells #[.int .i64 (-1), .int .i64 0] 43)) D b5 (b5 + 1) W2.heap.size l r (-1) 0 := by
          have e5 := HE5.out
          have e6 := HE6.out
          have h6 := H62.out
          rw [show b6 = b5 + 1 by omega] at h6
          refine impl_looker_from.begin HLk.out hlim (below_alloc HB2.out _) (blk_alloc H52.out _) (blk_alloc h6 _) (by omega) (by omega) (blk_new _ _) ?_
          exact blk_lt h6
        have HRv := Aside0.mk hR
        have HAt : Aside0 (impl_looker_from.At D.c (D.L.drop (i + 1)) l r p0 s p 0 (-1) 0) := ⟨⟨rfl, rfl, by rw [← HDr.out]; exact H.out⟩⟩
        generalize W2.alloc (.cells #[.int .i64 (-1), .int .i64 0] 43) = W3 at *
        obtain ⟨b9, hb9⟩ : ∃ b9, b9 = W2.heap.size := ⟨_, rfl⟩
        rw [← hb9] at HRv
        simp only [← hb9]
        have HH := H
        clear hR HB2 H52 H62 HDr H HG HK HLk hb9 HMi hbx
        go_wp2
        go_loopg [37] 2 (fun gg s37 wr => ∃ (t : Nat) (st pl : Int), s37 = .int .i64 (t : Int) ∧ t + gg = 2 ∧ Aside0 (impl_looker_from.At D.c (D.L.drop (i + 1)) l r p0 s p t st pl) ∧ Aside0 (impl_looker_from.Rv w wr D b5 (b5 + 1) b9 l r st pl))
        case atStart => exact ⟨0, -1, 0, rfl, rfl, HAt, HRv⟩
        case round =>
          clear HAt HRv
          obtain ⟨t, st, pl, rfl, ht, HAt, HRv⟩ := hrel
          by_cases hlt : t < 2
          · obtain ⟨g, rfl⟩ : ∃ g, gk = g + 1 := ⟨gk - 1, by omega⟩
            obtain ⟨x, y, sd, s1, q1, hmv, hlk, hat⟩ := HAt.out.next hlt
            have HAt' := Aside0.mk hat
            have HMv : Aside0 (∀ W, Calls Tryd.prog 28 #[.agg #[.int .i64 l, .int .i64 r], .int .i64 (t : Int), .int .i64 p0, .bool D.c] W fun e w' => e = .returned (.tuple #[.agg #[.int .i64 x, .int .i64 y], .int .i64 sd]) ∧ Below W.heap.size W w') := ⟨fun W => impl_thumbs_moved.calls l r t p0 D.c x y sd W hmv⟩
            obtain ⟨hx, hy⟩ := impl_newLooker.moved_rg hmv hl hr hr0
            have HCl : Aside0 (∀ W, impl_newLooker.Lk W D → D.lim ≤ W.heap.size → Calls Tryd.prog 23 #[.pointer (some ⟨D.lb, 0, none⟩), .int .i64 ((i : Int) + 1), .agg #[.int .i64 x, .int .i64 y]] W fun e w' => e = .returned (.agg #[.int .i64 s1, .int .i64 q1]) ∧ impl_newLooker.Lk w' D ∧ impl_newLooker.MK D W w') := ⟨fun W h1 h2 => HIH.out (i + 1) x y s1 q1 W (by omega) hx hy hlk h1 h2⟩
            clear HAt hat hmv hx hy hlk
            have ht0 : (t : Int) < 2 := by omega
            have c0 : wr.cell? ⟨D.lb, 0, none⟩ = some (.slice (some ⟨kb, ko, none⟩) D.L.length D.kc) := by rw [← HA.out]; exact (blk_cell HRv.out.lk.box 0).trans rfl
            have c1 : wr.cell? ⟨D.lb, 1, none⟩ = some (.bool D.c) := (blk_cell HRv.out.lk.box 1).trans rfl
            have c3 : wr.cell? ⟨kb, ko + i, none⟩ = some (.int .i64 p0) := by
              obtain ⟨kb', ko', _, hA', hk'⟩ := HRv.out.lk.keys i hil
              cases (HA.out.symm.trans hA')
              rw [HP0.out]
              exact hk'
            have c5 : wr.cell? ⟨b5, 0, none⟩ = some (.int .i64 l) := (blk_cell HRv.out.h5 0).trans rfl
            have c6 : wr.cell? ⟨b5, 1, none⟩ = some (.int .i64 r) := (blk_cell HRv.out.h5 1).trans rfl
            have l5 : b5 < wr.heap.size := blk_lt HRv.out.h5
            have lb_ : D.lb < wr.heap.size := blk_lt HRv.out.lk.box
            have lk_ : kb < wr.heap.size := World.block_lt_of_cell? _ _ c3
            go_upto_region 10 with fail
            have n5 : wr.heap.size ≠ b5 := by omega
            have nb_ : wr.heap.size ≠ D.lb := by omega
            have nk_ : wr.heap.size ≠ kb := by omega
            go_region_held3 (fun w' => w'.cell? ⟨b5, 0, none⟩ = some (.int .i64 l) ∧ w'.cell? ⟨b5, 1, none⟩ = some (.int .i64 r) ∧ w'.cell? ⟨D.lb, 0, none⟩ = some (.slice (some ⟨kb, ko, none⟩) D.L.length D.kc) ∧ w'.cell? ⟨D.lb, 1, none⟩ = some (.bool D.c) ∧ w'.cell? ⟨kb, ko + i, none⟩ = some (.int .i64 p0)) (first | go_keep | (have a0 := (hb.cell (p := ⟨b5, 0, none⟩) l5).trans c5; have a1 := (hb.cell (p := ⟨b5, 1, none⟩) l5).trans c6; have a2 := (hb.cell (p := ⟨D.lb, 0, none⟩) lb_).trans c0; have a3 := (hb.cell (p := ⟨D.lb, 1, none⟩) lb_).trans c1; have a4 := (hb.cell (p := ⟨kb, ko + i, none⟩) lk_).trans c3; go_keep) | (go_split_ands; exact ⟨(hb.cell (World.block_lt_of_cell? _ _ (by assumption))).trans (by assumption), (hb.cell (World.block_lt_of_cell? _ _ (by assumption))).trans (by assumption), (hb.cell (World.block_lt_of_cell? _ _ (by assumption))).trans (by assumption), (hb.cell (World.block_lt_of_cell? _ _ (by assumption))).trans (by assumption), (hb.cell (World.block_lt_of_cell? _ _ (by assumption))).trans (by assumption)⟩)) (first | (go_at_call 28; refine (HMv.out _).mono ?_; rintro e w' ⟨rfl, hb⟩; (try (have zz : w'.heap[wr.heap.size]? = some (.cells #[.int .i64 0, .int .i64 0] 39 (0, 0)) := blk_below (blk_new wr _) (((Below.refl _ _).drew).trans hb); have z0 : w'.cell? ⟨wr.heap.size, 0, none⟩ = some (.int .i64 0) := (blk_cell zz 0).trans rfl; have z1 : w'.cell? ⟨wr.heap.size, 1, none⟩ = some (.int .i64 0) := (blk_cell zz 1).trans rfl; have z2 := blk_frozen zz 0; have z3 := blk_frozen zz 1; have z4 := blk_lt zz))))
            all_goals first
              | (have hbw : Below wr.heap.size wr (w'.alloc (.cells #[.int .i64 x, .int .i64 y] 39)) := below_alloc (((Below.refl _ _).drew).trans hb) _
                 have h11 := blk_new w' (.cells #[.int .i64 x, .int .i64 y] 39)
                 have g11 : wr.heap.size ≤ w'.heap.size := hb.size
                 clear hb
                 generalize w'.alloc (.cells #[.int .i64 x, .int .i64 y] 39) = W4 at *
                 generalize w'.heap.size = b11 at *)
              | (have hbw : Below wr.heap.size wr ((w'.setCell ⟨wr.heap.size, 0, none⟩ (.int .i64 x)).setCell ⟨wr.heap.size, 1, none⟩ (.int .i64 y)) := below_set (below_set (((below_alloc (Below.refl wr.heap.size wr) _).drew).trans (hb.mono (by simp))) (Nat.le_refl _)) (Nat.le_refl _)
                 have h11 : ((w'.setCell ⟨wr.heap.size, 0, none⟩ (.int .i64 x)).setCell ⟨wr.heap.size, 1, none⟩ (.int .i64 y)).heap[wr.heap.size]? = some (.cells #[.int .i64 x, .int .i64 y] 39 (0, 0)) := blk_put (cs := #[.int .i64 x, .int .i64 0]) (blk_put (cs := #[.int .i64 0, .int .i64 0]) zz 0 _ rfl) 1 _ rfl
                 clear hb zz z0 z1 z2 z3 z4
                 generalize ((w'.setCell ⟨wr.heap.size, 0, none⟩ (.int .i64 x)).setCell ⟨wr.heap.size, 1, none⟩ (.int .i64 y)) = W4 at *
                 obtain ⟨b11, hb11⟩ : ∃ b11, b11 = wr.heap.size := ⟨_, rfl⟩
                 have g11 : wr.heap.size ≤ b11 := by omega
                 rw [← hb11] at h11
                 simp only [← hb11]
                 clear hb11)
            all_goals as_aux_lemma =>
              have HR4 := Aside0.mk (HRv.out.grow hbw)
              have H11 := Aside0.mk h11
              have hlim4 : Aside0 (D.lim ≤ W4.heap.size) := ⟨by have := hbw.size; have := HRv.out.kept.size; omega⟩
              clear c0 c1 c3 c5 c6 n5 nb_ nk_ l5 lb_ lk_ hbw h11 HRv HMv
              have e0 : W4.cell? ⟨b11, 0, none⟩ = some (.int .i64 x) := (blk_cell H11.out 0).trans rfl
              have e1 : W4.cell? ⟨b11, 1, none⟩ = some (.int .i64 y) := (blk_cell H11.out 1).trans rfl
              go_upto_region 12 with (first | (go_at_call 23; refine (HCl.out _ HR4.out.lk hlim4.out).mono ?_; rintro e w5 ⟨rfl, hlk5, hmk5⟩))
              have HR5 := Aside0.mk ((HR4.out.call hlk5 hmk5).grow (below_alloc (Below.refl _ _) (.cells #[.int .i64 s1, .int .i64 q1] 43)))
              have h13 := blk_new w5 (.cells #[.int .i64 s1, .int .i64 q1] 43)
              have hf5 := blk_lt (HR4.out.call hlk5 hmk5).h5
              have hf6 := blk_lt (HR4.out.call hlk5 hmk5).h6
              have hf9 := blk_lt (HR4.out.call hlk5 hmk5).h9
              have hfw : w.heap.size ≤ w5.heap.size := (HR4.out.call hlk5 hmk5).kept.size
              clear hlk5 hmk5 HR4 H11 e0 e1 hlim4 HCl
              generalize w5.alloc (.cells #[.int .i64 s1, .int .i64 q1] 43) = W6 at *
              generalize w5.heap.size = b13 at *
              have e0 : W6.cell? ⟨b13, 0, none⟩ = some (.int .i64 s1) := (blk_cell h13 0).trans rfl
              have e1 := blk_frozen h13 0
              obtain ⟨u, hu⟩ : ∃ u, u = wrap64 (s1 + sd) := ⟨_, rfl⟩
              have hwu : IntKind.i64.wrap (s1 + sd) = u := by rw [i64_w, hu]
              have HU := Aside0.mk hu
              clear hu
              go_upto_region 13 with fail
              have HR7 := Aside0.mk (HR5.out.far (p := ⟨b13, 0, none⟩) hfw (Nat.ne_of_lt hf5) (Nat.ne_of_lt hf6) (Nat.ne_of_lt hf9) (.int .i64 u))
              have h14 : (W6.setCell ⟨b13, 0, none⟩ (.int .i64 u)).heap[b13]? = some (.cells #[.int .i64 u, .int .i64 q1] 43 (0, 0)) := blk_put h13 0 _ rfl
              clear h13 HR5 e0 e1 hf5 hf6 hfw
              generalize W6.setCell ⟨b13, 0, none⟩ (.int .i64 u) = W7 at *
              have e0 : W7.cell? ⟨b13, 0, none⟩ = some (.int .i64 u) := (blk_cell h14 0).trans rfl
              have e1 : W7.cell? ⟨b13, 1, none⟩ = some (.int .i64 q1) := (blk_cell h14 1).trans rfl
              have e2 : W7.cell? ⟨b9, 0, none⟩ = some (.int .i64 st) := (blk_cell HR7.out.h9 0).trans rfl
              have e3 : W7.cell? ⟨b9, 1, none⟩ = some (.int .i64 pl) := (blk_cell HR7.out.h9 1).trans rfl
              have e4 := blk_frozen HR7.out.h9 0
              have e5 := blk_frozen HR7.out.h9 1
              have hwt : IntKind.i64.wrap ((t : Int) + 1) = (t : Int) + 1 := (i64_w _).trans (by unfold wrap64; omega)
              have H14 := Aside0.mk h14
              clear h14
              as_aux_lemma =>
              by_cases k1 : st < 0
              · have hrn : impl_newLooker.rnd st pl s1 q1 sd = (u, q1) := by
                  unfold impl_newLooker.rnd
                  rw [← HU.out, if_pos (Or.inl k1)]
                have HA9 : Aside0 (impl_looker_from.At D.c (D.L.drop (i + 1)) l r p0 s p (t + 1) u q1) := ⟨by have := HAt'.out; rw [hrn] at this; exact this⟩
                have HR9 := Aside0.mk ((HR7.out.steps u).plans q1)
                have k2 : decide (st < 0) = true := decide_eq_true k1
                clear HAt' HR7 hrn HU H14
                go_wp2
                go_roundg g
                case measure => omega
                case rel => exact ⟨t + 1, u, q1, by go_num, by omega, HA9, HR9⟩
              · have k2 : decide (st < 0) = false := decide_eq_false k1
                by_cases k3 : u < st
                · have hrn : impl_newLooker.rnd st pl s1 q1 sd = (u, q1) := by
                    unfold impl_newLooker.rnd
                    rw [← HU.out, if_pos (Or.inr k3)]
                  have HA9 : Aside0 (impl_looker_from.At D.c (D.L.drop (i + 1)) l r p0 s p (t + 1) u q1) := ⟨by have := HAt'.out; rw [hrn] at this; exact this⟩
                  have HR9 := Aside0.mk ((HR7.out.steps u).plans q1)
                  have k4 : decide (u < st) = true := decide_eq_true k3
                  clear HAt' HR7 hrn HU H14
                  go_wp2
                  go_roundg g
                  case measure => omega
                  case rel => exact ⟨t + 1, u, q1, by go_num, by omega, HA9, HR9⟩
                · have k4 : decide (u < st) = false := decide_eq_false k3
                  have hno : ¬ (st < 0 ∨ u < st) := by omega
                  by_cases k5 : u = st
                  · have hrn : impl_newLooker.rnd st pl s1 q1 sd = (st, wrap64 (pl + q1)) := by
                      unfold impl_newLooker.rnd
                      rw [← HU.out, if_neg hno, if_pos k5]
                    obtain ⟨v, hv⟩ : ∃ v, v = wrap64 (pl + q1) := ⟨_, rfl⟩
                    rw [← hv] at hrn
                    have hwv : IntKind.i64.wrap (pl + q1) = v := by rw [i64_w, hv]
                    have HA9 : Aside0 (impl_looker_from.At D.c (D.L.drop (i + 1)) l r p0 s p (t + 1) st v) := ⟨by have := HAt'.out; rw [hrn] at this; exact this⟩
                    have HR9 := Aside0.mk (HR7.out.plans v)
                    clear HAt' HR7 hrn HU H14 hv
                    go_wp2
                    go_roundg g
                    case measure => omega
                    case rel => exact ⟨t + 1, st, v, by go_num, by omega, HA9, HR9⟩
                  · have hrn : impl_newLooker.rnd st pl s1 q1 sd = (st, pl) := by
                      unfold impl_newLooker.rnd
                      rw [← HU.out, if_neg hno, if_neg k5]
                    have HA9 : Aside0 (impl_looker_from.At D.c (D.L.drop (i + 1)) l r p0 s p (t + 1) st pl) := ⟨by have := HAt'.out; rw [hrn] at this; exact this⟩
                    have HR9 := HR7
                    clear HAt' HR7 hrn HU H14
                    go_wp2
                    go_roundg g
                    case measure => omega
                    case rel => exact ⟨t + 1, st, pl, by go_num, by omega, HA9, HR9⟩
          · obtain rfl : gk = 0 := by omega
            obtain rfl : t = 2 := by omega
            obtain ⟨rfl, rfl⟩ := HAt.out
            obtain ⟨es2, cl2, hm2, hg2⟩ := HRv.out.lk.maps i (by omega)
            obtain ⟨es3, cl3, hrun, hg3⟩ := impl_newLooker.run_put (w := wr.drew) hm2 hg2 hl hr (show impl_newLooker.look D.c (D.L.drop i) l r = some (st, pl) from HH.out)
            have HR3 := Aside0.mk (HRv.out.put (cl' := cl3) (by omega) hm2 hg3)
            obtain ⟨mi, hmi⟩ : ∃ mi, mi = D.ms.getD i 0 := ⟨_, rfl⟩
            rw [← hmi] at hrun HR3
            have c2 : wr.cell? ⟨D.lb, 2, none⟩ = some (.slice (some ⟨D.mb, 0, none⟩) (D.L.length + 1) D.mc) := (blk_cell HRv.out.lk.box 2).trans rfl
            have c3 : wr.cell? ⟨D.mb, i, none⟩ = some (.map (some mi)) := by rw [hmi]; exact HRv.out.lk.row i (by omega)
            have c5 : wr.cell? ⟨b5, 0, none⟩ = some (.int .i64 l) := (blk_cell HRv.out.h5 0).trans rfl
            have c6 : wr.cell? ⟨b5, 1, none⟩ = some (.int .i64 r) := (blk_cell HRv.out.h5 1).trans rfl
            have c7 : wr.cell? ⟨b9, 0, none⟩ = some (.int .i64 st) := (blk_cell HRv.out.h9 0).trans rfl
            have c8 : wr.cell? ⟨b9, 1, none⟩ = some (.int .i64 pl) := (blk_cell HRv.out.h9 1).trans rfl
            have hi1 : (i : Int) < (D.L.length : Int) + 1 := by omega
            have hd2 : decide ((2 : Int) < 2) = false := by decide
            clear HRv hmi hm2 hg2 hg3
            go_upto_region 18 with fail
            go_region
            all_goals as_aux_lemma =>
              generalize ChangeMaps.setBlock wr.drew mi (.map es3 cl3) = W9 at *
              have d0 : W9.cell? ⟨b9, 0, none⟩ = some (.int .i64 st) := (blk_cell HR3.out.h9 0).trans rfl
              have d1 : W9.cell? ⟨b9, 1, none⟩ = some (.int .i64 pl) := (blk_cell HR3.out.h9 1).trans rfl
              have d2 : W9.cell? ⟨b5 + 1, 0, none⟩ = some (.int .i64 0) := (blk_cell HR3.out.h6 0).trans rfl
              have d3 : W9.cell? ⟨b5 + 1, 1, none⟩ = some (.int .i64 0) := (blk_cell HR3.out.h6 1).trans rfl
              have d4 := blk_frozen HR3.out.h6 0
              have d5 := blk_frozen HR3.out.h6 1
              clear c2 c3 c5 c6 c7 c8 hrun
              go_wp2
              obtain ⟨o1, o2, o3⟩ := HR3.out.out_ st pl
              exact bodyPost_ret (results_cell_row rfl _ _ (b5 + 1) 43 #[.int .i64 st, .int .i64 pl] (0, 0) _ rfl o1 Tryd.underlying43 rfl (by kernel_rfl)) rfl ⟨rfl, o2, o3⟩
    · have q1 := hhit W1.drew HM1.out
      have q2 := hhit ((W1.alloc (.cells #[.int .i64 0, .int .i64 0] 43)).drew) (blk_alloc (w := W1) HM1.out _)
      have hsp : (s', p') = (s, p) := Option.some.inj (hlk.symm.trans H.out)
      obtain ⟨rfl, rfl⟩ := Prod.mk.inj hsp
      have h6 := H6.out
      rw [show b6 = b5 + 1 by have := HE5.out; have := HE6.out; omega] at h6
      have H6' := Aside0.mk h6
      clear hhit hmem hlk hsp h6 H6
      go_region
      all_goals as_aux_lemma =>
        have hb2 : Below W1.heap.size W1 ((W1.alloc (.cells #[.int .i64 s', .int .i64 p'] 43)).drew) := (below_alloc (Below.refl _ _) _).drew
        have h7 : ((W1.alloc (.cells #[.int .i64 s', .int .i64 p'] 43)).drew).heap[W1.heap.size]? = some (.cells #[.int .i64 s', .int .i64 p'] 43 (0, 0)) := blk_new W1 _
        generalize ((W1.alloc (.cells #[.int .i64 s', .int .i64 p'] 43)).drew) = W2 at *
        have HR : Aside0 (impl_looker_from.Rv w W2 D b5 (b5 + 1) W1.heap.size l r s' p') := ⟨impl_looker_from.begin HLk.out hlim (below_step HB1.out hb2) (blk_below H5.out hb2) (blk_below H6'.out hb2) (by have := HE5.out; omega) (by have := HE5.out; omega) h7 (blk_lt H6'.out)⟩
        clear c0 c1 c2 c3 c5 c6 q1 q2 hb2 h7 HB1 H5 H6' HM1 HL1 HM HR0 hltb hltm
        have d0 : W2.cell? ⟨W1.heap.size, 0, none⟩ = some (.int .i64 s') := (blk_cell HR.out.h9 0).trans rfl
        have d1 : W2.cell? ⟨W1.heap.size, 1, none⟩ = some (.int .i64 p') := (blk_cell HR.out.h9 1).trans rfl
        have d2 : W2.cell? ⟨b5 + 1, 0, none⟩ = some (.int .i64 0) := (blk_cell HR.out.h6 0).trans rfl
        have d3 : W2.cell? ⟨b5 + 1, 1, none⟩ = some (.int .i64 0) := (blk_cell HR.out.h6 1).trans rfl
        have d4 := blk_frozen HR.out.h6 0
        have d5 := blk_frozen HR.out.h6 1
        go_wp2
        obtain ⟨o1, o2, o3⟩ := HR.out.out_ s' p'
        exact bodyPost_ret (results_cell_row rfl _ _ (b5 + 1) 43 #[.int .i64 s', .int .i64 p'] (0, 0) _ rfl o1 Tryd.underlying43 rfl (by kernel_rfl)) rfl ⟨rfl, o2, o3⟩
def impl_looker_from.f (_k : Nat) (t : List Int × Bool) (i l r : Int) : Option (Int × Int) := if 0 ≤ i ∧ i ≤ (t.1.length : Int) ∧ t.1.length ≤ 1000 ∧ (0 ≤ l ∧ l ≤ 11) ∧ (0 ≤ r ∧ r ≤ 11) ∧ (t.1.all fun p => decide (0 ≤ p) && decide (p ≤ 11)) = true then impl_newLooker.look t.2 (t.1.drop i.toNat) l r else none
theorem impl_looker_from.mono : ∀ t i l r k, LeO (impl_looker_from.f k t i l r) (impl_looker_from.f (k + 1) t i l r) := fun _ _ _ _ _ => LeO.refl _
theorem impl_looker_from.calls (k : Nat) (t : List Int × Bool) (i l r s p : Int) (w : World) (h : impl_looker_from.f k t i l r = some (s, p)) (D : impl_newLooker.Dk) (hDL : D.L = t.1) (hDc : D.c = t.2) (HL : impl_newLooker.Lk w D) (hlim : D.lim ≤ w.heap.size) :
    Calls Tryd.prog 23 #[.pointer (some ⟨D.lb, 0, none⟩), .int .i64 i, .agg #[.int .i64 l, .int .i64 r]] w fun e w' => e = .returned (.agg #[.int .i64 s, .int .i64 p]) ∧ impl_newLooker.Lk w' D ∧ impl_newLooker.MK D w w' := by
  unfold impl_looker_from.f at h
  split at h
  · rename_i hc
    obtain ⟨h0, h1, h2, h3, h4, h5⟩ := hc
    obtain ⟨j, rfl⟩ : ∃ j : Nat, i = (j : Int) := ⟨i.toNat, by omega⟩
    rw [Int.toNat_natCast, ← hDL, ← hDc] at h
    rw [← hDL] at h1 h2 h5
    refine impl_looker_from.calls0 D (fun q hq => ?_) h2 (D.L.length - j) j l r s p w (by omega) h3 h4 h HL hlim
    have := List.all_eq_true.1 h5 q hq
    simp only [Bool.and_eq_true, decide_eq_true_eq] at this
    exact this
  · cases h

end Go.Proofs.YthnjmokaiiajmaaDoor.P

namespace Go.Proofs.YthnjmokaiiajmaaDoor.P
open Go.RowKit Go.Proofs.YthnjmokaiiajmaaDoorW.PrintWords Go.Proofs.YthnjmokaiiajmaaDoorW.PrintLast Go.Proofs.YthnjmokaiiajmaaDoorW.PrintMore
attribute [local go_sem] max2_int min2_int max_two min_two max_three min_three max_four min_four   -- for this text's walks alone
set_option linter.unusedVariables false
set_option linter.unusedSimpArgs false

/-! ### impl_BestStarts: function 12 -/
def impl_BestStarts.pad : ByteArray := (⟨#[49, 50, 51, 52, 53, 54, 55, 56, 57, 42, 48, 35]⟩ : ByteArray)
def impl_BestStarts.stp (t : List Int × Bool) : Nat → Nat → Int → Int → Int → Option (Int × Int × Int)
  | 0, _, bl, br, le => some (bl, br, le)
  | d + 1, i, bl, br, le => (impl_looker_from.f 0 t 0 ((i / 12 : Nat) : Int) ((i % 12 : Nat) : Int)).bind fun o => if le < 0 ∨ o.1 < le then impl_BestStarts.stp t d (i + 1) ((i / 12 : Nat) : Int) ((i % 12 : Nat) : Int) o.1 else impl_BestStarts.stp t d (i + 1) bl br le
def impl_BestStarts.cut (b : Int × Int × Int) : Option (ByteArray × ByteArray × Int × Bool) :=
  if (0 ≤ b.1 ∧ b.1 ≤ 11) ∧ 0 ≤ b.2.1 ∧ b.2.1 ≤ 11 then some (impl_BestStarts.pad.extract b.1.toNat (b.1 + 1).toNat, impl_BestStarts.pad.extract b.2.1.toNat (b.2.1 + 1).toNat, b.2.2, true) else none
def impl_BestStarts.f (k : Nat) (a0 : ByteArray) (a1 : Bool) : Option (ByteArray × ByteArray × Int × Bool) := (impl_IsDialed.f a0).bind fun ok => (if ok = true then ((impl_newLooker.f k a0 a1).bind fun t => ((impl_BestStarts.stp t 144 0 0 0 (-1)).bind fun b => impl_BestStarts.cut b)) else (some ((⟨#[]⟩ : ByteArray), (⟨#[]⟩ : ByteArray), 0, false)))
theorem impl_BestStarts.mono : ∀ a0 a1 k, LeO (impl_BestStarts.f k a0 a1) (impl_BestStarts.f (k + 1) a0 a1) := by
  intro a0 a1 k
  unfold impl_BestStarts.f
  refine LeO.bind (LeO.refl _) (fun _ => ?_)
  refine LeO.ite ?_ (LeO.refl _)
  exact LeO.bind (impl_newLooker.mono _ _ _) (fun _ => LeO.refl _)
/-- The state of both loops. -/
structure impl_BestStarts.Bs (w wr : World) (D : impl_newLooker.Dk) (b9 : Nat) (bl br : Int) : Prop where
  lk : impl_newLooker.Lk wr D
  kept : impl_newLooker.MK D w wr
  lim : D.lim ≤ w.heap.size
  h9 : wr.heap[b9]? = some (.cells #[.int .i64 bl, .int .i64 br] 39 (0, 0))
  g9 : w.heap.size ≤ b9
theorem impl_BestStarts.Bs.grow {w wr w2 : World} {D : impl_newLooker.Dk} {b9 : Nat} {bl br : Int} (h : impl_BestStarts.Bs w wr D b9 bl br) (hb : Below wr.heap.size wr w2) : impl_BestStarts.Bs w w2 D b9 bl br :=
  ⟨h.lk.keep fun k hk => hb.block k (by have := h.lim; have := h.kept.size; omega), h.kept.trans (impl_newLooker.MK.of_below hb), h.lim, blk_below h.h9 hb, h.g9⟩
theorem impl_BestStarts.Bs.call {w wr w2 : World} {D : impl_newLooker.Dk} {b9 : Nat} {bl br : Int} (h : impl_BestStarts.Bs w wr D b9 bl br) (hl : impl_newLooker.Lk w2 D) (hm : impl_newLooker.MK D wr w2) : impl_BestStarts.Bs w w2 D b9 bl br :=
  ⟨hl, h.kept.trans hm, h.lim, hm.blk h.lk h.h9, h.g9⟩
theorem impl_BestStarts.Bs.put {w wr : World} {D : impl_newLooker.Dk} {b9 : Nat} {bl br : Int} (h : impl_BestStarts.Bs w wr D b9 bl br) (x y : Int) : impl_BestStarts.Bs w ((wr.setCell ⟨b9, 0, none⟩ (.int .i64 x)).setCell ⟨b9, 1, none⟩ (.int .i64 y)) D b9 x y := by
  have k1 := impl_looker_from.keep_set h.lk h.kept h.lim (p := ⟨b9, 0, none⟩) h.g9 (.int .i64 x)
  have k2 := impl_looker_from.keep_set k1.1 k1.2 h.lim (p := ⟨b9, 1, none⟩) h.g9 (.int .i64 y)
  exact ⟨k2.1, k2.2, h.lim, blk_put (cs := #[.int .i64 x, .int .i64 br]) (blk_put h.h9 0 _ rfl) 1 _ rfl, h.g9⟩
set_option maxHeartbeats 8000000 in
set_option maxRecDepth 100000 in
theorem impl_BestStarts.calls (k : Nat) (a0 : ByteArray) (a1 : Bool) (r1 : ByteArray) (r2 : ByteArray) (r3 : Int) (r4 : Bool) (w : World) (h : impl_BestStarts.f k a0 a1 = some (r1, r2, r3, r4)) :
    Calls Tryd.prog 12 #[.string a0, .bool a1] w fun e w' => e = .returned (.tuple #[.string r1, .string r2, .int .i64 r3, .bool r4]) ∧ Below w.heap.size w w' := by
  have hu39 := Tryd.underlying39
  have hu43 := Tryd.underlying43
  unfold impl_BestStarts.f at h
  obtain ⟨ok, h1, h⟩ := Option.bind_eq_some_iff.1 h
  have H1 := Aside0.mk h1
  clear h1
  cases ok with
  | false =>
    rw [if_neg (by simp)] at h
    simp only [Option.some.injEq, Prod.mk.injEq] at h
    obtain ⟨rfl, rfl, rfl, rfl⟩ := h
    go_enter Tryd.func12, Tryd.ntmps12
    go_wp2_with (first | (go_at_call 25; refine (impl_IsDialed.calls a0 false _ H1.out).mono ?_; rintro e w1 ⟨rfl, hb⟩))
    refine bodyPost_ret (results_list (rs := [.tmp 4, .tmp 5, .tmp 6, .tmp 7]) rfl (by simp) (.tmp (.tmp (.tmp (.tmp .nil))))) rfl ?_
    exact ⟨rfl, hb⟩
  | true =>
    rw [if_pos rfl] at h
    obtain ⟨t, h2, h⟩ := Option.bind_eq_some_iff.1 h
    obtain ⟨fin, h3, h⟩ := Option.bind_eq_some_iff.1 h
    have H2 := Aside0.mk h2
    have H3 := Aside0.mk h3
    have H4 := Aside0.mk h
    clear h2 h3 h
    go_enter Tryd.func12, Tryd.ntmps12
    go_upto_region 4 with (first | (go_at_call 25; refine (impl_IsDialed.calls a0 true _ H1.out).mono ?_; rintro e w1 ⟨rfl, hb⟩) | (go_at_call 22; refine (impl_newLooker.calls k a0 a1 t _ H2.out).mono ?_; rintro e w2 ⟨D, rfl, hDL, hDc, hlim, hms, hLk, hb2⟩))
    have HBw : Aside0 (Below w.heap.size w w2) := ⟨below_step hb hb2⟩
    have HMs : Aside0 (∀ m ∈ D.ms, w.heap.size ≤ m) := ⟨fun m hm => Nat.le_trans hb.size (hms.ms m hm)⟩
    have h9 := blk_new w2 (.cells #[.int .i64 0, .int .i64 0] 39)
    have HX : Aside0 (impl_BestStarts.Bs w2 (w2.alloc (.cells #[.int .i64 0, .int .i64 0] 39)) D w2.heap.size 0 0) := ⟨hLk.keep fun q hq => Below.heap_alloc _ _ _ (by omega), impl_newLooker.MK.of_below (below_alloc (Below.refl _ _) _), hlim, h9, Nat.le_refl _⟩
    have HD := Aside0.mk hDL
    have HC := Aside0.mk hDc
    clear h9 hb hb2 hms hLk hlim H1 H2 hDL hDc
    generalize w2.alloc (.cells #[.int .i64 0, .int .i64 0] 39) = W3 at *
    obtain ⟨b9, hb9⟩ : ∃ b9, b9 = w2.heap.size := ⟨_, rfl⟩
    rw [← hb9] at HX
    simp only [← hb9]
    clear hb9
    go_wp2
    go_loopg [10, 22] 12 (fun gg v10 v22 wr => ∃ (a : Nat) (bl br le : Int), v10 = .int .i64 le ∧ v22 = .int .i64 (a : Int) ∧ a + gg = 12 ∧ Aside0 (impl_BestStarts.stp t (12 * gg) (12 * a) bl br le = some fin) ∧ Aside0 (impl_BestStarts.Bs w2 wr D b9 bl br))
    case atStart => exact ⟨0, 0, 0, -1, rfl, rfl, rfl, H3, HX⟩
    case round =>
      clear H3 HX
      obtain ⟨a, bl, br, le, rfl, rfl, ha, HA, HX⟩ := hrel
      by_cases hlt : a < 12
      · obtain ⟨g, rfl⟩ : ∃ g, gk = g + 1 := ⟨gk - 1, by omega⟩
        have ha0 : (a : Int) < 12 := by omega
        have had : decide ((a : Int) < 12) = true := decide_eq_true ha0
        have hwa : IntKind.i64.wrap ((a : Int) + 1) = (a : Int) + 1 := (i64_w _).trans (by unfold wrap64; omega)
        go_wp2
        go_loopg [10, 25] 12 (fun gg v10 v25 wr => ∃ (b : Nat) (bl br le : Int), v10 = .int .i64 le ∧ v25 = .int .i64 (b : Int) ∧ b + gg = 12 ∧ Aside0 (impl_BestStarts.stp t (12 * g + gg) (12 * a + b) bl br le = some fin) ∧ Aside0 (impl_BestStarts.Bs w2 wr D b9 bl br))
        case atStart => exact ⟨0, bl, br, le, rfl, rfl, rfl, ⟨by have := HA.out; rw [show 12 * (g + 1) = 12 * g + 12 by omega] at this; exact this⟩, HX⟩
        case round =>
          clear HA HX
          obtain ⟨b, bl, br, le, rfl, rfl, hb, HA, HX⟩ := hrel
          by_cases hlb : b < 12
          · obtain ⟨q, rfl⟩ : ∃ q, gk = q + 1 := ⟨gk - 1, by omega⟩
            have hb0 : (b : Int) < 12 := by omega
            have hbd : decide ((b : Int) < 12) = true := decide_eq_true hb0
            have hwb : IntKind.i64.wrap ((b : Int) + 1) = (b : Int) + 1 := (i64_w _).trans (by unfold wrap64; omega)
            have hA := HA.out
            rw [show 12 * g + (q + 1) = (12 * g + q) + 1 by omega, impl_BestStarts.stp, show (12 * a + b) / 12 = a by omega, show (12 * a + b) % 12 = b by omega] at hA
            obtain ⟨⟨s, p⟩, ho, hA⟩ := Option.bind_eq_some_iff.1 hA
            have HO := Aside0.mk ho
            have HA2 := Aside0.mk hA
            clear HA hA ho
            go_upto_region 11 with fail
            have h13 := blk_new wr (.cells #[.int .i64 (a : Int), .int .i64 (b : Int)] 39)
            have HX2 := Aside0.mk (HX.out.grow (below_alloc (Below.refl _ _) (.cells #[.int .i64 (a : Int), .int .i64 (b : Int)] 39)))
            have hf9 := blk_lt HX.out.h9
            clear HX
            generalize wr.alloc (.cells #[.int .i64 (a : Int), .int .i64 (b : Int)] 39) = W4 at *
            obtain ⟨b13, hb13⟩ : ∃ b13, b13 = wr.heap.size := ⟨_, rfl⟩
            rw [← hb13] at h13 hf9
            simp only [← hb13]
            clear hb13
            have c0 : W4.cell? ⟨b13, 0, none⟩ = some (.int .i64 (a : Int)) := (blk_cell h13 0).trans rfl
            have c1 : W4.cell? ⟨b13, 1, none⟩ = some (.int .i64 (b : Int)) := (blk_cell h13 1).trans rfl
            have H13 := Aside0.mk h13
            clear h13
            have hfl : ∀ W : World, (Instr.field 43 (.agg #[.int .i64 s, .int .i64 p]) 0).run Tryd.prog W = .ok (.int .i64 s) W := fun W => by kernel_rfl
            have hlim4 : Aside0 (D.lim ≤ W4.heap.size) := ⟨Nat.le_trans HX2.out.lim HX2.out.kept.size⟩
            go_upto_region 12 with (first | (go_at_call 23; refine (impl_looker_from.calls 0 t 0 (a : Int) (b : Int) s p _ HO.out D HD.out HC.out HX2.out.lk hlim4.out).mono ?_; rintro e w5 ⟨rfl, hLk5, hMK5⟩))
            have HX5 := Aside0.mk (HX2.out.call hLk5 hMK5)
            have H13' := Aside0.mk (hMK5.blk HX2.out.lk H13.out)
            clear hLk5 hMK5 HX2 H13 c0 c1 hlim4 HO hfl
            have c0 : w5.cell? ⟨b13, 0, none⟩ = some (.int .i64 (a : Int)) := (blk_cell H13'.out 0).trans rfl
            have c1 : w5.cell? ⟨b13, 1, none⟩ = some (.int .i64 (b : Int)) := (blk_cell H13'.out 1).trans rfl
            have c2 : w5.cell? ⟨b9, 0, none⟩ = some (.int .i64 bl) := (blk_cell HX5.out.h9 0).trans rfl
            have c3 : w5.cell? ⟨b9, 1, none⟩ = some (.int .i64 br) := (blk_cell HX5.out.h9 1).trans rfl
            have c4 := blk_frozen HX5.out.h9 0
            have c5 := blk_frozen HX5.out.h9 1
            by_cases k1 : le < 0
            · have k2 : decide (le < 0) = true := decide_eq_true k1
              have HA3 : Aside0 (impl_BestStarts.stp t (12 * g + q) (12 * a + (b + 1)) (a : Int) (b : Int) s = some fin) := ⟨by have := HA2.out; rw [if_pos (Or.inl k1)] at this; exact this⟩
              have HX9 := Aside0.mk (HX5.out.put (a : Int) (b : Int))
              clear HA2 HX5 H13'
              go_wp2
              go_roundg q
              case measure => omega
              case rel => exact ⟨b + 1, _, _, s, rfl, by go_num, by omega, HA3, HX9⟩
            · have k2 : decide (le < 0) = false := decide_eq_false k1
              by_cases k3 : s < le
              · have k4 : decide (s < le) = true := decide_eq_true k3
                have HA3 : Aside0 (impl_BestStarts.stp t (12 * g + q) (12 * a + (b + 1)) (a : Int) (b : Int) s = some fin) := ⟨by have := HA2.out; rw [if_pos (Or.inr k3)] at this; exact this⟩
                have HX9 := Aside0.mk (HX5.out.put (a : Int) (b : Int))
                clear HA2 HX5 H13'
                go_wp2
                go_roundg q
                case measure => omega
                case rel => exact ⟨b + 1, _, _, s, rfl, by go_num, by omega, HA3, HX9⟩
              · have k4 : decide (s < le) = false := decide_eq_false k3
                have HA3 : Aside0 (impl_BestStarts.stp t (12 * g + q) (12 * a + (b + 1)) bl br le = some fin) := ⟨by have := HA2.out; rw [if_neg (by omega)] at this; exact this⟩
                clear HA2 H13' c0 c1 c2 c3 c4 c5
                go_wp2
                go_roundg q
                case measure => omega
                case rel => exact ⟨b + 1, _, _, le, rfl, by go_num, by omega, HA3, HX5⟩
          · obtain rfl : gk = 0 := by omega
            obtain rfl : b = 12 := by omega
            have HA3 : Aside0 (impl_BestStarts.stp t (12 * g) (12 * (a + 1)) bl br le = some fin) := ⟨by have := HA.out; rw [show 12 * g + 0 = 12 * g by omega, show 12 * a + 12 = 12 * (a + 1) by omega] at this; exact this⟩
            have hbd : decide (((12 : Nat) : Int) < 12) = false := by decide
            clear HA
            go_wp2
            go_roundg g
            case measure => omega
            case rel => exact ⟨a + 1, bl, br, le, rfl, by go_num, by omega, HA3, HX⟩
      · obtain rfl : gk = 0 := by omega
        obtain rfl : a = 12 := by omega
        have hA := HA.out
        rw [show 12 * 0 = 0 by omega, impl_BestStarts.stp] at hA
        obtain rfl := Option.some.inj hA
        have h := H4.out
        unfold impl_BestStarts.cut at h
        split at h
        · rename_i hc
          obtain ⟨⟨x0, x1⟩, y0, y1⟩ := hc
          dsimp only at x0 x1 y0 y1
          simp only [Option.some.injEq, Prod.mk.injEq] at h
          obtain ⟨rfl, rfl, rfl, rfl⟩ := h
          have HBf := Aside0.mk (HX.out.kept.below HBw.out HBw.out.size HMs.out)
          have c2 : wr.cell? ⟨b9, 0, none⟩ = some (.int .i64 bl) := (blk_cell HX.out.h9 0).trans rfl
          have c3 : wr.cell? ⟨b9, 1, none⟩ = some (.int .i64 br) := (blk_cell HX.out.h9 1).trans rfl
          have hbd : decide (((12 : Nat) : Int) < 12) = false := by decide
          have v1 : IntKind.i64.wrap (bl + 1) = bl + 1 := (i64_w _).trans (by unfold wrap64; omega)
          have v2 : IntKind.i64.wrap (br + 1) = br + 1 := (i64_w _).trans (by unfold wrap64; omega)
          have z1 : bl ≤ bl + 1 := by omega
          have z2 : br ≤ br + 1 := by omega
          have z3 : bl + 1 ≤ 12 := by omega
          have z4 : br + 1 ≤ 12 := by omega
          clear HA H4 HX
          go_wp2
          go_quiet (fail)
          try go_wp2
          refine bodyPost_ret (results_list (rs := [.tmp 4, .tmp 5, .tmp 6, .tmp 7]) rfl (by simp) (.tmp (.tmp (.tmp (.tmp .nil))))) rfl ?_
          exact ⟨rfl, by first | exact pw_below_drewN HBf.out _ | exact HBf.out⟩
        · cases h

end Go.Proofs.YthnjmokaiiajmaaDoor.P

namespace Go.Proofs.YthnjmokaiiajmaaDoor.P
open Go.RowKit Go.Proofs.YthnjmokaiiajmaaDoorW.PrintWords Go.Proofs.YthnjmokaiiajmaaDoorW.PrintLast Go.Proofs.YthnjmokaiiajmaaDoorW.PrintMore
attribute [local go_sem] max2_int min2_int max_two min_two max_three min_three max_four min_four   -- for this text's walks alone
set_option linter.unusedVariables false
set_option linter.unusedSimpArgs false

/-! ### laws_FnExactBestStarts: function 5 -/
def laws_FnExactBestStarts.f (k : Nat) (a0 : ByteArray) (a1 : Bool) : Option (Bool) := if (a0.size : Int) > 1048576 then (some true) else ((spec_BestStarts.f k a0 a1).bind fun bt178 => ((impl_BestStarts.f k a0 a1).bind fun bt182 => (if bt182.1.toList = bt178.1.toList then (if bt182.2.1.toList = bt178.2.1.toList then (if bt182.2.2.1 = bt178.2.2.1 then (if (bt182.2.2.2 != bt178.2.2.2) = true then (some false) else (some true)) else (some false)) else (some false)) else (some false))))
theorem laws_FnExactBestStarts.mono : ∀ a0 a1 k, LeO (laws_FnExactBestStarts.f k a0 a1) (laws_FnExactBestStarts.f (k + 1) a0 a1) := by
  intro a0 a1 k
  unfold laws_FnExactBestStarts.f
  repeat' first
      | (with_reducible exact impl_BestStarts.mono _ _ _)
      | (with_reducible exact spec_BestStarts.mono _ _ _)
      | (with_reducible exact LeO.refl _)
      | (with_reducible exact LeO.none _)
      | (with_reducible refine LeO.ite ?_ ?_)
      | (with_reducible refine LeO.bind ?_ (fun _ => ?_))
      | exact impl_BestStarts.mono _ _ _
      | exact spec_BestStarts.mono _ _ _
      | exact LeO.none _
      | refine LeO.ite ?_ ?_
      | refine LeO.bind ?_ (fun _ => ?_)
set_option maxHeartbeats 8000000 in
set_option maxRecDepth 100000 in
theorem laws_FnExactBestStarts.calls (k : Nat) (a0 : ByteArray) (a1 : Bool) (r : Bool) (w : World) (h : laws_FnExactBestStarts.f k a0 a1 = some r) :
    Calls Tryd.prog 5 #[.string a0, .bool a1] w fun e w' => e = .returned (.bool r) ∧ Below w.heap.size w w' := by
  have HB := Aside0.mk (Below.refl w.heap.size w)
  have H : (if (a0.size : Int) > 1048576 then (some true) else ((spec_BestStarts.f k a0 a1).bind fun bt178 => ((impl_BestStarts.f k a0 a1).bind fun bt182 => (if bt182.1.toList = bt178.1.toList then (if bt182.2.1.toList = bt178.2.1.toList then (if bt182.2.2.1 = bt178.2.2.1 then (if (bt182.2.2.2 != bt178.2.2.2) = true then (some false) else (some true)) else (some false)) else (some false)) else (some false))))) = some r := h
  clear h
  by_cases c3 : (a0.size : Int) > 1048576
  · rw [if_pos c3] at H
    have c3b0 : decide (1048576 < (a0.size : Int)) = true := decide_eq_true c3
    have c3b1 : decide (1048576 < a0.size) = true := decide_eq_true (by omega)
    clear c3
    obtain rfl := Option.some.inj H
    go_enter Tryd.func5, Tryd.ntmps5
    go_wp2
    go_ret
    exact ⟨by first | rfl | (simp [errW_none, errW_some] <;> rfl) | (simp [*, errW_none, errW_some] <;> rfl), by repeat (first | (with_reducible first | exact HB.out | apply below_alloc | apply pw_below_drewN | apply below_drew1) | exact HB.out)⟩
  · rw [if_neg c3] at H
    have c3b0 : decide (1048576 < (a0.size : Int)) = false := decide_eq_false c3
    have c3b1 : decide (1048576 < a0.size) = false := decide_eq_false (by omega)
    clear c3
    replace H := Option.bind_eq_some_iff.mp H
    obtain ⟨⟨t178, t179, t180, t181⟩, A40, H⟩ := H
    replace H : ((impl_BestStarts.f k a0 a1).bind fun bt182 => (if bt182.1.toList = t178.toList then (if bt182.2.1.toList = t179.toList then (if bt182.2.2.1 = t180 then (if (bt182.2.2.2 != t181) = true then (some false) else (some true)) else (some false)) else (some false)) else (some false))) = some r := H
    have A4 := Aside0.mk A40
    clear A40
    replace H := Option.bind_eq_some_iff.mp H
    obtain ⟨⟨t182, t183, t184, t185⟩, A50, H⟩ := H
    replace H : (if t182.toList = t178.toList then (if t183.toList = t179.toList then (if t184 = t180 then (if (t185 != t181) = true then (some false) else (some true)) else (some false)) else (some false)) else (some false)) = some r := H
    have A5 := Aside0.mk A50
    clear A50
    by_cases c6 : t182.toList = t178.toList
    · rw [if_pos c6] at H
      have c6b0 : (t182.toList == t178.toList) = true := beq_iff_eq.mpr c6
      have c6b1 : (t182.toList != t178.toList) = false := bne_eq_false_iff_eq.mpr c6
      clear c6
      by_cases c7 : t183.toList = t179.toList
      · rw [if_pos c7] at H
        have c7b0 : (t183.toList == t179.toList) = true := beq_iff_eq.mpr c7
        have c7b1 : (t183.toList != t179.toList) = false := bne_eq_false_iff_eq.mpr c7
        clear c7
        by_cases c8 : t184 = t180
        · rw [if_pos c8] at H
          have c8b0 : (t184 == t180) = true := beq_iff_eq.mpr c8
          have c8b1 : (t184 != t180) = false := bne_eq_false_iff_eq.mpr c8
          clear c8
          by_cases c9 : (t185 != t181) = true
          · rw [if_pos c9] at H
            have c9b0 : (t185 != t181) = true := c9
            (try (have c9b1 : decide (t185 = t181) = false := by simpa using c9))
            (try (have c9b2 : (t185 == t181) = false := by simpa using c9))
            (try (have c9b3 : ¬ (t185 = t181) := by simpa using c9))
            clear c9
            obtain rfl := Option.some.inj H
            go_enter Tryd.func5, Tryd.ntmps5
            go_wp2_with (first | ((with_reducible refine gate_callee (f := 11) rfl ?_); refine goesL_ (some 19) rfl rfl Tryd.func11 (by kernel_rfl) rfl #[.string a0, .bool a1] rfl (by (try simp only [List.map_toArray, List.map_cons, List.map_nil]); first | done | rfl | (simp only [List.length_drop, List.length_take]; rfl)) ?_; (with_reducible refine (spec_BestStarts.calls k a0 a1 t178 t179 t180 t181 _ A4.out).mono ?_); rintro e w10 ⟨rfl, hb⟩; refine ⟨_, rfl, ?_⟩; have n0_ := Aside0.mk (below_step (by repeat (first | (with_reducible first | exact HB.out | apply below_alloc | apply pw_below_drewN | apply below_drew1) | exact HB.out)) hb); clear HB; have HB := n0_; clear n0_; (try clear hb); (try clear hb2); (try clear hk); (try clear hi)) | ((with_reducible refine gate_callee (f := 12) rfl ?_); refine goesL_ (some 27) rfl rfl Tryd.func12 (by kernel_rfl) rfl #[.string a0, .bool a1] rfl (by (try simp only [List.map_toArray, List.map_cons, List.map_nil]); first | done | rfl | (simp only [List.length_drop, List.length_take]; rfl)) ?_; (with_reducible refine (impl_BestStarts.calls k a0 a1 t182 t183 t184 t185 _ A5.out).mono ?_); rintro e w11 ⟨rfl, hb⟩; refine ⟨_, rfl, ?_⟩; have n0_ := Aside0.mk (below_step (by repeat (first | (with_reducible first | exact HB.out | apply below_alloc | apply pw_below_drewN | apply below_drew1) | exact HB.out)) hb); clear HB; have HB := n0_; clear n0_; (try clear hb); (try clear hb2); (try clear hk); (try clear hi)))
            go_ret
            exact ⟨by first | rfl | (simp [errW_none, errW_some] <;> rfl) | (simp [*, errW_none, errW_some] <;> rfl), by repeat (first | (with_reducible first | exact HB.out | apply below_alloc | apply pw_below_drewN | apply below_drew1) | exact HB.out)⟩
          · rw [if_neg c9] at H
            have c9b0 : (t185 != t181) = false := by simpa using c9
            (try (have c9b1 : decide (t185 = t181) = true := by simpa using c9))
            (try (have c9b2 : (t185 == t181) = true := by simpa using c9))
            clear c9
            obtain rfl := Option.some.inj H
            go_enter Tryd.func5, Tryd.ntmps5
            go_wp2_with (first | ((with_reducible refine gate_callee (f := 11) rfl ?_); refine goesL_ (some 19) rfl rfl Tryd.func11 (by kernel_rfl) rfl #[.string a0, .bool a1] rfl (by (try simp only [List.map_toArray, List.map_cons, List.map_nil]); first | done | rfl | (simp only [List.length_drop, List.length_take]; rfl)) ?_; (with_reducible refine (spec_BestStarts.calls k a0 a1 t178 t179 t180 t181 _ A4.out).mono ?_); rintro e w12 ⟨rfl, hb⟩; refine ⟨_, rfl, ?_⟩; have n0_ := Aside0.mk (below_step (by repeat (first | (with_reducible first | exact HB.out | apply below_alloc | apply pw_below_drewN | apply below_drew1) | exact HB.out)) hb); clear HB; have HB := n0_; clear n0_; (try clear hb); (try clear hb2); (try clear hk); (try clear hi)) | ((with_reducible refine gate_callee (f := 12) rfl ?_); refine goesL_ (some 27) rfl rfl Tryd.func12 (by kernel_rfl) rfl #[.string a0, .bool a1] rfl (by (try simp only [List.map_toArray, List.map_cons, List.map_nil]); first | done | rfl | (simp only [List.length_drop, List.length_take]; rfl)) ?_; (with_reducible refine (impl_BestStarts.calls k a0 a1 t182 t183 t184 t185 _ A5.out).mono ?_); rintro e w13 ⟨rfl, hb⟩; refine ⟨_, rfl, ?_⟩; have n0_ := Aside0.mk (below_step (by repeat (first | (with_reducible first | exact HB.out | apply below_alloc | apply pw_below_drewN | apply below_drew1) | exact HB.out)) hb); clear HB; have HB := n0_; clear n0_; (try clear hb); (try clear hb2); (try clear hk); (try clear hi)))
            go_ret
            exact ⟨by first | rfl | (simp [errW_none, errW_some] <;> rfl) | (simp [*, errW_none, errW_some] <;> rfl), by repeat (first | (with_reducible first | exact HB.out | apply below_alloc | apply pw_below_drewN | apply below_drew1) | exact HB.out)⟩
        · rw [if_neg c8] at H
          have c8b0 : (t184 == t180) = false := beq_eq_false_iff_ne.mpr c8
          have c8b1 : (t184 != t180) = true := bne_iff_ne.mpr c8
          obtain rfl := Option.some.inj H
          go_enter Tryd.func5, Tryd.ntmps5
          go_wp2_with (first | ((with_reducible refine gate_callee (f := 11) rfl ?_); refine goesL_ (some 19) rfl rfl Tryd.func11 (by kernel_rfl) rfl #[.string a0, .bool a1] rfl (by (try simp only [List.map_toArray, List.map_cons, List.map_nil]); first | done | rfl | (simp only [List.length_drop, List.length_take]; rfl)) ?_; (with_reducible refine (spec_BestStarts.calls k a0 a1 t178 t179 t180 t181 _ A4.out).mono ?_); rintro e w14 ⟨rfl, hb⟩; refine ⟨_, rfl, ?_⟩; have n0_ := Aside0.mk (below_step (by repeat (first | (with_reducible first | exact HB.out | apply below_alloc | apply pw_below_drewN | apply below_drew1) | exact HB.out)) hb); clear HB; have HB := n0_; clear n0_; (try clear hb); (try clear hb2); (try clear hk); (try clear hi)) | ((with_reducible refine gate_callee (f := 12) rfl ?_); refine goesL_ (some 27) rfl rfl Tryd.func12 (by kernel_rfl) rfl #[.string a0, .bool a1] rfl (by (try simp only [List.map_toArray, List.map_cons, List.map_nil]); first | done | rfl | (simp only [List.length_drop, List.length_take]; rfl)) ?_; (with_reducible refine (impl_BestStarts.calls k a0 a1 t182 t183 t184 t185 _ A5.out).mono ?_); rintro e w15 ⟨rfl, hb⟩; refine ⟨_, rfl, ?_⟩; have n0_ := Aside0.mk (below_step (by repeat (first | (with_reducible first | exact HB.out | apply below_alloc | apply pw_below_drewN | apply below_drew1) | exact HB.out)) hb); clear HB; have HB := n0_; clear n0_; (try clear hb); (try clear hb2); (try clear hk); (try clear hi)))
          go_ret
          exact ⟨by first | rfl | (simp [errW_none, errW_some] <;> rfl) | (simp [*, errW_none, errW_some] <;> rfl), by repeat (first | (with_reducible first | exact HB.out | apply below_alloc | apply pw_below_drewN | apply below_drew1) | exact HB.out)⟩
      · rw [if_neg c7] at H
        have c7b0 : (t183.toList == t179.toList) = false := beq_eq_false_iff_ne.mpr c7
        have c7b1 : (t183.toList != t179.toList) = true := bne_iff_ne.mpr c7
        obtain rfl := Option.some.inj H
        go_enter Tryd.func5, Tryd.ntmps5
        go_wp2_with (first | ((with_reducible refine gate_callee (f := 11) rfl ?_); refine goesL_ (some 19) rfl rfl Tryd.func11 (by kernel_rfl) rfl #[.string a0, .bool a1] rfl (by (try simp only [List.map_toArray, List.map_cons, List.map_nil]); first | done | rfl | (simp only [List.length_drop, List.length_take]; rfl)) ?_; (with_reducible refine (spec_BestStarts.calls k a0 a1 t178 t179 t180 t181 _ A4.out).mono ?_); rintro e w16 ⟨rfl, hb⟩; refine ⟨_, rfl, ?_⟩; have n0_ := Aside0.mk (below_step (by repeat (first | (with_reducible first | exact HB.out | apply below_alloc | apply pw_below_drewN | apply below_drew1) | exact HB.out)) hb); clear HB; have HB := n0_; clear n0_; (try clear hb); (try clear hb2); (try clear hk); (try clear hi)) | ((with_reducible refine gate_callee (f := 12) rfl ?_); refine goesL_ (some 27) rfl rfl Tryd.func12 (by kernel_rfl) rfl #[.string a0, .bool a1] rfl (by (try simp only [List.map_toArray, List.map_cons, List.map_nil]); first | done | rfl | (simp only [List.length_drop, List.length_take]; rfl)) ?_; (with_reducible refine (impl_BestStarts.calls k a0 a1 t182 t183 t184 t185 _ A5.out).mono ?_); rintro e w17 ⟨rfl, hb⟩; refine ⟨_, rfl, ?_⟩; have n0_ := Aside0.mk (below_step (by repeat (first | (with_reducible first | exact HB.out | apply below_alloc | apply pw_below_drewN | apply below_drew1) | exact HB.out)) hb); clear HB; have HB := n0_; clear n0_; (try clear hb); (try clear hb2); (try clear hk); (try clear hi)))
        go_ret
        exact ⟨by first | rfl | (simp [errW_none, errW_some] <;> rfl) | (simp [*, errW_none, errW_some] <;> rfl), by repeat (first | (with_reducible first | exact HB.out | apply below_alloc | apply pw_below_drewN | apply below_drew1) | exact HB.out)⟩
    · rw [if_neg c6] at H
      have c6b0 : (t182.toList == t178.toList) = false := beq_eq_false_iff_ne.mpr c6
      have c6b1 : (t182.toList != t178.toList) = true := bne_iff_ne.mpr c6
      obtain rfl := Option.some.inj H
      go_enter Tryd.func5, Tryd.ntmps5
      go_wp2_with (first | ((with_reducible refine gate_callee (f := 11) rfl ?_); refine goesL_ (some 19) rfl rfl Tryd.func11 (by kernel_rfl) rfl #[.string a0, .bool a1] rfl (by (try simp only [List.map_toArray, List.map_cons, List.map_nil]); first | done | rfl | (simp only [List.length_drop, List.length_take]; rfl)) ?_; (with_reducible refine (spec_BestStarts.calls k a0 a1 t178 t179 t180 t181 _ A4.out).mono ?_); rintro e w18 ⟨rfl, hb⟩; refine ⟨_, rfl, ?_⟩; have n0_ := Aside0.mk (below_step (by repeat (first | (with_reducible first | exact HB.out | apply below_alloc | apply pw_below_drewN | apply below_drew1) | exact HB.out)) hb); clear HB; have HB := n0_; clear n0_; (try clear hb); (try clear hb2); (try clear hk); (try clear hi)) | ((with_reducible refine gate_callee (f := 12) rfl ?_); refine goesL_ (some 27) rfl rfl Tryd.func12 (by kernel_rfl) rfl #[.string a0, .bool a1] rfl (by (try simp only [List.map_toArray, List.map_cons, List.map_nil]); first | done | rfl | (simp only [List.length_drop, List.length_take]; rfl)) ?_; (with_reducible refine (impl_BestStarts.calls k a0 a1 t182 t183 t184 t185 _ A5.out).mono ?_); rintro e w19 ⟨rfl, hb⟩; refine ⟨_, rfl, ?_⟩; have n0_ := Aside0.mk (below_step (by repeat (first | (with_reducible first | exact HB.out | apply below_alloc | apply pw_below_drewN | apply below_drew1) | exact HB.out)) hb); clear HB; have HB := n0_; clear n0_; (try clear hb); (try clear hb2); (try clear hk); (try clear hi)))
      go_ret
      exact ⟨by first | rfl | (simp [errW_none, errW_some] <;> rfl) | (simp [*, errW_none, errW_some] <;> rfl), by repeat (first | (with_reducible first | exact HB.out | apply below_alloc | apply pw_below_drewN | apply below_drew1) | exact HB.out)⟩

/-- THE ONE PURE STATEMENT of laws_FnExactBestStarts: yours. -/
def laws_FnExactBestStarts.Pure : Prop := ∀ (a0 : ByteArray) (a1 : Bool), a0.size ≤ 140737488351232 → ∃ k, laws_FnExactBestStarts.f k a0 a1 = some true
theorem laws_FnExactBestStarts.walk (P : laws_FnExactBestStarts.Pure) (a0 : ByteArray) (a1 : Bool) (w : World) (w0 : a0.size ≤ 140737488351232) :
    Calls Tryd.prog 5 #[.string a0, .bool a1] w fun e w' => e = .returned (.bool true) ∧ Below w.heap.size w w' := by
  obtain ⟨k, h⟩ := P a0 a1 w0
  refine (laws_FnExactBestStarts.calls k a0 a1 true w h).mono ?_
  rintro e w' ⟨rfl, hd⟩
  exact ⟨rfl, hd⟩

end Go.Proofs.YthnjmokaiiajmaaDoor.P

namespace Go.Proofs.YthnjmokaiiajmaaDoor.P
open Go.RowKit Go.Proofs.YthnjmokaiiajmaaDoorW.PrintWords Go.Proofs.YthnjmokaiiajmaaDoorW.PrintLast Go.Proofs.YthnjmokaiiajmaaDoorW.PrintMore
attribute [local go_sem] max2_int min2_int max_two min_two max_three min_three max_four min_four   -- for this text's walks alone
set_option linter.unusedVariables false
set_option linter.unusedSimpArgs false

/-! ### spec_thOne: function 29 -/
def spec_thOne.f (k : Nat) (a0 : ByteArray) : Option (Bool) := if (a0.size : Int) = 1 then ((spec_thGood.f k a0).bind fun t102 => (some t102)) else (some false)
theorem spec_thOne.mono : ∀ a0 k, LeO (spec_thOne.f k a0) (spec_thOne.f (k + 1) a0) := by
  intro a0 k
  unfold spec_thOne.f
  repeat' first
      | (with_reducible exact spec_thGood.mono _ _)
      | (with_reducible exact LeO.refl _)
      | (with_reducible exact LeO.none _)
      | (with_reducible refine LeO.ite ?_ ?_)
      | (with_reducible refine LeO.bind ?_ (fun _ => ?_))
      | exact spec_thGood.mono _ _
      | exact LeO.none _
      | refine LeO.ite ?_ ?_
      | refine LeO.bind ?_ (fun _ => ?_)
set_option maxHeartbeats 8000000 in
set_option maxRecDepth 100000 in
theorem spec_thOne.calls (k : Nat) (a0 : ByteArray) (r : Bool) (w : World) (h : spec_thOne.f k a0 = some r) :
    Calls Tryd.prog 29 #[.string a0] w fun e w' => e = .returned (.bool r) ∧ Drawn0 w w' := by
  have H : (if (a0.size : Int) = 1 then ((spec_thGood.f k a0).bind fun t102 => (some t102)) else (some false)) = some r := h
  clear h
  by_cases c2 : (a0.size : Int) = 1
  · rw [if_pos c2] at H
    have c2b0 : ((a0.size : Int) == 1) = true := beq_iff_eq.mpr c2
    have c2b1 : ((a0.size : Int) != 1) = false := bne_eq_false_iff_eq.mpr c2
    clear c2
    replace H := Option.bind_eq_some_iff.mp H
    obtain ⟨t102, A30, H⟩ := H
    replace H : (some t102) = some r := H
    have A3 := Aside0.mk A30
    clear A30
    obtain rfl := Option.some.inj H
    go_enter Tryd.func29, Tryd.ntmps29
    go_wp2_with (first | (go_at_call 24; (with_reducible refine (spec_thGood.calls k a0 t102 _ A3.out).mono ?_); rintro e w' ⟨rfl, ⟨nd, rfl⟩⟩))
    go_ret
    exact ⟨by first | rfl | (simp; done) | (simp [*]; done), by repeat (first | exact Drawn0.refl _ | apply Drawn0.step)⟩
  · rw [if_neg c2] at H
    have c2b0 : ((a0.size : Int) == 1) = false := beq_eq_false_iff_ne.mpr c2
    have c2b1 : ((a0.size : Int) != 1) = true := bne_iff_ne.mpr c2
    obtain rfl := Option.some.inj H
    go_enter Tryd.func29, Tryd.ntmps29
    go_wp2
    go_ret
    exact ⟨by first | rfl | (simp; done) | (simp [*]; done), by repeat (first | exact Drawn0.refl _ | apply Drawn0.step)⟩

end Go.Proofs.YthnjmokaiiajmaaDoor.P

namespace Go.Proofs.YthnjmokaiiajmaaDoor.P
open Go.RowKit Go.Proofs.YthnjmokaiiajmaaDoorW.PrintWords Go.Proofs.YthnjmokaiiajmaaDoorW.PrintLast Go.Proofs.YthnjmokaiiajmaaDoorW.PrintMore
attribute [local go_sem] max2_int min2_int max_two min_two max_three min_three max_four min_four   -- for this text's walks alone
set_option linter.unusedVariables false
set_option linter.unusedSimpArgs false

/-! ### spec_thBoth: function 18 -/
def spec_thBoth.f (k : Nat) (a0 : ByteArray) (a1 : ByteArray) (a2 : ByteArray) : Option (Bool) := (spec_thGood.f k a0).bind fun t103 => (if t103 = true then ((spec_thOne.f k a1).bind fun t104 => (if t104 = true then ((spec_thOne.f k a2).bind fun t105 => (some t105)) else (some false))) else (some false))
theorem spec_thBoth.mono : ∀ a0 a1 a2 k, LeO (spec_thBoth.f k a0 a1 a2) (spec_thBoth.f (k + 1) a0 a1 a2) := by
  intro a0 a1 a2 k
  unfold spec_thBoth.f
  repeat' first
      | (with_reducible exact spec_thGood.mono _ _)
      | (with_reducible exact spec_thOne.mono _ _)
      | (with_reducible exact LeO.refl _)
      | (with_reducible exact LeO.none _)
      | (with_reducible refine LeO.ite ?_ ?_)
      | (with_reducible refine LeO.bind ?_ (fun _ => ?_))
      | exact spec_thGood.mono _ _
      | exact spec_thOne.mono _ _
      | exact LeO.none _
      | refine LeO.ite ?_ ?_
      | refine LeO.bind ?_ (fun _ => ?_)
set_option maxHeartbeats 8000000 in
set_option maxRecDepth 100000 in
theorem spec_thBoth.calls (k : Nat) (a0 : ByteArray) (a1 : ByteArray) (a2 : ByteArray) (r : Bool) (w : World) (h : spec_thBoth.f k a0 a1 a2 = some r) :
    Calls Tryd.prog 18 #[.string a0, .string a1, .string a2] w fun e w' => e = .returned (.bool r) ∧ Drawn0 w w' := by
  have H : ((spec_thGood.f k a0).bind fun t103 => (if t103 = true then ((spec_thOne.f k a1).bind fun t104 => (if t104 = true then ((spec_thOne.f k a2).bind fun t105 => (some t105)) else (some false))) else (some false))) = some r := h
  clear h
  replace H := Option.bind_eq_some_iff.mp H
  obtain ⟨t103, A40, H⟩ := H
  replace H : (if t103 = true then ((spec_thOne.f k a1).bind fun t104 => (if t104 = true then ((spec_thOne.f k a2).bind fun t105 => (some t105)) else (some false))) else (some false)) = some r := H
  have A4 := Aside0.mk A40
  clear A40
  by_cases c5 : t103 = true
  · subst c5
    have H1 : ((spec_thOne.f k a1).bind fun t104 => (if t104 = true then ((spec_thOne.f k a2).bind fun t105 => (some t105)) else (some false))) = some r := by rw [if_pos rfl] at H; exact H
    clear H
    have H := H1
    clear H1
    replace H := Option.bind_eq_some_iff.mp H
    obtain ⟨t104, A60, H⟩ := H
    replace H : (if t104 = true then ((spec_thOne.f k a2).bind fun t105 => (some t105)) else (some false)) = some r := H
    have A6 := Aside0.mk A60
    clear A60
    by_cases c7 : t104 = true
    · subst c7
      have H1 : ((spec_thOne.f k a2).bind fun t105 => (some t105)) = some r := by rw [if_pos rfl] at H; exact H
      clear H
      have H := H1
      clear H1
      replace H := Option.bind_eq_some_iff.mp H
      obtain ⟨t105, A80, H⟩ := H
      replace H : (some t105) = some r := H
      have A8 := Aside0.mk A80
      clear A80
      obtain rfl := Option.some.inj H
      go_enter Tryd.func18, Tryd.ntmps18
      go_wp2_with (first | ((with_reducible refine gate_callee (f := 24) rfl ?_); refine goesL_ (some 8) rfl rfl Tryd.func24 (by kernel_rfl) rfl #[.string a0] rfl (by (try simp only [List.map_toArray, List.map_cons, List.map_nil]); first | done | rfl | (simp only [List.length_drop, List.length_take]; rfl)) ?_; (with_reducible refine (spec_thGood.calls k a0 true _ A4.out).mono ?_); rintro e w' ⟨rfl, ⟨nd, rfl⟩⟩; refine ⟨_, rfl, ?_⟩) | (go_at_call 29; (with_reducible refine (spec_thOne.calls k a1 true _ A6.out).mono ?_); rintro e w' ⟨rfl, ⟨nd, rfl⟩⟩) | (go_at_call 29; (with_reducible refine (spec_thOne.calls k a2 t105 _ A8.out).mono ?_); rintro e w' ⟨rfl, ⟨nd, rfl⟩⟩))
      go_ret
      exact ⟨by first | rfl | (simp; done) | (simp [*]; done), by repeat (first | exact Drawn0.refl _ | apply Drawn0.step)⟩
    · replace c7 := Bool.eq_false_iff.mpr c7
      subst c7
      have H1 : (some false) = some r := by rw [if_neg (show ¬ (false = true) by decide)] at H; exact H
      clear H
      have H := H1
      clear H1
      obtain rfl := Option.some.inj H
      go_enter Tryd.func18, Tryd.ntmps18
      go_wp2_with (first | ((with_reducible refine gate_callee (f := 24) rfl ?_); refine goesL_ (some 8) rfl rfl Tryd.func24 (by kernel_rfl) rfl #[.string a0] rfl (by (try simp only [List.map_toArray, List.map_cons, List.map_nil]); first | done | rfl | (simp only [List.length_drop, List.length_take]; rfl)) ?_; (with_reducible refine (spec_thGood.calls k a0 true _ A4.out).mono ?_); rintro e w' ⟨rfl, ⟨nd, rfl⟩⟩; refine ⟨_, rfl, ?_⟩) | (go_at_call 29; (with_reducible refine (spec_thOne.calls k a1 false _ A6.out).mono ?_); rintro e w' ⟨rfl, ⟨nd, rfl⟩⟩))
      go_ret
      exact ⟨by first | rfl | (simp; done) | (simp [*]; done), by repeat (first | exact Drawn0.refl _ | apply Drawn0.step)⟩
  · replace c5 := Bool.eq_false_iff.mpr c5
    subst c5
    have H1 : (some false) = some r := by rw [if_neg (show ¬ (false = true) by decide)] at H; exact H
    clear H
    have H := H1
    clear H1
    obtain rfl := Option.some.inj H
    go_enter Tryd.func18, Tryd.ntmps18
    go_wp2_with (first | ((with_reducible refine gate_callee (f := 24) rfl ?_); refine goesL_ (some 8) rfl rfl Tryd.func24 (by kernel_rfl) rfl #[.string a0] rfl (by (try simp only [List.map_toArray, List.map_cons, List.map_nil]); first | done | rfl | (simp only [List.length_drop, List.length_take]; rfl)) ?_; (with_reducible refine (spec_thGood.calls k a0 false _ A4.out).mono ?_); rintro e w' ⟨rfl, ⟨nd, rfl⟩⟩; refine ⟨_, rfl, ?_⟩))
    go_ret
    exact ⟨by first | rfl | (simp; done) | (simp [*]; done), by repeat (first | exact Drawn0.refl _ | apply Drawn0.step)⟩

end Go.Proofs.YthnjmokaiiajmaaDoor.P

namespace Go.Proofs.YthnjmokaiiajmaaDoor.P
open Go.RowKit Go.Proofs.YthnjmokaiiajmaaDoorW.PrintWords Go.Proofs.YthnjmokaiiajmaaDoorW.PrintLast Go.Proofs.YthnjmokaiiajmaaDoorW.PrintMore
attribute [local go_sem] max2_int min2_int max_two min_two max_three min_three max_four min_four   -- for this text's walks alone
set_option linter.unusedVariables false
set_option linter.unusedSimpArgs false

/-! ### spec_thAt: function 20 -/
def spec_thAt.f (k : Nat) (a0 : ByteArray) (a1 : ByteArray) : Option (Int) := if 0 < (a0.size : Int) then ((spec_thPlace.f k (bt a0 0)).bind fun t112 => (if 0 < (a1.size : Int) then ((spec_thPlace.f k (bt a1 0)).bind fun t113 => (some (wrap64 ((wrap64 (12 * t112)) + t113)))) else (none))) else (none)
theorem spec_thAt.mono : ∀ a0 a1 k, LeO (spec_thAt.f k a0 a1) (spec_thAt.f (k + 1) a0 a1) := by
  intro a0 a1 k
  unfold spec_thAt.f
  repeat' first
      | (with_reducible exact spec_thPlace.mono _ _)
      | (with_reducible exact LeO.refl _)
      | (with_reducible exact LeO.none _)
      | (with_reducible refine LeO.ite ?_ ?_)
      | (with_reducible refine LeO.bind ?_ (fun _ => ?_))
      | exact spec_thPlace.mono _ _
      | exact LeO.none _
      | refine LeO.ite ?_ ?_
      | refine LeO.bind ?_ (fun _ => ?_)
set_option maxHeartbeats 8000000 in
set_option maxRecDepth 100000 in
theorem spec_thAt.calls (k : Nat) (a0 : ByteArray) (a1 : ByteArray) (r : Int) (w : World) (h : spec_thAt.f k a0 a1 = some r) :
    Calls Tryd.prog 20 #[.string a0, .string a1] w fun e w' => e = .returned (.int .i64 r) ∧ Drawn0 w w' := by
  have H : (if 0 < (a0.size : Int) then ((spec_thPlace.f k (bt a0 0)).bind fun t112 => (if 0 < (a1.size : Int) then ((spec_thPlace.f k (bt a1 0)).bind fun t113 => (some (wrap64 ((wrap64 (12 * t112)) + t113)))) else (none))) else (none)) = some r := h
  clear h
  by_cases c3 : 0 < (a0.size : Int)
  · rw [if_pos c3] at H
    have c3b0 : decide (0 < (a0.size : Int)) = true := decide_eq_true c3
    have c3b1 : decide (0 < a0.size) = true := decide_eq_true (by omega)
    clear c3
    replace H := Option.bind_eq_some_iff.mp H
    obtain ⟨t112, A50, H⟩ := H
    replace H : (if 0 < (a1.size : Int) then ((spec_thPlace.f k (bt a1 0)).bind fun t113 => (some (wrap64 ((wrap64 (12 * t112)) + t113)))) else (none)) = some r := H
    have A5 := Aside0.mk A50
    clear A50
    by_cases c6 : 0 < (a1.size : Int)
    · rw [if_pos c6] at H
      have c6b0 : decide (0 < (a1.size : Int)) = true := decide_eq_true c6
      have c6b1 : decide (0 < a1.size) = true := decide_eq_true (by omega)
      clear c6
      replace H := Option.bind_eq_some_iff.mp H
      obtain ⟨t113, A80, H⟩ := H
      replace H : (some (wrap64 ((wrap64 (12 * t112)) + t113))) = some r := H
      have A8 := Aside0.mk A80
      clear A80
      obtain rfl := Option.some.inj H
      have p4 : 0 ≤ (0 : Int) := (by omega)
      have q4 : 0 < a0.size := (by have : (0 : Int) < (a0.size : Int) := of_decide_eq_true (by first | (with_reducible assumption) | assumption); omega)
      have hx4 : ∀ h : 0 < a0.size, ((a0[0]'h).toNat : Int) = bt a0 0 := bt_at a0 0
      clear p4
      have qi4 : (0 < (a0.size : Int)) = True := eq_true (of_decide_eq_true (by first | (with_reducible assumption) | assumption))
      replace q4 := eq_true q4
      go_enter Tryd.func20, Tryd.ntmps20
      go_wp2_with (first | (go_at_call 26; (with_reducible refine (spec_thPlace.calls k (bt a0 0) t112 _ A5.out).mono ?_); rintro e w' ⟨rfl, ⟨nd, rfl⟩⟩; (try first | exact ⟨rfl, _, World.drewN_drewN _ _ _⟩ | exact ⟨rfl, _, Eq.trans (World.drewN_drewN _ _ _) (congrArg (World.drewN _) (Nat.add_assoc _ _ _))⟩); have p7 : 0 ≤ (0 : Int) := (by omega); have q7 : 0 < a1.size := (by have : (0 : Int) < (a1.size : Int) := of_decide_eq_true (by first | (with_reducible assumption) | assumption); omega); have hx7 : ∀ h : 0 < a1.size, ((a1[0]'h).toNat : Int) = bt a1 0 := bt_at a1 0; clear p7; have qi7 : (0 < (a1.size : Int)) = True := eq_true (of_decide_eq_true (by first | (with_reducible assumption) | assumption)); replace q7 := eq_true q7) | (go_at_call 26; (with_reducible refine (spec_thPlace.calls k (bt a1 0) t113 _ A8.out).mono ?_); rintro e w' ⟨rfl, ⟨nd, rfl⟩⟩; (try first | exact ⟨rfl, _, World.drewN_drewN _ _ _⟩ | exact ⟨rfl, _, Eq.trans (World.drewN_drewN _ _ _) (congrArg (World.drewN _) (Nat.add_assoc _ _ _))⟩)))
      repeat (go_quiet (first | (go_at_call 26; (with_reducible refine (spec_thPlace.calls k (bt a0 0) t112 _ A5.out).mono ?_); rintro e w' ⟨rfl, ⟨nd, rfl⟩⟩; (try first | exact ⟨rfl, _, World.drewN_drewN _ _ _⟩ | exact ⟨rfl, _, Eq.trans (World.drewN_drewN _ _ _) (congrArg (World.drewN _) (Nat.add_assoc _ _ _))⟩); have p7 : 0 ≤ (0 : Int) := (by omega); have q7 : 0 < a1.size := (by have : (0 : Int) < (a1.size : Int) := of_decide_eq_true (by first | (with_reducible assumption) | assumption); omega); have hx7 : ∀ h : 0 < a1.size, ((a1[0]'h).toNat : Int) = bt a1 0 := bt_at a1 0; clear p7; have qi7 : (0 < (a1.size : Int)) = True := eq_true (of_decide_eq_true (by first | (with_reducible assumption) | assumption)); replace q7 := eq_true q7) | (go_at_call 26; (with_reducible refine (spec_thPlace.calls k (bt a1 0) t113 _ A8.out).mono ?_); rintro e w' ⟨rfl, ⟨nd, rfl⟩⟩; (try first | exact ⟨rfl, _, World.drewN_drewN _ _ _⟩ | exact ⟨rfl, _, Eq.trans (World.drewN_drewN _ _ _) (congrArg (World.drewN _) (Nat.add_assoc _ _ _))⟩))); try go_wp2_with (first | (go_at_call 26; (with_reducible refine (spec_thPlace.calls k (bt a0 0) t112 _ A5.out).mono ?_); rintro e w' ⟨rfl, ⟨nd, rfl⟩⟩; (try first | exact ⟨rfl, _, World.drewN_drewN _ _ _⟩ | exact ⟨rfl, _, Eq.trans (World.drewN_drewN _ _ _) (congrArg (World.drewN _) (Nat.add_assoc _ _ _))⟩); have p7 : 0 ≤ (0 : Int) := (by omega); have q7 : 0 < a1.size := (by have : (0 : Int) < (a1.size : Int) := of_decide_eq_true (by first | (with_reducible assumption) | assumption); omega); have hx7 : ∀ h : 0 < a1.size, ((a1[0]'h).toNat : Int) = bt a1 0 := bt_at a1 0; clear p7; have qi7 : (0 < (a1.size : Int)) = True := eq_true (of_decide_eq_true (by first | (with_reducible assumption) | assumption)); replace q7 := eq_true q7) | (go_at_call 26; (with_reducible refine (spec_thPlace.calls k (bt a1 0) t113 _ A8.out).mono ?_); rintro e w' ⟨rfl, ⟨nd, rfl⟩⟩; (try first | exact ⟨rfl, _, World.drewN_drewN _ _ _⟩ | exact ⟨rfl, _, Eq.trans (World.drewN_drewN _ _ _) (congrArg (World.drewN _) (Nat.add_assoc _ _ _))⟩))))
      go_ret
      exact ⟨by first | rfl | (simp; done) | (simp [*]; done) | (simp only [i64_w]; rfl), by repeat (first | exact Drawn0.refl _ | apply Drawn0.step)⟩
    · rw [if_neg c6] at H
      exact absurd H (by simp)
  · rw [if_neg c3] at H
    exact absurd H (by simp)

end Go.Proofs.YthnjmokaiiajmaaDoor.P

namespace Go.Proofs.YthnjmokaiiajmaaDoor.P
open Go.RowKit Go.Proofs.YthnjmokaiiajmaaDoorW.PrintWords Go.Proofs.YthnjmokaiiajmaaDoorW.PrintLast Go.Proofs.YthnjmokaiiajmaaDoorW.PrintMore
attribute [local go_sem] max2_int min2_int max_two min_two max_three min_three max_four min_four   -- for this text's walks alone
set_option linter.unusedVariables false
set_option linter.unusedSimpArgs false

/-! ### spec_TwoThumbs: function 7 -/
def spec_TwoThumbs.f (k : Nat) (a0 : ByteArray) (a1 : ByteArray) (a2 : ByteArray) (a3 : Bool) : Option (Int × Bool) := (spec_thBoth.f k a0 a1 a2).bind fun t114 => (if t114 = true then ((spec_thTable.f k a0 a3).bind fun bt115 => (if 0 < (bt115.1.length : Int) then ((spec_thAt.f k a1 a2).bind fun t122 => (if 0 ≤ t122 then (if t122 < ((rd_L1 bt115.1 0).length : Int) then (some (rd (rd_L1 bt115.1 0) t122, true)) else (none)) else (none))) else (none))) else (some (0, false)))
theorem spec_TwoThumbs.mono : ∀ a0 a1 a2 a3 k, LeO (spec_TwoThumbs.f k a0 a1 a2 a3) (spec_TwoThumbs.f (k + 1) a0 a1 a2 a3) := by
  intro a0 a1 a2 a3 k
  unfold spec_TwoThumbs.f
  repeat' first
      | (with_reducible exact spec_thAt.mono _ _ _)
      | (with_reducible exact spec_thBoth.mono _ _ _ _)
      | (with_reducible exact spec_thTable.mono _ _ _)
      | (with_reducible exact LeO.refl _)
      | (with_reducible exact LeO.none _)
      | (with_reducible refine LeO.ite ?_ ?_)
      | (with_reducible refine LeO.bind ?_ (fun _ => ?_))
      | exact spec_thAt.mono _ _ _
      | exact spec_thBoth.mono _ _ _ _
      | exact spec_thTable.mono _ _ _
      | exact LeO.none _
      | refine LeO.ite ?_ ?_
      | refine LeO.bind ?_ (fun _ => ?_)
set_option maxHeartbeats 8000000 in
set_option maxRecDepth 100000 in
theorem spec_TwoThumbs.calls (k : Nat) (a0 : ByteArray) (a1 : ByteArray) (a2 : ByteArray) (a3 : Bool) (r1 : Int) (r2 : Bool) (w : World) (h : spec_TwoThumbs.f k a0 a1 a2 a3 = some (r1, r2)) :
    Calls Tryd.prog 7 #[.string a0, .string a1, .string a2, .bool a3] w fun e w' => e = .returned (.tuple #[.int .i64 r1, .bool r2]) ∧ Below w.heap.size w w' := by
  have HB := Aside0.mk (Below.refl w.heap.size w)
  have H : ((spec_thBoth.f k a0 a1 a2).bind fun t114 => (if t114 = true then ((spec_thTable.f k a0 a3).bind fun bt115 => (if 0 < (bt115.1.length : Int) then ((spec_thAt.f k a1 a2).bind fun t122 => (if 0 ≤ t122 then (if t122 < ((rd_L1 bt115.1 0).length : Int) then (some (rd (rd_L1 bt115.1 0) t122, true)) else (none)) else (none))) else (none))) else (some (0, false)))) = some (r1, r2) := h
  clear h
  replace H := Option.bind_eq_some_iff.mp H
  obtain ⟨t114, A50, H⟩ := H
  replace H : (if t114 = true then ((spec_thTable.f k a0 a3).bind fun bt115 => (if 0 < (bt115.1.length : Int) then ((spec_thAt.f k a1 a2).bind fun t122 => (if 0 ≤ t122 then (if t122 < ((rd_L1 bt115.1 0).length : Int) then (some (rd (rd_L1 bt115.1 0) t122, true)) else (none)) else (none))) else (none))) else (some (0, false))) = some (r1, r2) := H
  have A5 := Aside0.mk A50
  clear A50
  by_cases c6 : t114 = true
  · subst c6
    have H1 : ((spec_thTable.f k a0 a3).bind fun bt115 => (if 0 < (bt115.1.length : Int) then ((spec_thAt.f k a1 a2).bind fun t122 => (if 0 ≤ t122 then (if t122 < ((rd_L1 bt115.1 0).length : Int) then (some (rd (rd_L1 bt115.1 0) t122, true)) else (none)) else (none))) else (none))) = some (r1, r2) := by rw [if_pos rfl] at H; exact H
    clear H
    have H := H1
    clear H1
    replace H := Option.bind_eq_some_iff.mp H
    obtain ⟨⟨t115, t116⟩, A70, H⟩ := H
    replace H : (if 0 < (t115.length : Int) then ((spec_thAt.f k a1 a2).bind fun t122 => (if 0 ≤ t122 then (if t122 < ((rd_L1 t115 0).length : Int) then (some (rd (rd_L1 t115 0) t122, true)) else (none)) else (none))) else (none)) = some (r1, r2) := H
    have A7 := Aside0.mk A70
    clear A70
    by_cases c8 : 0 < (t115.length : Int)
    · rw [if_pos c8] at H
      have c8b0 : decide (0 < (t115.length : Int)) = true := decide_eq_true c8
      have c8b1 : decide (0 < t115.length) = true := decide_eq_true (by omega)
      clear c8
      replace H := Option.bind_eq_some_iff.mp H
      obtain ⟨t122, A90, H⟩ := H
      replace H : (if 0 ≤ t122 then (if t122 < ((rd_L1 t115 0).length : Int) then (some (rd (rd_L1 t115 0) t122, true)) else (none)) else (none)) = some (r1, r2) := H
      have A9 := Aside0.mk A90
      clear A90
      by_cases c10 : 0 ≤ t122
      · rw [if_pos c10] at H
        have c10b0 : decide (0 ≤ t122) = true := decide_eq_true c10
        clear c10
        by_cases c11 : t122 < ((rd_L1 t115 0).length : Int)
        · rw [if_pos c11] at H
          have c11b0 : decide (t122 < ((rd_L1 t115 0).length : Int)) = true := decide_eq_true c11
          clear c11
          simp only [Option.some.injEq, Prod.mk.injEq] at H
          obtain ⟨rfl, rfl⟩ := H
          go_enter Tryd.func7, Tryd.ntmps7
          go_wp2_with (first | (go_at_call 18; (with_reducible refine (spec_thBoth.calls k a0 a1 a2 true _ A5.out).mono ?_); rintro e w' ⟨rfl, ⟨nd, rfl⟩⟩; (try first | exact ⟨rfl, _, World.drewN_drewN _ _ _⟩ | exact ⟨rfl, _, Eq.trans (World.drewN_drewN _ _ _) (congrArg (World.drewN _) (Nat.add_assoc _ _ _))⟩)) | (go_at_call 19; (with_reducible refine (spec_thTable.calls k a0 a3 t115 t116 _ A7.out).mono ?_); rintro e w12 ⟨v117, v119, rfl, ho0, ho1, hb⟩; have n0_ := Aside0.mk (Kd.S_lower ho0 (below_size (by repeat (first | (with_reducible first | exact HB.out | apply below_alloc | apply pw_below_drewN | apply below_drew1) | exact HB.out)))); have n1_ := Aside0.mk (Kd.S_lower ho1 (below_size (by repeat (first | (with_reducible first | exact HB.out | apply below_alloc | apply pw_below_drewN | apply below_drew1) | exact HB.out)))); have n2_ := Aside0.mk (below_step (by repeat (first | (with_reducible first | exact HB.out | apply below_alloc | apply pw_below_drewN | apply below_drew1) | exact HB.out)) hb); clear HB; have HO118 := n0_; have HO120 := n1_; have HB := n2_; clear n0_ n1_ n2_; (try clear hb); (try clear hb2); (try clear hk); (try clear hi); (try clear ho0); (try clear ho1); obtain ⟨Ao13, co13, eo13⟩ := Kd.S_slice HO118.out; subst eo13; have p121 : 0 ≤ (0 : Int) := (by omega); have q121 : 0 < (t115.length : Int) := of_decide_eq_true (by first | (with_reducible assumption) | assumption); obtain ⟨ad121, A121_0, c121_0, e121, hx121_0, hl121_0, hi121_0⟩ := at_L1 (Kd.S_reads' HO118.out).2.2 0 p121 q121; cases e121; obtain ⟨ce121, hce121, hMe121, hcc121⟩ := Kd.S_get HO118.out [] 0 p121 (by first | exact q121 | exact of_decide_eq_true (by first | (with_reducible assumption) | assumption) | (have e_ := (Kd.S_reads' HO118.out).1; omega)); obtain ⟨ve121_0, rfl, ge121_0⟩ := hMe121; have hv121_0 := hcc121 0 _ rfl; rw [Nat.add_zero, show ((Kd.slice 3 (Kd.int .i64))).sz = 1 from rfl, Nat.mul_one] at hv121_0; replace hv121_0 := Option.some.inj (hv121_0.symm.trans hx121_0); rw [hv121_0] at ge121_0; have HL121_0 := Aside0.mk (show Kd.R (Kd.int .i64) 3 _ _ _ _ (rd_L1 t115 0) from ge121_0); clear hv121_0 ge121_0; clear hcc121 hce121; have qi121 : (0 < t115.length) = True := eq_true (by omega); (try rw [show ((0 : Int)).toNat = 0 from rfl] at hx121_0); (try rw [Addr.add_zero'] at hx121_0); have HR121_0 := Aside0.mk hi121_0; have HC121_0 := Aside0.mk hl121_0; clear hi121_0 hl121_0; replace p121 := eq_true p121; replace q121 := eq_true q121) | (go_at_call 20; (with_reducible refine (spec_thAt.calls k a1 a2 t122 _ A9.out).mono ?_); rintro e w' ⟨rfl, ⟨nd, rfl⟩⟩; (try first | exact ⟨rfl, _, World.drewN_drewN _ _ _⟩ | exact ⟨rfl, _, Eq.trans (World.drewN_drewN _ _ _) (congrArg (World.drewN _) (Nat.add_assoc _ _ _))⟩); have p123 : 0 ≤ (t122 : Int) := of_decide_eq_true (by first | (with_reducible assumption) | assumption); have q123 : t122 < ((rd_L1 t115 0).length : Int) := of_decide_eq_true (by first | (with_reducible assumption) | assumption); obtain ⟨ad123, e123, hx123_0⟩ := Kd.at_int (by repeat (first | (with_reducible exact HR121_0.out) | (with_reducible refine Kd.C_alloc ?_ _) | (with_reducible refine Kd.C_drewN ?_ _) | (with_reducible refine Kd.C_drew ?_) | exact HR121_0.out)) t122 p123 q123; cases e123; replace p123 := eq_true p123; replace q123 := eq_true q123))
          repeat (go_quiet (first | (go_at_call 18; (with_reducible refine (spec_thBoth.calls k a0 a1 a2 true _ A5.out).mono ?_); rintro e w' ⟨rfl, ⟨nd, rfl⟩⟩; (try first | exact ⟨rfl, _, World.drewN_drewN _ _ _⟩ | exact ⟨rfl, _, Eq.trans (World.drewN_drewN _ _ _) (congrArg (World.drewN _) (Nat.add_assoc _ _ _))⟩)) | (go_at_call 19; (with_reducible refine (spec_thTable.calls k a0 a3 t115 t116 _ A7.out).mono ?_); rintro e w12 ⟨v117, v119, rfl, ho0, ho1, hb⟩; have n0_ := Aside0.mk (Kd.S_lower ho0 (below_size (by repeat (first | (with_reducible first | exact HB.out | apply below_alloc | apply pw_below_drewN | apply below_drew1) | exact HB.out)))); have n1_ := Aside0.mk (Kd.S_lower ho1 (below_size (by repeat (first | (with_reducible first | exact HB.out | apply below_alloc | apply pw_below_drewN | apply below_drew1) | exact HB.out)))); have n2_ := Aside0.mk (below_step (by repeat (first | (with_reducible first | exact HB.out | apply below_alloc | apply pw_below_drewN | apply below_drew1) | exact HB.out)) hb); clear HB; have HO118 := n0_; have HO120 := n1_; have HB := n2_; clear n0_ n1_ n2_; (try clear hb); (try clear hb2); (try clear hk); (try clear hi); (try clear ho0); (try clear ho1); obtain ⟨Ao13, co13, eo13⟩ := Kd.S_slice HO118.out; subst eo13; have p121 : 0 ≤ (0 : Int) := (by omega); have q121 : 0 < (t115.length : Int) := of_decide_eq_true (by first | (with_reducible assumption) | assumption); obtain ⟨ad121, A121_0, c121_0, e121, hx121_0, hl121_0, hi121_0⟩ := at_L1 (Kd.S_reads' HO118.out).2.2 0 p121 q121; cases e121; obtain ⟨ce121, hce121, hMe121, hcc121⟩ := Kd.S_get HO118.out [] 0 p121 (by first | exact q121 | exact of_decide_eq_true (by first | (with_reducible assumption) | assumption) | (have e_ := (Kd.S_reads' HO118.out).1; omega)); obtain ⟨ve121_0, rfl, ge121_0⟩ := hMe121; have hv121_0 := hcc121 0 _ rfl; rw [Nat.add_zero, show ((Kd.slice 3 (Kd.int .i64))).sz = 1 from rfl, Nat.mul_one] at hv121_0; replace hv121_0 := Option.some.inj (hv121_0.symm.trans hx121_0); rw [hv121_0] at ge121_0; have HL121_0 := Aside0.mk (show Kd.R (Kd.int .i64) 3 _ _ _ _ (rd_L1 t115 0) from ge121_0); clear hv121_0 ge121_0; clear hcc121 hce121; have qi121 : (0 < t115.length) = True := eq_true (by omega); (try rw [show ((0 : Int)).toNat = 0 from rfl] at hx121_0); (try rw [Addr.add_zero'] at hx121_0); have HR121_0 := Aside0.mk hi121_0; have HC121_0 := Aside0.mk hl121_0; clear hi121_0 hl121_0; replace p121 := eq_true p121; replace q121 := eq_true q121) | (go_at_call 20; (with_reducible refine (spec_thAt.calls k a1 a2 t122 _ A9.out).mono ?_); rintro e w' ⟨rfl, ⟨nd, rfl⟩⟩; (try first | exact ⟨rfl, _, World.drewN_drewN _ _ _⟩ | exact ⟨rfl, _, Eq.trans (World.drewN_drewN _ _ _) (congrArg (World.drewN _) (Nat.add_assoc _ _ _))⟩); have p123 : 0 ≤ (t122 : Int) := of_decide_eq_true (by first | (with_reducible assumption) | assumption); have q123 : t122 < ((rd_L1 t115 0).length : Int) := of_decide_eq_true (by first | (with_reducible assumption) | assumption); obtain ⟨ad123, e123, hx123_0⟩ := Kd.at_int (by repeat (first | (with_reducible exact HR121_0.out) | (with_reducible refine Kd.C_alloc ?_ _) | (with_reducible refine Kd.C_drewN ?_ _) | (with_reducible refine Kd.C_drew ?_) | exact HR121_0.out)) t122 p123 q123; cases e123; replace p123 := eq_true p123; replace q123 := eq_true q123)); try go_wp2_with (first | (go_at_call 18; (with_reducible refine (spec_thBoth.calls k a0 a1 a2 true _ A5.out).mono ?_); rintro e w' ⟨rfl, ⟨nd, rfl⟩⟩; (try first | exact ⟨rfl, _, World.drewN_drewN _ _ _⟩ | exact ⟨rfl, _, Eq.trans (World.drewN_drewN _ _ _) (congrArg (World.drewN _) (Nat.add_assoc _ _ _))⟩)) | (go_at_call 19; (with_reducible refine (spec_thTable.calls k a0 a3 t115 t116 _ A7.out).mono ?_); rintro e w12 ⟨v117, v119, rfl, ho0, ho1, hb⟩; have n0_ := Aside0.mk (Kd.S_lower ho0 (below_size (by repeat (first | (with_reducible first | exact HB.out | apply below_alloc | apply pw_below_drewN | apply below_drew1) | exact HB.out)))); have n1_ := Aside0.mk (Kd.S_lower ho1 (below_size (by repeat (first | (with_reducible first | exact HB.out | apply below_alloc | apply pw_below_drewN | apply below_drew1) | exact HB.out)))); have n2_ := Aside0.mk (below_step (by repeat (first | (with_reducible first | exact HB.out | apply below_alloc | apply pw_below_drewN | apply below_drew1) | exact HB.out)) hb); clear HB; have HO118 := n0_; have HO120 := n1_; have HB := n2_; clear n0_ n1_ n2_; (try clear hb); (try clear hb2); (try clear hk); (try clear hi); (try clear ho0); (try clear ho1); obtain ⟨Ao13, co13, eo13⟩ := Kd.S_slice HO118.out; subst eo13; have p121 : 0 ≤ (0 : Int) := (by omega); have q121 : 0 < (t115.length : Int) := of_decide_eq_true (by first | (with_reducible assumption) | assumption); obtain ⟨ad121, A121_0, c121_0, e121, hx121_0, hl121_0, hi121_0⟩ := at_L1 (Kd.S_reads' HO118.out).2.2 0 p121 q121; cases e121; obtain ⟨ce121, hce121, hMe121, hcc121⟩ := Kd.S_get HO118.out [] 0 p121 (by first | exact q121 | exact of_decide_eq_true (by first | (with_reducible assumption) | assumption) | (have e_ := (Kd.S_reads' HO118.out).1; omega)); obtain ⟨ve121_0, rfl, ge121_0⟩ := hMe121; have hv121_0 := hcc121 0 _ rfl; rw [Nat.add_zero, show ((Kd.slice 3 (Kd.int .i64))).sz = 1 from rfl, Nat.mul_one] at hv121_0; replace hv121_0 := Option.some.inj (hv121_0.symm.trans hx121_0); rw [hv121_0] at ge121_0; have HL121_0 := Aside0.mk (show Kd.R (Kd.int .i64) 3 _ _ _ _ (rd_L1 t115 0) from ge121_0); clear hv121_0 ge121_0; clear hcc121 hce121; have qi121 : (0 < t115.length) = True := eq_true (by omega); (try rw [show ((0 : Int)).toNat = 0 from rfl] at hx121_0); (try rw [Addr.add_zero'] at hx121_0); have HR121_0 := Aside0.mk hi121_0; have HC121_0 := Aside0.mk hl121_0; clear hi121_0 hl121_0; replace p121 := eq_true p121; replace q121 := eq_true q121) | (go_at_call 20; (with_reducible refine (spec_thAt.calls k a1 a2 t122 _ A9.out).mono ?_); rintro e w' ⟨rfl, ⟨nd, rfl⟩⟩; (try first | exact ⟨rfl, _, World.drewN_drewN _ _ _⟩ | exact ⟨rfl, _, Eq.trans (World.drewN_drewN _ _ _) (congrArg (World.drewN _) (Nat.add_assoc _ _ _))⟩); have p123 : 0 ≤ (t122 : Int) := of_decide_eq_true (by first | (with_reducible assumption) | assumption); have q123 : t122 < ((rd_L1 t115 0).length : Int) := of_decide_eq_true (by first | (with_reducible assumption) | assumption); obtain ⟨ad123, e123, hx123_0⟩ := Kd.at_int (by repeat (first | (with_reducible exact HR121_0.out) | (with_reducible refine Kd.C_alloc ?_ _) | (with_reducible refine Kd.C_drewN ?_ _) | (with_reducible refine Kd.C_drew ?_) | exact HR121_0.out)) t122 p123 q123; cases e123; replace p123 := eq_true p123; replace q123 := eq_true q123)))
          go_ret2
          exact ⟨by first | rfl | (simp [errW_none, errW_some] <;> rfl) | (simp [*, errW_none, errW_some] <;> rfl), by repeat (first | (with_reducible first | exact HB.out | apply below_alloc | apply pw_below_drewN | apply below_drew1) | exact HB.out)⟩
        · rw [if_neg c11] at H
          exact absurd H (by simp)
      · rw [if_neg c10] at H
        exact absurd H (by simp)
    · rw [if_neg c8] at H
      exact absurd H (by simp)
  · replace c6 := Bool.eq_false_iff.mpr c6
    subst c6
    have H1 : (some (0, false)) = some (r1, r2) := by rw [if_neg (show ¬ (false = true) by decide)] at H; exact H
    clear H
    have H := H1
    clear H1
    simp only [Option.some.injEq, Prod.mk.injEq] at H
    obtain ⟨rfl, rfl⟩ := H
    go_enter Tryd.func7, Tryd.ntmps7
    go_wp2_with (first | (go_at_call 18; (with_reducible refine (spec_thBoth.calls k a0 a1 a2 false _ A5.out).mono ?_); rintro e w' ⟨rfl, ⟨nd, rfl⟩⟩; (try first | exact ⟨rfl, _, World.drewN_drewN _ _ _⟩ | exact ⟨rfl, _, Eq.trans (World.drewN_drewN _ _ _) (congrArg (World.drewN _) (Nat.add_assoc _ _ _))⟩)))
    repeat (go_quiet (first | (go_at_call 18; (with_reducible refine (spec_thBoth.calls k a0 a1 a2 false _ A5.out).mono ?_); rintro e w' ⟨rfl, ⟨nd, rfl⟩⟩; (try first | exact ⟨rfl, _, World.drewN_drewN _ _ _⟩ | exact ⟨rfl, _, Eq.trans (World.drewN_drewN _ _ _) (congrArg (World.drewN _) (Nat.add_assoc _ _ _))⟩))); try go_wp2_with (first | (go_at_call 18; (with_reducible refine (spec_thBoth.calls k a0 a1 a2 false _ A5.out).mono ?_); rintro e w' ⟨rfl, ⟨nd, rfl⟩⟩; (try first | exact ⟨rfl, _, World.drewN_drewN _ _ _⟩ | exact ⟨rfl, _, Eq.trans (World.drewN_drewN _ _ _) (congrArg (World.drewN _) (Nat.add_assoc _ _ _))⟩))))
    go_ret2
    exact ⟨by first | rfl | (simp [errW_none, errW_some] <;> rfl) | (simp [*, errW_none, errW_some] <;> rfl), by repeat (first | (with_reducible first | exact HB.out | apply below_alloc | apply pw_below_drewN | apply below_drew1) | exact HB.out)⟩

end Go.Proofs.YthnjmokaiiajmaaDoor.P

namespace Go.Proofs.YthnjmokaiiajmaaDoor.P
open Go.RowKit Go.Proofs.YthnjmokaiiajmaaDoorW.PrintWords Go.Proofs.YthnjmokaiiajmaaDoorW.PrintLast Go.Proofs.YthnjmokaiiajmaaDoorW.PrintMore
attribute [local go_sem] max2_int min2_int max_two min_two max_three min_three max_four min_four   -- for this text's walks alone
set_option linter.unusedVariables false
set_option linter.unusedSimpArgs false

/-! ### impl_isKey: function 31 -/
def impl_isKey.f (a0 : ByteArray) : Option (Bool) := if (a0.size : Int) = 1 then ((impl_IsDialed.f a0).bind fun t126 => (some t126)) else (some false)
set_option maxHeartbeats 8000000 in
set_option maxRecDepth 100000 in
theorem impl_isKey.calls (a0 : ByteArray) (r : Bool) (w : World) (h : impl_isKey.f a0 = some r) :
    Calls Tryd.prog 31 #[.string a0] w fun e w' => e = .returned (.bool r) ∧ Below w.heap.size w w' := by
  have HB := Aside0.mk (Below.refl w.heap.size w)
  have H : (if (a0.size : Int) = 1 then ((impl_IsDialed.f a0).bind fun t126 => (some t126)) else (some false)) = some r := h
  clear h
  by_cases c2 : (a0.size : Int) = 1
  · rw [if_pos c2] at H
    have c2b0 : ((a0.size : Int) == 1) = true := beq_iff_eq.mpr c2
    have c2b1 : ((a0.size : Int) != 1) = false := bne_eq_false_iff_eq.mpr c2
    clear c2
    replace H := Option.bind_eq_some_iff.mp H
    obtain ⟨t126, A30, H⟩ := H
    replace H : (some t126) = some r := H
    have A3 := Aside0.mk A30
    clear A30
    obtain rfl := Option.some.inj H
    go_enter Tryd.func31, Tryd.ntmps31
    go_wp2_with (first | (go_at_call 25; (with_reducible refine (impl_IsDialed.calls a0 t126 _ A3.out).mono ?_); rintro e w4 ⟨rfl, hb⟩; have n0_ := Aside0.mk (below_step (by repeat (first | (with_reducible first | exact HB.out | apply below_alloc | apply pw_below_drewN | apply below_drew1) | exact HB.out)) hb); clear HB; have HB := n0_; clear n0_; (try clear hb); (try clear hb2); (try clear hk); (try clear hi)))
    go_ret
    exact ⟨by first | rfl | (simp [errW_none, errW_some] <;> rfl) | (simp [*, errW_none, errW_some] <;> rfl), by repeat (first | (with_reducible first | exact HB.out | apply below_alloc | apply pw_below_drewN | apply below_drew1) | exact HB.out)⟩
  · rw [if_neg c2] at H
    have c2b0 : ((a0.size : Int) == 1) = false := beq_eq_false_iff_ne.mpr c2
    have c2b1 : ((a0.size : Int) != 1) = true := bne_iff_ne.mpr c2
    obtain rfl := Option.some.inj H
    go_enter Tryd.func31, Tryd.ntmps31
    go_wp2
    go_ret
    exact ⟨by first | rfl | (simp [errW_none, errW_some] <;> rfl) | (simp [*, errW_none, errW_some] <;> rfl), by repeat (first | (with_reducible first | exact HB.out | apply below_alloc | apply pw_below_drewN | apply below_drew1) | exact HB.out)⟩

end Go.Proofs.YthnjmokaiiajmaaDoor.P

