/- Parts of the proof (printed walks, lemmas of our own, contracts of the library laid for this program), merged into one text by wip/mclaim.py. Conditions: each theorem's own. -/
import Derived.Test.YtlmnhokaagkocaaM0
import Derived.Test.YtlmnhokaagkocaaM1
import Derived.Lib.SlTrimSet
namespace Go.Proofs.Ytlmnhokaagkocaa.P
open Go.RowKit Go.Proofs.YtlmnhokaagkocaaW.PrintWords Go.Proofs.YtlmnhokaagkocaaW.PrintLast Go.Proofs.YtlmnhokaagkocaaW.PrintMore
attribute [local go_sem] max2_int min2_int max_two min_two max_three min_three max_four min_four   -- for this text's walks alone
set_option linter.unusedVariables false
set_option linter.unusedSimpArgs false

/-! ### laws_FnExactBestLayout: function 3 -/
mutual
def laws_FnExactBestLayout.j0 : Nat → List Int → Int → List Int → Int → Bool → List Int → List Int → Int → Bool → Bool → Option (Bool)
  | 0, _, _, _, _, _, _, _, _, _, _ => none
  | k + 1, x0, x1, x5, x6, x7, x8, x9, x10, x11, x51 => if x51 = true then (some false) else ((laws_toIntS.f k x0).bind fun t219 => ((laws_eqIntS.f k x8 t219).bind fun t222 => (if t222 = true then ((laws_markIntS.f k x8 1).bind fun bt223 => (if bt223.1 < 0 then (laws_FnExactBestLayout.j1 k x0 x1 x5 x6 x7 x9 true) else ((laws_eqIntS.f k x9 x5).bind fun t225 => (if t225 = true then (if x10 = x6 then (laws_FnExactBestLayout.j1 k x0 x1 x5 x6 x7 x9 (x11 != x7)) else (laws_FnExactBestLayout.j1 k x0 x1 x5 x6 x7 x9 true)) else (laws_FnExactBestLayout.j1 k x0 x1 x5 x6 x7 x9 true))))) else (some false))))
def laws_FnExactBestLayout.j1 : Nat → List Int → Int → List Int → Int → Bool → List Int → Bool → Option (Bool)
  | 0, _, _, _, _, _, _, _ => none
  | k + 1, x0, x1, x5, x6, x7, x9, x77 => if x77 = true then (some false) else ((laws_markIntS.f k x9 1).bind fun bt226 => ((laws_heldIntS.f k bt226.2 1).bind fun t228 => (if t228 < 0 then (some false) else (if t228 = bt226.1 then ((laws_toIntS.f k x0).bind fun t229 => ((impl_BestLayout.f k t229 x1).bind fun bt232 => ((laws_eqIntS.f k bt232.1 x5).bind fun t237 => (if t237 = true then (if bt232.2.1 = x6 then (laws_FnExactBestLayout.j2 k bt226.2 bt226.1 (bt232.2.2 != x7)) else (laws_FnExactBestLayout.j2 k bt226.2 bt226.1 true)) else (laws_FnExactBestLayout.j2 k bt226.2 bt226.1 true))))) else (some false)))))
def laws_FnExactBestLayout.j2 : Nat → List Int → Int → Bool → Option (Bool)
  | 0, _, _, _ => none
  | k + 1, x9, x13, x110 => if x110 = true then (some false) else ((laws_heldIntS.f k x9 1).bind fun t238 => (if t238 < 0 then (some false) else (if t238 = x13 then (some true) else (some false))))
end
def laws_FnExactBestLayout.f (k : Nat) (l0 : List Int) (a1 : Int) : Option (Bool) := if (l0.length : Int) > 1048576 then (some true) else ((laws_toIntS.f k l0).bind fun t202 => ((spec_BestLayout.f k t202 a1).bind fun bt205 => ((laws_toIntS.f k l0).bind fun t210 => ((impl_BestLayout.f k t210 a1).bind fun bt213 => ((laws_eqIntS.f k bt213.1 bt205.1).bind fun t218 => (if t218 = true then (if bt213.2.1 = bt205.2.1 then (laws_FnExactBestLayout.j0 k l0 a1 bt205.1 bt205.2.1 bt205.2.2 t210 bt213.1 bt213.2.1 bt213.2.2 (bt213.2.2 != bt205.2.2)) else (laws_FnExactBestLayout.j0 k l0 a1 bt205.1 bt205.2.1 bt205.2.2 t210 bt213.1 bt213.2.1 bt213.2.2 true)) else (laws_FnExactBestLayout.j0 k l0 a1 bt205.1 bt205.2.1 bt205.2.2 t210 bt213.1 bt213.2.1 bt213.2.2 true)))))))
theorem laws_FnExactBestLayout.mono_l : ∀ k, (∀ y0 y1 y2 y3 y4 y5 y6 y7 y8 y9, LeO (laws_FnExactBestLayout.j0 k y0 y1 y2 y3 y4 y5 y6 y7 y8 y9) (laws_FnExactBestLayout.j0 (k + 1) y0 y1 y2 y3 y4 y5 y6 y7 y8 y9)) ∧ (∀ y0 y1 y2 y3 y4 y5 y6, LeO (laws_FnExactBestLayout.j1 k y0 y1 y2 y3 y4 y5 y6) (laws_FnExactBestLayout.j1 (k + 1) y0 y1 y2 y3 y4 y5 y6)) ∧ (∀ y0 y1 y2, LeO (laws_FnExactBestLayout.j2 k y0 y1 y2) (laws_FnExactBestLayout.j2 (k + 1) y0 y1 y2))
  | 0 => ⟨fun _ _ _ _ _ _ _ _ _ _ r h => by simp [laws_FnExactBestLayout.j0] at h, fun _ _ _ _ _ _ _ r h => by simp [laws_FnExactBestLayout.j1] at h, fun _ _ _ r h => by simp [laws_FnExactBestLayout.j2] at h⟩
  | k + 1 => by
    obtain ⟨ih0, ih1, ih2⟩ := laws_FnExactBestLayout.mono_l k
    refine ⟨?_, ?_, ?_⟩
    · intro y0 y1 y2 y3 y4 y5 y6 y7 y8 y9
      unfold laws_FnExactBestLayout.j0
      repeat' first
      | (with_reducible exact ih0 _ _ _ _ _ _ _ _ _ _)
      | (with_reducible exact ih1 _ _ _ _ _ _ _)
      | (with_reducible exact ih2 _ _ _)
      | (with_reducible exact impl_BestLayout.mono _ _ _)
      | (with_reducible exact laws_eqIntS.mono _ _ _)
      | (with_reducible exact laws_heldIntS.mono _ _ _)
      | (with_reducible exact laws_markIntS.mono _ _ _)
      | (with_reducible exact laws_toIntS.mono _ _)
      | (with_reducible exact spec_BestLayout.mono _ _ _)
      | (with_reducible exact LeO.refl _)
      | (with_reducible exact LeO.none _)
      | (with_reducible refine LeO.ite ?_ ?_)
      | (with_reducible refine LeO.bind ?_ (fun _ => ?_))
      | exact ih0 _ _ _ _ _ _ _ _ _ _
      | exact ih1 _ _ _ _ _ _ _
      | exact ih2 _ _ _
      | exact impl_BestLayout.mono _ _ _
      | exact laws_eqIntS.mono _ _ _
      | exact laws_heldIntS.mono _ _ _
      | exact laws_markIntS.mono _ _ _
      | exact laws_toIntS.mono _ _
      | exact spec_BestLayout.mono _ _ _
      | exact LeO.none _
      | refine LeO.ite ?_ ?_
      | refine LeO.bind ?_ (fun _ => ?_)
    · intro y0 y1 y2 y3 y4 y5 y6
      unfold laws_FnExactBestLayout.j1
      repeat' first
      | (with_reducible exact ih0 _ _ _ _ _ _ _ _ _ _)
      | (with_reducible exact ih1 _ _ _ _ _ _ _)
      | (with_reducible exact ih2 _ _ _)
      | (with_reducible exact impl_BestLayout.mono _ _ _)
      | (with_reducible exact laws_eqIntS.mono _ _ _)
      | (with_reducible exact laws_heldIntS.mono _ _ _)
      | (with_reducible exact laws_markIntS.mono _ _ _)
      | (with_reducible exact laws_toIntS.mono _ _)
      | (with_reducible exact spec_BestLayout.mono _ _ _)
      | (with_reducible exact LeO.refl _)
      | (with_reducible exact LeO.none _)
      | (with_reducible refine LeO.ite ?_ ?_)
      | (with_reducible refine LeO.bind ?_ (fun _ => ?_))
      | exact ih0 _ _ _ _ _ _ _ _ _ _
      | exact ih1 _ _ _ _ _ _ _
      | exact ih2 _ _ _
      | exact impl_BestLayout.mono _ _ _
      | exact laws_eqIntS.mono _ _ _
      | exact laws_heldIntS.mono _ _ _
      | exact laws_markIntS.mono _ _ _
      | exact laws_toIntS.mono _ _
      | exact spec_BestLayout.mono _ _ _
      | exact LeO.none _
      | refine LeO.ite ?_ ?_
      | refine LeO.bind ?_ (fun _ => ?_)
    · intro y0 y1 y2
      unfold laws_FnExactBestLayout.j2
      repeat' first
      | (with_reducible exact ih0 _ _ _ _ _ _ _ _ _ _)
      | (with_reducible exact ih1 _ _ _ _ _ _ _)
      | (with_reducible exact ih2 _ _ _)
      | (with_reducible exact impl_BestLayout.mono _ _ _)
      | (with_reducible exact laws_eqIntS.mono _ _ _)
      | (with_reducible exact laws_heldIntS.mono _ _ _)
      | (with_reducible exact laws_markIntS.mono _ _ _)
      | (with_reducible exact laws_toIntS.mono _ _)
      | (with_reducible exact spec_BestLayout.mono _ _ _)
      | (with_reducible exact LeO.refl _)
      | (with_reducible exact LeO.none _)
      | (with_reducible refine LeO.ite ?_ ?_)
      | (with_reducible refine LeO.bind ?_ (fun _ => ?_))
      | exact ih0 _ _ _ _ _ _ _ _ _ _
      | exact ih1 _ _ _ _ _ _ _
      | exact ih2 _ _ _
      | exact impl_BestLayout.mono _ _ _
      | exact laws_eqIntS.mono _ _ _
      | exact laws_heldIntS.mono _ _ _
      | exact laws_markIntS.mono _ _ _
      | exact laws_toIntS.mono _ _
      | exact spec_BestLayout.mono _ _ _
      | exact LeO.none _
      | refine LeO.ite ?_ ?_
      | refine LeO.bind ?_ (fun _ => ?_)
theorem laws_FnExactBestLayout.mono : ∀ a0 a1 k, LeO (laws_FnExactBestLayout.f k a0 a1) (laws_FnExactBestLayout.f (k + 1) a0 a1) := by
  intro a0 a1 k
  obtain ⟨ih0, ih1, ih2⟩ := laws_FnExactBestLayout.mono_l k
  unfold laws_FnExactBestLayout.f
  repeat' first
      | (with_reducible exact ih0 _ _ _ _ _ _ _ _ _ _)
      | (with_reducible exact ih1 _ _ _ _ _ _ _)
      | (with_reducible exact ih2 _ _ _)
      | (with_reducible exact impl_BestLayout.mono _ _ _)
      | (with_reducible exact laws_eqIntS.mono _ _ _)
      | (with_reducible exact laws_heldIntS.mono _ _ _)
      | (with_reducible exact laws_markIntS.mono _ _ _)
      | (with_reducible exact laws_toIntS.mono _ _)
      | (with_reducible exact spec_BestLayout.mono _ _ _)
      | (with_reducible exact LeO.refl _)
      | (with_reducible exact LeO.none _)
      | (with_reducible refine LeO.ite ?_ ?_)
      | (with_reducible refine LeO.bind ?_ (fun _ => ?_))
      | exact ih0 _ _ _ _ _ _ _ _ _ _
      | exact ih1 _ _ _ _ _ _ _
      | exact ih2 _ _ _
      | exact impl_BestLayout.mono _ _ _
      | exact laws_eqIntS.mono _ _ _
      | exact laws_heldIntS.mono _ _ _
      | exact laws_markIntS.mono _ _ _
      | exact laws_toIntS.mono _ _
      | exact spec_BestLayout.mono _ _ _
      | exact LeO.none _
      | refine LeO.ite ?_ ?_
      | refine LeO.bind ?_ (fun _ => ?_)
set_option maxHeartbeats 8000000 in
set_option maxRecDepth 100000 in
theorem laws_FnExactBestLayout.calls (k : Nat) (A0 : Option Addr) (c0 : Nat) (l0 : List Int) (a1 : Int) (r : Bool) (w : World) (hr0 : Kd.C (Kd.int .i64) w A0 l0.length l0) (hc0 : l0.length ≤ c0) (h : laws_FnExactBestLayout.f k l0 a1 = some r) :
    Calls Try.prog 3 #[.slice A0 l0.length c0, .int .i64 a1] w fun e w' => e = .returned (.bool r) ∧ Below w.heap.size w w' := by
  have HR0 := Aside0.mk hr0
  have HC0 := Aside0.mk hc0
  clear hr0 hc0
  have HB := Aside0.mk (Below.refl w.heap.size w)
  have H : (if (l0.length : Int) > 1048576 then (some true) else ((laws_toIntS.f k l0).bind fun t202 => ((spec_BestLayout.f k t202 a1).bind fun bt205 => ((laws_toIntS.f k l0).bind fun t210 => ((impl_BestLayout.f k t210 a1).bind fun bt213 => ((laws_eqIntS.f k bt213.1 bt205.1).bind fun t218 => (if t218 = true then (if bt213.2.1 = bt205.2.1 then (laws_FnExactBestLayout.j0 k l0 a1 bt205.1 bt205.2.1 bt205.2.2 t210 bt213.1 bt213.2.1 bt213.2.2 (bt213.2.2 != bt205.2.2)) else (laws_FnExactBestLayout.j0 k l0 a1 bt205.1 bt205.2.1 bt205.2.2 t210 bt213.1 bt213.2.1 bt213.2.2 true)) else (laws_FnExactBestLayout.j0 k l0 a1 bt205.1 bt205.2.1 bt205.2.2 t210 bt213.1 bt213.2.1 bt213.2.2 true)))))))) = some r := h
  clear h
  by_cases c3 : (l0.length : Int) > 1048576
  · rw [if_pos c3] at H
    have c3b0 : decide (1048576 < (l0.length : Int)) = true := decide_eq_true c3
    have c3b1 : decide (1048576 < l0.length) = true := decide_eq_true (by omega)
    clear c3
    obtain rfl := Option.some.inj H
    go_enter Try.func3, Try.ntmps3
    go_wp2
    go_ret
    exact ⟨by first | rfl | (simp [errW_none, errW_some] <;> rfl) | (simp [*, errW_none, errW_some] <;> rfl), by repeat (first | (with_reducible first | exact HB.out | apply below_alloc | apply pw_below_drewN | apply below_drew1) | exact HB.out)⟩
  · rw [if_neg c3] at H
    have c3b0 : decide (1048576 < (l0.length : Int)) = false := decide_eq_false c3
    have c3b1 : decide (1048576 < l0.length) = false := decide_eq_false (by omega)
    clear c3
    replace H := Option.bind_eq_some_iff.mp H
    obtain ⟨t202, A40, H⟩ := H
    replace H : ((spec_BestLayout.f k t202 a1).bind fun bt205 => ((laws_toIntS.f k l0).bind fun t210 => ((impl_BestLayout.f k t210 a1).bind fun bt213 => ((laws_eqIntS.f k bt213.1 bt205.1).bind fun t218 => (if t218 = true then (if bt213.2.1 = bt205.2.1 then (laws_FnExactBestLayout.j0 k l0 a1 bt205.1 bt205.2.1 bt205.2.2 t210 bt213.1 bt213.2.1 bt213.2.2 (bt213.2.2 != bt205.2.2)) else (laws_FnExactBestLayout.j0 k l0 a1 bt205.1 bt205.2.1 bt205.2.2 t210 bt213.1 bt213.2.1 bt213.2.2 true)) else (laws_FnExactBestLayout.j0 k l0 a1 bt205.1 bt205.2.1 bt205.2.2 t210 bt213.1 bt213.2.1 bt213.2.2 true)))))) = some r := H
    have A4 := Aside0.mk A40
    clear A40
    replace H := Option.bind_eq_some_iff.mp H
    obtain ⟨⟨t205, t206, t207⟩, A50, H⟩ := H
    replace H : ((laws_toIntS.f k l0).bind fun t210 => ((impl_BestLayout.f k t210 a1).bind fun bt213 => ((laws_eqIntS.f k bt213.1 t205).bind fun t218 => (if t218 = true then (if bt213.2.1 = t206 then (laws_FnExactBestLayout.j0 k l0 a1 t205 t206 t207 t210 bt213.1 bt213.2.1 bt213.2.2 (bt213.2.2 != t207)) else (laws_FnExactBestLayout.j0 k l0 a1 t205 t206 t207 t210 bt213.1 bt213.2.1 bt213.2.2 true)) else (laws_FnExactBestLayout.j0 k l0 a1 t205 t206 t207 t210 bt213.1 bt213.2.1 bt213.2.2 true))))) = some r := H
    have A5 := Aside0.mk A50
    clear A50
    replace H := Option.bind_eq_some_iff.mp H
    obtain ⟨t210, A60, H⟩ := H
    replace H : ((impl_BestLayout.f k t210 a1).bind fun bt213 => ((laws_eqIntS.f k bt213.1 t205).bind fun t218 => (if t218 = true then (if bt213.2.1 = t206 then (laws_FnExactBestLayout.j0 k l0 a1 t205 t206 t207 t210 bt213.1 bt213.2.1 bt213.2.2 (bt213.2.2 != t207)) else (laws_FnExactBestLayout.j0 k l0 a1 t205 t206 t207 t210 bt213.1 bt213.2.1 bt213.2.2 true)) else (laws_FnExactBestLayout.j0 k l0 a1 t205 t206 t207 t210 bt213.1 bt213.2.1 bt213.2.2 true)))) = some r := H
    have A6 := Aside0.mk A60
    clear A60
    replace H := Option.bind_eq_some_iff.mp H
    obtain ⟨⟨t213, t214, t215⟩, A70, H⟩ := H
    replace H : ((laws_eqIntS.f k t213 t205).bind fun t218 => (if t218 = true then (if t214 = t206 then (laws_FnExactBestLayout.j0 k l0 a1 t205 t206 t207 t210 t213 t214 t215 (t215 != t207)) else (laws_FnExactBestLayout.j0 k l0 a1 t205 t206 t207 t210 t213 t214 t215 true)) else (laws_FnExactBestLayout.j0 k l0 a1 t205 t206 t207 t210 t213 t214 t215 true))) = some r := H
    have A7 := Aside0.mk A70
    clear A70
    have HC8 := Aside0.mk H
    clear H
    go_enter Try.func3, Try.ntmps3
    go_upto_region 6 with (first | ((with_reducible refine gate_callee (f := 5) rfl ?_); refine goesL_ (some 23) rfl rfl Try.func5 (by kernel_rfl) rfl #[.slice A0 l0.length c0] rfl (by (try simp only [List.map_toArray, List.map_cons, List.map_nil]); first | done | rfl | (simp only [List.length_drop, List.length_take]; rfl)) ?_; (with_reducible refine (laws_toIntS.calls k _ _ l0 t202 _ ?side1 ?side2 A4.out).mono ?_); (case side1 => repeat (first | exact HR0.out | (with_reducible refine Kd.C_alloc ?_ _) | (with_reducible refine Kd.C_drewN ?_ _) | (with_reducible refine Kd.C_drew ?_))); (case side2 => exact HC0.out); rintro e w9 ⟨v203, rfl, ho0, hb⟩; refine ⟨_, rfl, ?_⟩; have n0_ := Aside0.mk (Kd.R_lower ho0 (below_size (by repeat (first | (with_reducible first | exact HB.out | apply below_alloc | apply pw_below_drewN | apply below_drew1) | exact HB.out)))); have n1_ := Aside0.mk (below_step (by repeat (first | (with_reducible first | exact HB.out | apply below_alloc | apply pw_below_drewN | apply below_drew1) | exact HB.out)) hb); clear HB; have HO204 := n0_; have HB := n1_; clear n0_ n1_; (try clear hb); (try clear hb2); (try clear hk); (try clear hi); (try clear ho0); obtain ⟨Ao10, co10, eo10⟩ := Kd.R_slice HO204.out; subst eo10) | ((with_reducible refine gate_callee (f := 4) rfl ?_); refine goesL_ (some 25) rfl rfl Try.func4 (by kernel_rfl) rfl #[.slice Ao10 t202.length co10, .int .i64 a1] rfl (by (try simp only [List.map_toArray, List.map_cons, List.map_nil]); first | done | rfl | (simp only [List.length_drop, List.length_take]; rfl)) ?_; (with_reducible refine (spec_BestLayout.calls k _ _ t202 a1 t205 t206 t207 _ ?side1 ?side2 A5.out).mono ?_); (case side1 => repeat (first | exact (Kd.R_reads' HO204.out).2.2 | (with_reducible refine Kd.C_alloc ?_ _) | (with_reducible refine Kd.C_drewN ?_ _) | (with_reducible refine Kd.C_drew ?_))); (case side2 => exact (Kd.R_reads' HO204.out).2.1); rintro e w11 ⟨v208, rfl, ho0, hb⟩; refine ⟨_, rfl, ?_⟩; have n0_ := Aside0.mk (Kd.R_elder' (by (with_reducible repeat (first | apply Kd.R_alloc | apply Kd.R_drewN | apply Kd.R_drew)); exact HO204.out) (Kd.R_base ho0) hb); have n1_ := Aside0.mk (Kd.R_lower (Kd.R_new' ho0 (Kd.R_lt (by (with_reducible repeat (first | apply Kd.R_alloc | apply Kd.R_drewN | apply Kd.R_drew)); exact HO204.out))) (below_size (by repeat (first | (with_reducible first | exact HB.out | apply below_alloc | apply pw_below_drewN | apply below_drew1) | exact HB.out)))); have n2_ := Aside0.mk (below_step (by repeat (first | (with_reducible first | exact HB.out | apply below_alloc | apply pw_below_drewN | apply below_drew1) | exact HB.out)) hb); clear HO204; clear HB; have HO204 := n0_; have HO209 := n1_; have HB := n2_; clear n0_ n1_ n2_; (try clear hb); (try clear hb2); (try clear hk); (try clear hi); (try clear ho0)) | ((with_reducible refine gate_callee (f := 5) rfl ?_); refine goesL_ (some 30) rfl rfl Try.func5 (by kernel_rfl) rfl #[.slice A0 l0.length c0] rfl (by (try simp only [List.map_toArray, List.map_cons, List.map_nil]); first | done | rfl | (simp only [List.length_drop, List.length_take]; rfl)) ?_; (with_reducible refine (laws_toIntS.calls k _ _ l0 t210 _ ?side1 ?side2 A6.out).mono ?_); (case side1 => repeat (first | exact (Kd.C_below HR0.out HB.out) | (with_reducible refine Kd.C_alloc ?_ _) | (with_reducible refine Kd.C_drewN ?_ _) | (with_reducible refine Kd.C_drew ?_))); (case side2 => exact HC0.out); rintro e w12 ⟨v211, rfl, ho0, hb⟩; refine ⟨_, rfl, ?_⟩; have n0_ := Aside0.mk (Kd.R_elder' (by (with_reducible repeat (first | apply Kd.R_alloc | apply Kd.R_drewN | apply Kd.R_drew)); exact HO204.out) (Kd.R_base ho0) hb); have n1_ := Aside0.mk (Kd.R_elder' (by (with_reducible repeat (first | apply Kd.R_alloc | apply Kd.R_drewN | apply Kd.R_drew)); exact HO209.out) (Kd.R_base ho0) hb); have n2_ := Aside0.mk (Kd.R_lower (Kd.R_new' (Kd.R_new' ho0 (Kd.R_lt (by (with_reducible repeat (first | apply Kd.R_alloc | apply Kd.R_drewN | apply Kd.R_drew)); exact HO204.out))) (Kd.R_lt (by (with_reducible repeat (first | apply Kd.R_alloc | apply Kd.R_drewN | apply Kd.R_drew)); exact HO209.out))) (below_size (by repeat (first | (with_reducible first | exact HB.out | apply below_alloc | apply pw_below_drewN | apply below_drew1) | exact HB.out)))); have n3_ := Aside0.mk (below_step (by repeat (first | (with_reducible first | exact HB.out | apply below_alloc | apply pw_below_drewN | apply below_drew1) | exact HB.out)) hb); clear HO204; clear HO209; clear HB; have HO204 := n0_; have HO209 := n1_; have HO212 := n2_; have HB := n3_; clear n0_ n1_ n2_ n3_; (try clear hb); (try clear hb2); (try clear hk); (try clear hi); (try clear ho0); obtain ⟨Ao13, co13, eo13⟩ := Kd.R_slice HO212.out; subst eo13) | ((with_reducible refine gate_callee (f := 6) rfl ?_); refine goesL_ (some 34) rfl rfl Try.func6 (by kernel_rfl) rfl #[.slice Ao13 t210.length co13, .int .i64 a1] rfl (by (try simp only [List.map_toArray, List.map_cons, List.map_nil]); first | done | rfl | (simp only [List.length_drop, List.length_take]; rfl)) ?_; (with_reducible refine (impl_BestLayout.calls k _ _ t210 a1 t213 t214 t215 _ ?side1 ?side2 A7.out).mono ?_); (case side1 => repeat (first | exact (Kd.R_reads' HO212.out).2.2 | (with_reducible refine Kd.C_alloc ?_ _) | (with_reducible refine Kd.C_drewN ?_ _) | (with_reducible refine Kd.C_drew ?_))); (case side2 => exact (Kd.R_reads' HO212.out).2.1); rintro e w14 ⟨v216, rfl, ho0, hb⟩; refine ⟨_, rfl, ?_⟩; have n0_ := Aside0.mk (Kd.R_elder' (by (with_reducible repeat (first | apply Kd.R_alloc | apply Kd.R_drewN | apply Kd.R_drew)); exact HO204.out) (Kd.R_base ho0) hb); have n1_ := Aside0.mk (Kd.R_elder' (by (with_reducible repeat (first | apply Kd.R_alloc | apply Kd.R_drewN | apply Kd.R_drew)); exact HO209.out) (Kd.R_base ho0) hb); have n2_ := Aside0.mk (Kd.R_elder' (by (with_reducible repeat (first | apply Kd.R_alloc | apply Kd.R_drewN | apply Kd.R_drew)); exact HO212.out) (Kd.R_base ho0) hb); have n3_ := Aside0.mk (Kd.R_lower (Kd.R_new' (Kd.R_new' (Kd.R_new' ho0 (Kd.R_lt (by (with_reducible repeat (first | apply Kd.R_alloc | apply Kd.R_drewN | apply Kd.R_drew)); exact HO204.out))) (Kd.R_lt (by (with_reducible repeat (first | apply Kd.R_alloc | apply Kd.R_drewN | apply Kd.R_drew)); exact HO209.out))) (Kd.R_lt (by (with_reducible repeat (first | apply Kd.R_alloc | apply Kd.R_drewN | apply Kd.R_drew)); exact HO212.out))) (below_size (by repeat (first | (with_reducible first | exact HB.out | apply below_alloc | apply pw_below_drewN | apply below_drew1) | exact HB.out)))); have n4_ := Aside0.mk (below_step (by repeat (first | (with_reducible first | exact HB.out | apply below_alloc | apply pw_below_drewN | apply below_drew1) | exact HB.out)) hb); clear HO204; clear HO209; clear HO212; clear HB; have HO204 := n0_; have HO209 := n1_; have HO212 := n2_; have HO217 := n3_; have HB := n4_; clear n0_ n1_ n2_ n3_ n4_; (try clear hb); (try clear hb2); (try clear hk); (try clear hi); (try clear ho0)))
    (try simp only [Act.put, List.setIfInBounds_toArray, List.set_cons_zero, List.set_cons_succ])
    go_cut [51] (fun v51 wc => ∃ (kq : Nat) (x51_7 : Bool), v51 = .bool x51_7 ∧ Aside0 (laws_FnExactBestLayout.j0 kq l0 a1 t205 t206 t207 t210 t213 t214 t215 x51_7 = some r) ∧ Aside0 (kq ≤ k) ∧ Aside0 (Kd.R (Kd.int .i64) 3 wc w.heap.size (fun k_ => some k_ ≠ ((.slice Ao13 t210.length co13) : Value).ownBlock ∧ some k_ ≠ (v216 : Value).ownBlock) v208 t205) ∧ Aside0 (Kd.R (Kd.int .i64) 3 wc w.heap.size (fun k_ => some k_ ≠ (v208 : Value).ownBlock ∧ some k_ ≠ (v216 : Value).ownBlock) (.slice Ao13 t210.length co13) t210) ∧ Aside0 (Kd.R (Kd.int .i64) 3 wc w.heap.size (fun k_ => some k_ ≠ (v208 : Value).ownBlock ∧ some k_ ≠ ((.slice Ao13 t210.length co13) : Value).ownBlock) v216 t213) ∧ Aside0 (Below w.heap.size w wc))
    case first =>
      have H := HC8.out
      clear HC8
      replace H := Option.bind_eq_some_iff.mp H
      obtain ⟨t218, A150, H⟩ := H
      replace H : (if t218 = true then (if t214 = t206 then (laws_FnExactBestLayout.j0 k l0 a1 t205 t206 t207 t210 t213 t214 t215 (t215 != t207)) else (laws_FnExactBestLayout.j0 k l0 a1 t205 t206 t207 t210 t213 t214 t215 true)) else (laws_FnExactBestLayout.j0 k l0 a1 t205 t206 t207 t210 t213 t214 t215 true)) = some r := H
      have A15 := Aside0.mk A150
      clear A150
      by_cases c16 : t218 = true
      · subst c16
        have H1 : (if t214 = t206 then (laws_FnExactBestLayout.j0 k l0 a1 t205 t206 t207 t210 t213 t214 t215 (t215 != t207)) else (laws_FnExactBestLayout.j0 k l0 a1 t205 t206 t207 t210 t213 t214 t215 true)) = some r := by rw [if_pos rfl] at H; exact H
        clear H
        have H := H1
        clear H1
        by_cases c17 : t214 = t206
        · rw [if_pos c17] at H
          have c17b0 : (t214 == t206) = true := beq_iff_eq.mpr c17
          have c17b1 : (t214 != t206) = false := bne_eq_false_iff_eq.mpr c17
          clear c17
          (first | rw [c17b0] | (simp only [i64_w, i32_w]; rw [c17b0]) | skip)
          have H' := Aside0.mk H
          clear H
          obtain ⟨Ao18, co18, eo18⟩ := Kd.R_slice HO217.out
          subst eo18
          obtain ⟨Ao19, co19, eo19⟩ := Kd.R_slice HO209.out
          subst eo19
          go_wp2_with (first | ((with_reducible refine gate_callee (f := 7) rfl ?_); refine goesL_ (some 40) rfl rfl Try.func7 (by kernel_rfl) rfl #[.slice Ao18 t213.length co18, .slice Ao19 t205.length co19] rfl (by (try simp only [List.map_toArray, List.map_cons, List.map_nil]); first | done | rfl | (simp only [List.length_drop, List.length_take]; rfl)) ?_; (with_reducible refine (laws_eqIntS.calls k _ _ t213 _ _ t205 true _ ?side1 ?side2 ?side3 ?side4 A15.out).mono ?_); (case side1 => repeat (first | exact (Kd.R_reads' HO217.out).2.2 | (with_reducible refine Kd.C_alloc ?_ _) | (with_reducible refine Kd.C_drewN ?_ _) | (with_reducible refine Kd.C_drew ?_))); (case side2 => exact (Kd.R_reads' HO217.out).2.1); (case side3 => repeat (first | exact (Kd.R_reads' HO209.out).2.2 | (with_reducible refine Kd.C_alloc ?_ _) | (with_reducible refine Kd.C_drewN ?_ _) | (with_reducible refine Kd.C_drew ?_))); (case side4 => exact (Kd.R_reads' HO209.out).2.1); rintro e w' ⟨rfl, ⟨nd, rfl⟩⟩; refine ⟨_, rfl, ?_⟩))
          go_meet
          case rel => exact ⟨_, ((t215 != t207)), (by first | rfl | (simp; done) | (simp [*]; done)), H', ⟨by first | omega | exact Nat.le_refl _⟩, ⟨by (with_reducible repeat (first | apply Kd.R_alloc | apply Kd.R_drewN | apply Kd.R_drew)); exact Kd.R_mono HO209.out (fun _ hk => ⟨hk.1.2, hk.2⟩)⟩, ⟨by (with_reducible repeat (first | apply Kd.R_alloc | apply Kd.R_drewN | apply Kd.R_drew)); exact Kd.R_mono HO212.out (fun _ hk => ⟨hk.1.2, hk.2⟩)⟩, ⟨by (with_reducible repeat (first | apply Kd.R_alloc | apply Kd.R_drewN | apply Kd.R_drew)); exact Kd.R_mono HO217.out (fun _ hk => ⟨hk.1.2, hk.2⟩)⟩, ⟨by repeat (first | (with_reducible first | exact HB.out | apply below_alloc | apply pw_below_drewN | apply below_drew1) | exact HB.out)⟩⟩
        · rw [if_neg c17] at H
          have c17b0 : (t214 == t206) = false := beq_eq_false_iff_ne.mpr c17
          have c17b1 : (t214 != t206) = true := bne_iff_ne.mpr c17
          (first | rw [c17b0] | (simp only [i64_w, i32_w]; rw [c17b0]) | skip)
          have H' := Aside0.mk H
          clear H
          obtain ⟨Ao20, co20, eo20⟩ := Kd.R_slice HO217.out
          subst eo20
          obtain ⟨Ao21, co21, eo21⟩ := Kd.R_slice HO209.out
          subst eo21
          go_wp2_with (first | ((with_reducible refine gate_callee (f := 7) rfl ?_); refine goesL_ (some 40) rfl rfl Try.func7 (by kernel_rfl) rfl #[.slice Ao20 t213.length co20, .slice Ao21 t205.length co21] rfl (by (try simp only [List.map_toArray, List.map_cons, List.map_nil]); first | done | rfl | (simp only [List.length_drop, List.length_take]; rfl)) ?_; (with_reducible refine (laws_eqIntS.calls k _ _ t213 _ _ t205 true _ ?side1 ?side2 ?side3 ?side4 A15.out).mono ?_); (case side1 => repeat (first | exact (Kd.R_reads' HO217.out).2.2 | (with_reducible refine Kd.C_alloc ?_ _) | (with_reducible refine Kd.C_drewN ?_ _) | (with_reducible refine Kd.C_drew ?_))); (case side2 => exact (Kd.R_reads' HO217.out).2.1); (case side3 => repeat (first | exact (Kd.R_reads' HO209.out).2.2 | (with_reducible refine Kd.C_alloc ?_ _) | (with_reducible refine Kd.C_drewN ?_ _) | (with_reducible refine Kd.C_drew ?_))); (case side4 => exact (Kd.R_reads' HO209.out).2.1); rintro e w' ⟨rfl, ⟨nd, rfl⟩⟩; refine ⟨_, rfl, ?_⟩))
          go_meet
          case rel => exact ⟨_, (true), (by first | rfl | (simp; done) | (simp [*]; done)), H', ⟨by first | omega | exact Nat.le_refl _⟩, ⟨by (with_reducible repeat (first | apply Kd.R_alloc | apply Kd.R_drewN | apply Kd.R_drew)); exact Kd.R_mono HO209.out (fun _ hk => ⟨hk.1.2, hk.2⟩)⟩, ⟨by (with_reducible repeat (first | apply Kd.R_alloc | apply Kd.R_drewN | apply Kd.R_drew)); exact Kd.R_mono HO212.out (fun _ hk => ⟨hk.1.2, hk.2⟩)⟩, ⟨by (with_reducible repeat (first | apply Kd.R_alloc | apply Kd.R_drewN | apply Kd.R_drew)); exact Kd.R_mono HO217.out (fun _ hk => ⟨hk.1.2, hk.2⟩)⟩, ⟨by repeat (first | (with_reducible first | exact HB.out | apply below_alloc | apply pw_below_drewN | apply below_drew1) | exact HB.out)⟩⟩
      · replace c16 := Bool.eq_false_iff.mpr c16
        subst c16
        have H1 : (laws_FnExactBestLayout.j0 k l0 a1 t205 t206 t207 t210 t213 t214 t215 true) = some r := by rw [if_neg (show ¬ (false = true) by decide)] at H; exact H
        clear H
        have H := H1
        clear H1
        have H' := Aside0.mk H
        clear H
        obtain ⟨Ao22, co22, eo22⟩ := Kd.R_slice HO217.out
        subst eo22
        obtain ⟨Ao23, co23, eo23⟩ := Kd.R_slice HO209.out
        subst eo23
        go_wp2_with (first | ((with_reducible refine gate_callee (f := 7) rfl ?_); refine goesL_ (some 40) rfl rfl Try.func7 (by kernel_rfl) rfl #[.slice Ao22 t213.length co22, .slice Ao23 t205.length co23] rfl (by (try simp only [List.map_toArray, List.map_cons, List.map_nil]); first | done | rfl | (simp only [List.length_drop, List.length_take]; rfl)) ?_; (with_reducible refine (laws_eqIntS.calls k _ _ t213 _ _ t205 false _ ?side1 ?side2 ?side3 ?side4 A15.out).mono ?_); (case side1 => repeat (first | exact (Kd.R_reads' HO217.out).2.2 | (with_reducible refine Kd.C_alloc ?_ _) | (with_reducible refine Kd.C_drewN ?_ _) | (with_reducible refine Kd.C_drew ?_))); (case side2 => exact (Kd.R_reads' HO217.out).2.1); (case side3 => repeat (first | exact (Kd.R_reads' HO209.out).2.2 | (with_reducible refine Kd.C_alloc ?_ _) | (with_reducible refine Kd.C_drewN ?_ _) | (with_reducible refine Kd.C_drew ?_))); (case side4 => exact (Kd.R_reads' HO209.out).2.1); rintro e w' ⟨rfl, ⟨nd, rfl⟩⟩; refine ⟨_, rfl, ?_⟩))
        go_meet
        case rel => exact ⟨_, (true), (by first | rfl | (simp; done) | (simp [*]; done)), H', ⟨by first | omega | exact Nat.le_refl _⟩, ⟨by (with_reducible repeat (first | apply Kd.R_alloc | apply Kd.R_drewN | apply Kd.R_drew)); exact Kd.R_mono HO209.out (fun _ hk => ⟨hk.1.2, hk.2⟩)⟩, ⟨by (with_reducible repeat (first | apply Kd.R_alloc | apply Kd.R_drewN | apply Kd.R_drew)); exact Kd.R_mono HO212.out (fun _ hk => ⟨hk.1.2, hk.2⟩)⟩, ⟨by (with_reducible repeat (first | apply Kd.R_alloc | apply Kd.R_drewN | apply Kd.R_drew)); exact Kd.R_mono HO217.out (fun _ hk => ⟨hk.1.2, hk.2⟩)⟩, ⟨by repeat (first | (with_reducible first | exact HB.out | apply below_alloc | apply pw_below_drewN | apply below_drew1) | exact HB.out)⟩⟩
    case rest =>
      clear HC8
      try clear c1
      try clear p2
      try clear c3
      try clear c3b0
      try clear c3b1
      try clear c4
      try clear c5
      try clear c6
      try clear c7
      try clear c16
      try clear c17
      try clear c17b0
      try clear c17b1
      obtain ⟨kq, x51_7, rfl, HA, HJ7, HO_5, HO_8, HO_9, HB⟩ := hcut
      cases kq with
      | zero => exact absurd HA.out (by simp [laws_FnExactBestLayout.j0])
      | succ kj7 =>
        have H := HA.out
        clear HA
        simp only [laws_FnExactBestLayout.j0] at H
        by_cases c24 : x51_7 = true
        · subst c24
          have H1 : (some false) = some r := by rw [if_pos rfl] at H; exact H
          clear H
          have H := H1
          clear H1
          obtain rfl := Option.some.inj H
          go_wp2
          go_ret
          exact ⟨by first | rfl | (simp [errW_none, errW_some] <;> rfl) | (simp [*, errW_none, errW_some] <;> rfl), by repeat (first | (with_reducible first | exact HB.out | apply below_alloc | apply pw_below_drewN | apply below_drew1) | exact HB.out)⟩
        · replace c24 := Bool.eq_false_iff.mpr c24
          subst c24
          have H1 : ((laws_toIntS.f kj7 l0).bind fun t219 => ((laws_eqIntS.f kj7 t210 t219).bind fun t222 => (if t222 = true then ((laws_markIntS.f kj7 t210 1).bind fun bt223 => (if bt223.1 < 0 then (laws_FnExactBestLayout.j1 kj7 l0 a1 t205 t206 t207 t213 true) else ((laws_eqIntS.f kj7 t213 t205).bind fun t225 => (if t225 = true then (if t214 = t206 then (laws_FnExactBestLayout.j1 kj7 l0 a1 t205 t206 t207 t213 (t215 != t207)) else (laws_FnExactBestLayout.j1 kj7 l0 a1 t205 t206 t207 t213 true)) else (laws_FnExactBestLayout.j1 kj7 l0 a1 t205 t206 t207 t213 true))))) else (some false)))) = some r := by rw [if_neg (show ¬ (false = true) by decide)] at H; exact H
          clear H
          have H := H1
          clear H1
          replace H := Option.bind_eq_some_iff.mp H
          obtain ⟨t219, A250, H⟩ := H
          replace H : ((laws_eqIntS.f kj7 t210 t219).bind fun t222 => (if t222 = true then ((laws_markIntS.f kj7 t210 1).bind fun bt223 => (if bt223.1 < 0 then (laws_FnExactBestLayout.j1 kj7 l0 a1 t205 t206 t207 t213 true) else ((laws_eqIntS.f kj7 t213 t205).bind fun t225 => (if t225 = true then (if t214 = t206 then (laws_FnExactBestLayout.j1 kj7 l0 a1 t205 t206 t207 t213 (t215 != t207)) else (laws_FnExactBestLayout.j1 kj7 l0 a1 t205 t206 t207 t213 true)) else (laws_FnExactBestLayout.j1 kj7 l0 a1 t205 t206 t207 t213 true))))) else (some false))) = some r := H
          have A25 := Aside0.mk A250
          clear A250
          replace H := Option.bind_eq_some_iff.mp H
          obtain ⟨t222, A260, H⟩ := H
          replace H : (if t222 = true then ((laws_markIntS.f kj7 t210 1).bind fun bt223 => (if bt223.1 < 0 then (laws_FnExactBestLayout.j1 kj7 l0 a1 t205 t206 t207 t213 true) else ((laws_eqIntS.f kj7 t213 t205).bind fun t225 => (if t225 = true then (if t214 = t206 then (laws_FnExactBestLayout.j1 kj7 l0 a1 t205 t206 t207 t213 (t215 != t207)) else (laws_FnExactBestLayout.j1 kj7 l0 a1 t205 t206 t207 t213 true)) else (laws_FnExactBestLayout.j1 kj7 l0 a1 t205 t206 t207 t213 true))))) else (some false)) = some r := H
          have A26 := Aside0.mk A260
          clear A260
          by_cases c27 : t222 = true
          · subst c27
            have H1 : ((laws_markIntS.f kj7 t210 1).bind fun bt223 => (if bt223.1 < 0 then (laws_FnExactBestLayout.j1 kj7 l0 a1 t205 t206 t207 t213 true) else ((laws_eqIntS.f kj7 t213 t205).bind fun t225 => (if t225 = true then (if t214 = t206 then (laws_FnExactBestLayout.j1 kj7 l0 a1 t205 t206 t207 t213 (t215 != t207)) else (laws_FnExactBestLayout.j1 kj7 l0 a1 t205 t206 t207 t213 true)) else (laws_FnExactBestLayout.j1 kj7 l0 a1 t205 t206 t207 t213 true))))) = some r := by rw [if_pos rfl] at H; exact H
            clear H
            have H := H1
            clear H1
            replace H := Option.bind_eq_some_iff.mp H
            obtain ⟨⟨t223, t224⟩, A280, H⟩ := H
            replace H : (if t223 < 0 then (laws_FnExactBestLayout.j1 kj7 l0 a1 t205 t206 t207 t213 true) else ((laws_eqIntS.f kj7 t213 t205).bind fun t225 => (if t225 = true then (if t214 = t206 then (laws_FnExactBestLayout.j1 kj7 l0 a1 t205 t206 t207 t213 (t215 != t207)) else (laws_FnExactBestLayout.j1 kj7 l0 a1 t205 t206 t207 t213 true)) else (laws_FnExactBestLayout.j1 kj7 l0 a1 t205 t206 t207 t213 true)))) = some r := H
            have A28 := Aside0.mk A280
            clear A280
            have HC29 := Aside0.mk H
            clear H
            go_upto_region 12 with (first | ((with_reducible refine gate_callee (f := 5) rfl ?_); refine goesL_ (some 54) rfl rfl Try.func5 (by kernel_rfl) rfl #[.slice A0 l0.length c0] rfl (by (try simp only [List.map_toArray, List.map_cons, List.map_nil]); first | done | rfl | (simp only [List.length_drop, List.length_take]; rfl)) ?_; (with_reducible refine (laws_toIntS.calls kj7 _ _ l0 t219 _ ?side1 ?side2 A25.out).mono ?_); (case side1 => repeat (first | exact (Kd.C_below HR0.out HB.out) | (with_reducible refine Kd.C_alloc ?_ _) | (with_reducible refine Kd.C_drewN ?_ _) | (with_reducible refine Kd.C_drew ?_))); (case side2 => exact HC0.out); rintro e w30 ⟨v220, rfl, ho0, hb⟩; refine ⟨_, rfl, ?_⟩; have n0_ := Aside0.mk (Kd.R_elder' (by (with_reducible repeat (first | apply Kd.R_alloc | apply Kd.R_drewN | apply Kd.R_drew)); exact HO_5.out) (Kd.R_base ho0) hb); have n1_ := Aside0.mk (Kd.R_elder' (by (with_reducible repeat (first | apply Kd.R_alloc | apply Kd.R_drewN | apply Kd.R_drew)); exact HO_8.out) (Kd.R_base ho0) hb); have n2_ := Aside0.mk (Kd.R_elder' (by (with_reducible repeat (first | apply Kd.R_alloc | apply Kd.R_drewN | apply Kd.R_drew)); exact HO_9.out) (Kd.R_base ho0) hb); have n3_ := Aside0.mk (Kd.R_lower (Kd.R_new' (Kd.R_new' (Kd.R_new' ho0 (Kd.R_lt (by (with_reducible repeat (first | apply Kd.R_alloc | apply Kd.R_drewN | apply Kd.R_drew)); exact HO_5.out))) (Kd.R_lt (by (with_reducible repeat (first | apply Kd.R_alloc | apply Kd.R_drewN | apply Kd.R_drew)); exact HO_8.out))) (Kd.R_lt (by (with_reducible repeat (first | apply Kd.R_alloc | apply Kd.R_drewN | apply Kd.R_drew)); exact HO_9.out))) (below_size (by repeat (first | (with_reducible first | exact HB.out | apply below_alloc | apply pw_below_drewN | apply below_drew1) | exact HB.out)))); have n4_ := Aside0.mk (below_step (by repeat (first | (with_reducible first | exact HB.out | apply below_alloc | apply pw_below_drewN | apply below_drew1) | exact HB.out)) hb); clear HO_5; clear HO_8; clear HO_9; clear HB; have HO_5 := n0_; have HO_8 := n1_; have HO_9 := n2_; have HO221 := n3_; have HB := n4_; clear n0_ n1_ n2_ n3_ n4_; (try clear hb); (try clear hb2); (try clear hk); (try clear hi); (try clear ho0); obtain ⟨Ao31, co31, eo31⟩ := Kd.R_slice HO221.out; subst eo31) | ((with_reducible refine gate_callee (f := 7) rfl ?_); refine goesL_ (some 55) rfl rfl Try.func7 (by kernel_rfl) rfl #[.slice Ao13 t210.length co13, .slice Ao31 t219.length co31] rfl (by (try simp only [List.map_toArray, List.map_cons, List.map_nil]); first | done | rfl | (simp only [List.length_drop, List.length_take]; rfl)) ?_; (with_reducible refine (laws_eqIntS.calls kj7 _ _ t210 _ _ t219 true _ ?side1 ?side2 ?side3 ?side4 A26.out).mono ?_); (case side1 => repeat (first | exact (Kd.R_reads' HO_8.out).2.2 | (with_reducible refine Kd.C_alloc ?_ _) | (with_reducible refine Kd.C_drewN ?_ _) | (with_reducible refine Kd.C_drew ?_))); (case side2 => exact (Kd.R_reads' HO_8.out).2.1); (case side3 => repeat (first | exact (Kd.R_reads' HO221.out).2.2 | (with_reducible refine Kd.C_alloc ?_ _) | (with_reducible refine Kd.C_drewN ?_ _) | (with_reducible refine Kd.C_drew ?_))); (case side4 => exact (Kd.R_reads' HO221.out).2.1); rintro e w' ⟨rfl, ⟨nd, rfl⟩⟩; refine ⟨_, rfl, ?_⟩) | ((with_reducible refine gate_callee (f := 8) rfl ?_); refine goesL_ (some 59) rfl rfl Try.func8 (by kernel_rfl) rfl #[.slice Ao13 t210.length co13, .int .i64 1] rfl (by (try simp only [List.map_toArray, List.map_cons, List.map_nil]); first | done | rfl | (simp only [List.length_drop, List.length_take]; rfl)) ?_; (with_reducible refine (laws_markIntS.calls kj7 (fun k_ => some k_ = (.slice Ao13 t210.length co13 : Value).ownBlock) (.slice Ao13 t210.length co13) t210 1 t223 t224 w _ ?side1 ?side2 A28.out).mono ?_); (case side1 => repeat (first | (with_reducible first | exact HB.out | apply below_alloc | apply pw_below_drewN | apply below_drew1) | exact HB.out)); (case side2 => exact Kd.R_tight rfl HO_8.out); rintro e w32 ⟨rfl, hy0, hb, hkp⟩; refine ⟨_, rfl, ?_⟩; have n0_ := Aside0.mk (Kd.R_mono (ok' := fun k_ => some k_ ≠ (.slice Ao13 t210.length co13 : Value).ownBlock ∧ some k_ ≠ (v216 : Value).ownBlock ∧ some k_ ≠ (.slice Ao31 t219.length co31 : Value).ownBlock) (Kd.R_keptB (HO_5.out) hkp (fun k_ hk_ hs_ => (hk_.1.1) hs_)) (fun k_ hk_ => ⟨hk_.1.1.1, hk_.1.1.2, hk_.1.2⟩)); have n1_ := Aside0.mk (Kd.R_reok rfl hy0 (fun k_ e_ => HO_8.out.1 k_ e_)); have n2_ := Aside0.mk (Kd.R_mono (ok' := fun k_ => some k_ ≠ (v208 : Value).ownBlock ∧ some k_ ≠ (.slice Ao13 t210.length co13 : Value).ownBlock ∧ some k_ ≠ (.slice Ao31 t219.length co31 : Value).ownBlock) (Kd.R_keptB (HO_9.out) hkp (fun k_ hk_ hs_ => (hk_.1.2) hs_)) (fun k_ hk_ => ⟨hk_.1.1.1, hk_.1.1.2, hk_.1.2⟩)); have n3_ := Aside0.mk (Kd.R_mono (ok' := fun k_ => some k_ ≠ (v208 : Value).ownBlock ∧ some k_ ≠ (.slice Ao13 t210.length co13 : Value).ownBlock ∧ some k_ ≠ (v216 : Value).ownBlock) (Kd.R_keptB (HO221.out) hkp (fun k_ hk_ hs_ => (hk_.1.2) hs_)) (fun k_ hk_ => ⟨hk_.1.1.1.2, hk_.1.1.2, hk_.1.2⟩)); have n4_ := Aside0.mk (hb); clear HO_5; clear HO_8; clear HO_9; clear HO221; clear HB; have HO_5 := n0_; have HO_8 := n1_; have HO_9 := n2_; have HO221 := n3_; have HB := n4_; clear n0_ n1_ n2_ n3_ n4_; (try clear hb); (try clear hkp); (try clear hy0)))
            (try simp only [Act.put, List.setIfInBounds_toArray, List.set_cons_zero, List.set_cons_succ])
            go_cut [77] (fun v77 wc => ∃ (kq : Nat) (x77_28 : Bool), v77 = .bool x77_28 ∧ Aside0 (laws_FnExactBestLayout.j1 kq l0 a1 t205 t206 t207 t213 x77_28 = some r) ∧ Aside0 (kq ≤ kj7) ∧ Aside0 (Kd.R (Kd.int .i64) 3 wc w.heap.size (fun k_ => some k_ ≠ (v216 : Value).ownBlock) v208 t205) ∧ Aside0 (Kd.R (Kd.int .i64) 3 wc w.heap.size (fun k_ => some k_ ≠ (v208 : Value).ownBlock) v216 t213) ∧ Aside0 (Below w.heap.size w wc))
            case first =>
              have H := HC29.out
              clear HC29
              by_cases c33 : t223 < 0
              · rw [if_pos c33] at H
                have c33b0 : decide (t223 < 0) = true := decide_eq_true c33
                clear c33
                (first | rw [c33b0] | (simp only [i64_w, i32_w]; rw [c33b0]) | skip)
                have H' := Aside0.mk H
                clear H
                go_wp2
                go_meet
                case rel => exact ⟨_, (true), (by first | rfl | (simp; done) | (simp [*]; done)), H', ⟨by have := HJ7.out; first | omega | exact Nat.le_refl _⟩, ⟨by (with_reducible repeat (first | apply Kd.R_alloc | apply Kd.R_drewN | apply Kd.R_drew)); exact Kd.R_mono HO_5.out (fun _ hk => hk.2.1)⟩, ⟨by (with_reducible repeat (first | apply Kd.R_alloc | apply Kd.R_drewN | apply Kd.R_drew)); exact Kd.R_mono HO_9.out (fun _ hk => hk.1)⟩, ⟨by repeat (first | (with_reducible first | exact HB.out | apply below_alloc | apply pw_below_drewN | apply below_drew1) | exact HB.out)⟩⟩
              · rw [if_neg c33] at H
                have c33b0 : decide (t223 < 0) = false := decide_eq_false c33
                clear c33
                (first | rw [c33b0] | (simp only [i64_w, i32_w]; rw [c33b0]) | skip)
                replace H := Option.bind_eq_some_iff.mp H
                obtain ⟨t225, A340, H⟩ := H
                replace H : (if t225 = true then (if t214 = t206 then (laws_FnExactBestLayout.j1 kj7 l0 a1 t205 t206 t207 t213 (t215 != t207)) else (laws_FnExactBestLayout.j1 kj7 l0 a1 t205 t206 t207 t213 true)) else (laws_FnExactBestLayout.j1 kj7 l0 a1 t205 t206 t207 t213 true)) = some r := H
                have A34 := Aside0.mk A340
                clear A340
                by_cases c35 : t225 = true
                · subst c35
                  have H1 : (if t214 = t206 then (laws_FnExactBestLayout.j1 kj7 l0 a1 t205 t206 t207 t213 (t215 != t207)) else (laws_FnExactBestLayout.j1 kj7 l0 a1 t205 t206 t207 t213 true)) = some r := by rw [if_pos rfl] at H; exact H
                  clear H
                  have H := H1
                  clear H1
                  by_cases c36 : t214 = t206
                  · rw [if_pos c36] at H
                    have c36b0 : (t214 == t206) = true := beq_iff_eq.mpr c36
                    have c36b1 : (t214 != t206) = false := bne_eq_false_iff_eq.mpr c36
                    clear c36
                    have H' := Aside0.mk H
                    clear H
                    obtain ⟨Ao37, co37, eo37⟩ := Kd.R_slice HO_9.out
                    subst eo37
                    obtain ⟨Ao38, co38, eo38⟩ := Kd.R_slice HO_5.out
                    subst eo38
                    go_wp2_with (first | (go_at_call 7; (with_reducible refine (laws_eqIntS.calls kj7 _ _ t213 _ _ t205 true _ ?side1 ?side2 ?side3 ?side4 A34.out).mono ?_); (case side1 => repeat (first | exact (Kd.R_reads' HO_9.out).2.2 | (with_reducible refine Kd.C_alloc ?_ _) | (with_reducible refine Kd.C_drewN ?_ _) | (with_reducible refine Kd.C_drew ?_))); (case side2 => exact (Kd.R_reads' HO_9.out).2.1); (case side3 => repeat (first | exact (Kd.R_reads' HO_5.out).2.2 | (with_reducible refine Kd.C_alloc ?_ _) | (with_reducible refine Kd.C_drewN ?_ _) | (with_reducible refine Kd.C_drew ?_))); (case side4 => exact (Kd.R_reads' HO_5.out).2.1); rintro e w' ⟨rfl, ⟨nd, rfl⟩⟩))
                    go_meet
                    case rel => exact ⟨_, ((t215 != t207)), (by first | rfl | (simp; done) | (simp [*]; done)), H', ⟨by have := HJ7.out; first | omega | exact Nat.le_refl _⟩, ⟨by (with_reducible repeat (first | apply Kd.R_alloc | apply Kd.R_drewN | apply Kd.R_drew)); exact Kd.R_mono HO_5.out (fun _ hk => hk.2.1)⟩, ⟨by (with_reducible repeat (first | apply Kd.R_alloc | apply Kd.R_drewN | apply Kd.R_drew)); exact Kd.R_mono HO_9.out (fun _ hk => hk.1)⟩, ⟨by repeat (first | (with_reducible first | exact HB.out | apply below_alloc | apply pw_below_drewN | apply below_drew1) | exact HB.out)⟩⟩
                  · rw [if_neg c36] at H
                    have c36b0 : (t214 == t206) = false := beq_eq_false_iff_ne.mpr c36
                    have c36b1 : (t214 != t206) = true := bne_iff_ne.mpr c36
                    have H' := Aside0.mk H
                    clear H
                    obtain ⟨Ao39, co39, eo39⟩ := Kd.R_slice HO_9.out
                    subst eo39
                    obtain ⟨Ao40, co40, eo40⟩ := Kd.R_slice HO_5.out
                    subst eo40
                    go_wp2_with (first | (go_at_call 7; (with_reducible refine (laws_eqIntS.calls kj7 _ _ t213 _ _ t205 true _ ?side1 ?side2 ?side3 ?side4 A34.out).mono ?_); (case side1 => repeat (first | exact (Kd.R_reads' HO_9.out).2.2 | (with_reducible refine Kd.C_alloc ?_ _) | (with_reducible refine Kd.C_drewN ?_ _) | (with_reducible refine Kd.C_drew ?_))); (case side2 => exact (Kd.R_reads' HO_9.out).2.1); (case side3 => repeat (first | exact (Kd.R_reads' HO_5.out).2.2 | (with_reducible refine Kd.C_alloc ?_ _) | (with_reducible refine Kd.C_drewN ?_ _) | (with_reducible refine Kd.C_drew ?_))); (case side4 => exact (Kd.R_reads' HO_5.out).2.1); rintro e w' ⟨rfl, ⟨nd, rfl⟩⟩))
                    go_meet
                    case rel => exact ⟨_, (true), (by first | rfl | (simp; done) | (simp [*]; done)), H', ⟨by have := HJ7.out; first | omega | exact Nat.le_refl _⟩, ⟨by (with_reducible repeat (first | apply Kd.R_alloc | apply Kd.R_drewN | apply Kd.R_drew)); exact Kd.R_mono HO_5.out (fun _ hk => hk.2.1)⟩, ⟨by (with_reducible repeat (first | apply Kd.R_alloc | apply Kd.R_drewN | apply Kd.R_drew)); exact Kd.R_mono HO_9.out (fun _ hk => hk.1)⟩, ⟨by repeat (first | (with_reducible first | exact HB.out | apply below_alloc | apply pw_below_drewN | apply below_drew1) | exact HB.out)⟩⟩
                · replace c35 := Bool.eq_false_iff.mpr c35
                  subst c35
                  have H1 : (laws_FnExactBestLayout.j1 kj7 l0 a1 t205 t206 t207 t213 true) = some r := by rw [if_neg (show ¬ (false = true) by decide)] at H; exact H
                  clear H
                  have H := H1
                  clear H1
                  have H' := Aside0.mk H
                  clear H
                  obtain ⟨Ao41, co41, eo41⟩ := Kd.R_slice HO_9.out
                  subst eo41
                  obtain ⟨Ao42, co42, eo42⟩ := Kd.R_slice HO_5.out
                  subst eo42
                  go_wp2_with (first | (go_at_call 7; (with_reducible refine (laws_eqIntS.calls kj7 _ _ t213 _ _ t205 false _ ?side1 ?side2 ?side3 ?side4 A34.out).mono ?_); (case side1 => repeat (first | exact (Kd.R_reads' HO_9.out).2.2 | (with_reducible refine Kd.C_alloc ?_ _) | (with_reducible refine Kd.C_drewN ?_ _) | (with_reducible refine Kd.C_drew ?_))); (case side2 => exact (Kd.R_reads' HO_9.out).2.1); (case side3 => repeat (first | exact (Kd.R_reads' HO_5.out).2.2 | (with_reducible refine Kd.C_alloc ?_ _) | (with_reducible refine Kd.C_drewN ?_ _) | (with_reducible refine Kd.C_drew ?_))); (case side4 => exact (Kd.R_reads' HO_5.out).2.1); rintro e w' ⟨rfl, ⟨nd, rfl⟩⟩))
                  go_meet
                  case rel => exact ⟨_, (true), (by first | rfl | (simp; done) | (simp [*]; done)), H', ⟨by have := HJ7.out; first | omega | exact Nat.le_refl _⟩, ⟨by (with_reducible repeat (first | apply Kd.R_alloc | apply Kd.R_drewN | apply Kd.R_drew)); exact Kd.R_mono HO_5.out (fun _ hk => hk.2.1)⟩, ⟨by (with_reducible repeat (first | apply Kd.R_alloc | apply Kd.R_drewN | apply Kd.R_drew)); exact Kd.R_mono HO_9.out (fun _ hk => hk.1)⟩, ⟨by repeat (first | (with_reducible first | exact HB.out | apply below_alloc | apply pw_below_drewN | apply below_drew1) | exact HB.out)⟩⟩
            case rest =>
              clear HC29
              try clear c1
              try clear c2
              try clear p2
              try clear c3
              try clear c3b0
              try clear c3b1
              try clear c4
              try clear c5
              try clear c6
              try clear c7
              try clear c8
              try clear c16
              try clear c17
              try clear c17b0
              try clear c17b1
              try clear c24
              try clear c27
              try clear c33
              try clear c33b0
              try clear c35
              try clear c36
              try clear c36b0
              try clear c36b1
              try clear p2
              obtain ⟨kq, x77_28, rfl, HA, HJ28, HO_5, HO_9, HB⟩ := hcut
              cases kq with
              | zero => exact absurd HA.out (by simp [laws_FnExactBestLayout.j1])
              | succ kj28 =>
                have H := HA.out
                clear HA
                simp only [laws_FnExactBestLayout.j1] at H
                by_cases c43 : x77_28 = true
                · subst c43
                  have H1 : (some false) = some r := by rw [if_pos rfl] at H; exact H
                  clear H
                  have H := H1
                  clear H1
                  obtain rfl := Option.some.inj H
                  go_wp2
                  go_ret
                  exact ⟨by first | rfl | (simp [errW_none, errW_some] <;> rfl) | (simp [*, errW_none, errW_some] <;> rfl), by repeat (first | (with_reducible first | exact HB.out | apply below_alloc | apply pw_below_drewN | apply below_drew1) | exact HB.out)⟩
                · replace c43 := Bool.eq_false_iff.mpr c43
                  subst c43
                  have H1 : ((laws_markIntS.f kj28 t213 1).bind fun bt226 => ((laws_heldIntS.f kj28 bt226.2 1).bind fun t228 => (if t228 < 0 then (some false) else (if t228 = bt226.1 then ((laws_toIntS.f kj28 l0).bind fun t229 => ((impl_BestLayout.f kj28 t229 a1).bind fun bt232 => ((laws_eqIntS.f kj28 bt232.1 t205).bind fun t237 => (if t237 = true then (if bt232.2.1 = t206 then (laws_FnExactBestLayout.j2 kj28 bt226.2 bt226.1 (bt232.2.2 != t207)) else (laws_FnExactBestLayout.j2 kj28 bt226.2 bt226.1 true)) else (laws_FnExactBestLayout.j2 kj28 bt226.2 bt226.1 true))))) else (some false))))) = some r := by rw [if_neg (show ¬ (false = true) by decide)] at H; exact H
                  clear H
                  have H := H1
                  clear H1
                  replace H := Option.bind_eq_some_iff.mp H
                  obtain ⟨⟨t226, t227⟩, A440, H⟩ := H
                  replace H : ((laws_heldIntS.f kj28 t227 1).bind fun t228 => (if t228 < 0 then (some false) else (if t228 = t226 then ((laws_toIntS.f kj28 l0).bind fun t229 => ((impl_BestLayout.f kj28 t229 a1).bind fun bt232 => ((laws_eqIntS.f kj28 bt232.1 t205).bind fun t237 => (if t237 = true then (if bt232.2.1 = t206 then (laws_FnExactBestLayout.j2 kj28 t227 t226 (bt232.2.2 != t207)) else (laws_FnExactBestLayout.j2 kj28 t227 t226 true)) else (laws_FnExactBestLayout.j2 kj28 t227 t226 true))))) else (some false)))) = some r := H
                  have A44 := Aside0.mk A440
                  clear A440
                  replace H := Option.bind_eq_some_iff.mp H
                  obtain ⟨t228, A450, H⟩ := H
                  replace H : (if t228 < 0 then (some false) else (if t228 = t226 then ((laws_toIntS.f kj28 l0).bind fun t229 => ((impl_BestLayout.f kj28 t229 a1).bind fun bt232 => ((laws_eqIntS.f kj28 bt232.1 t205).bind fun t237 => (if t237 = true then (if bt232.2.1 = t206 then (laws_FnExactBestLayout.j2 kj28 t227 t226 (bt232.2.2 != t207)) else (laws_FnExactBestLayout.j2 kj28 t227 t226 true)) else (laws_FnExactBestLayout.j2 kj28 t227 t226 true))))) else (some false))) = some r := H
                  have A45 := Aside0.mk A450
                  clear A450
                  by_cases c46 : t228 < 0
                  · rw [if_pos c46] at H
                    have c46b0 : decide (t228 < 0) = true := decide_eq_true c46
                    clear c46
                    obtain rfl := Option.some.inj H
                    obtain ⟨Ao47, co47, eo47⟩ := Kd.R_slice HO_9.out
                    subst eo47
                    go_wp2_with (first | ((with_reducible refine gate_callee (f := 8) rfl ?_); refine goesL_ (some 80) rfl rfl Try.func8 (by kernel_rfl) rfl #[.slice Ao47 t213.length co47, .int .i64 1] rfl (by (try simp only [List.map_toArray, List.map_cons, List.map_nil]); first | done | rfl | (simp only [List.length_drop, List.length_take]; rfl)) ?_; (with_reducible refine (laws_markIntS.calls kj28 (fun k_ => some k_ = (.slice Ao47 t213.length co47 : Value).ownBlock) (.slice Ao47 t213.length co47) t213 1 t226 t227 w _ ?side1 ?side2 A44.out).mono ?_); (case side1 => repeat (first | (with_reducible first | exact HB.out | apply below_alloc | apply pw_below_drewN | apply below_drew1) | exact HB.out)); (case side2 => exact Kd.R_tight rfl HO_9.out); rintro e w48 ⟨rfl, hy0, hb, hkp⟩; refine ⟨_, rfl, ?_⟩; have n0_ := Aside0.mk (Kd.R_mono (ok' := fun k_ => some k_ ≠ (.slice Ao47 t213.length co47 : Value).ownBlock) (Kd.R_keptB (HO_5.out) hkp (fun k_ hk_ hs_ => (hk_) hs_)) (fun k_ hk_ => hk_.1)); have n1_ := Aside0.mk (Kd.R_reok rfl hy0 (fun k_ e_ => HO_9.out.1 k_ e_)); have n2_ := Aside0.mk (hb); clear HO_5; clear HO_9; clear HB; have HO_5 := n0_; have HO_9 := n1_; have HB := n2_; clear n0_ n1_ n2_; (try clear hb); (try clear hkp); (try clear hy0)) | ((with_reducible refine gate_callee (f := 9) rfl ?_); refine goesL_ (some 83) rfl rfl Try.func9 (by kernel_rfl) rfl #[.slice Ao47 t227.length co47, .int .i64 1] rfl (by (try simp only [List.map_toArray, List.map_cons, List.map_nil]); first | done | (rw [show t227.length = t213.length from (Kd.R_reads' HO_9.out).1.symm] <;> rfl) | rfl | (simp only [List.length_drop, List.length_take]; rfl)) ?_; (with_reducible refine (laws_heldIntS.calls kj28 _ _ t227 1 t228 _ ?side1 ?side2 A45.out).mono ?_); (case side1 => repeat (first | exact (Kd.R_reads' HO_9.out).2.2 | (with_reducible refine Kd.C_alloc ?_ _) | (with_reducible refine Kd.C_drewN ?_ _) | (with_reducible refine Kd.C_drew ?_))); (case side2 => rw [show t227.length = t213.length from (Kd.R_reads' HO_9.out).1.symm]; exact (Kd.R_reads' HO_9.out).2.1); rintro e w' ⟨rfl, ⟨nd, rfl⟩⟩; refine ⟨_, rfl, ?_⟩))
                    go_ret
                    exact ⟨by first | rfl | (simp [errW_none, errW_some] <;> rfl) | (simp [*, errW_none, errW_some] <;> rfl), by repeat (first | (with_reducible first | exact HB.out | apply below_alloc | apply pw_below_drewN | apply below_drew1) | exact HB.out)⟩
                  · rw [if_neg c46] at H
                    have c46b0 : decide (t228 < 0) = false := decide_eq_false c46
                    clear c46
                    by_cases c49 : t228 = t226
                    · rw [if_pos c49] at H
                      have c49b0 : (t228 == t226) = true := beq_iff_eq.mpr c49
                      have c49b1 : (t228 != t226) = false := bne_eq_false_iff_eq.mpr c49
                      clear c49
                      replace H := Option.bind_eq_some_iff.mp H
                      obtain ⟨t229, A500, H⟩ := H
                      replace H : ((impl_BestLayout.f kj28 t229 a1).bind fun bt232 => ((laws_eqIntS.f kj28 bt232.1 t205).bind fun t237 => (if t237 = true then (if bt232.2.1 = t206 then (laws_FnExactBestLayout.j2 kj28 t227 t226 (bt232.2.2 != t207)) else (laws_FnExactBestLayout.j2 kj28 t227 t226 true)) else (laws_FnExactBestLayout.j2 kj28 t227 t226 true)))) = some r := H
                      have A50 := Aside0.mk A500
                      clear A500
                      replace H := Option.bind_eq_some_iff.mp H
                      obtain ⟨⟨t232, t233, t234⟩, A510, H⟩ := H
                      replace H : ((laws_eqIntS.f kj28 t232 t205).bind fun t237 => (if t237 = true then (if t233 = t206 then (laws_FnExactBestLayout.j2 kj28 t227 t226 (t234 != t207)) else (laws_FnExactBestLayout.j2 kj28 t227 t226 true)) else (laws_FnExactBestLayout.j2 kj28 t227 t226 true))) = some r := H
                      have A51 := Aside0.mk A510
                      clear A510
                      have HC52 := Aside0.mk H
                      clear H
                      obtain ⟨Ao53, co53, eo53⟩ := Kd.R_slice HO_9.out
                      subst eo53
                      go_upto_region 23 with (first | ((with_reducible refine gate_callee (f := 8) rfl ?_); refine goesL_ (some 80) rfl rfl Try.func8 (by kernel_rfl) rfl #[.slice Ao53 t213.length co53, .int .i64 1] rfl (by (try simp only [List.map_toArray, List.map_cons, List.map_nil]); first | done | rfl | (simp only [List.length_drop, List.length_take]; rfl)) ?_; (with_reducible refine (laws_markIntS.calls kj28 (fun k_ => some k_ = (.slice Ao53 t213.length co53 : Value).ownBlock) (.slice Ao53 t213.length co53) t213 1 t226 t227 w _ ?side1 ?side2 A44.out).mono ?_); (case side1 => repeat (first | (with_reducible first | exact HB.out | apply below_alloc | apply pw_below_drewN | apply below_drew1) | exact HB.out)); (case side2 => exact Kd.R_tight rfl HO_9.out); rintro e w54 ⟨rfl, hy0, hb, hkp⟩; refine ⟨_, rfl, ?_⟩; have n0_ := Aside0.mk (Kd.R_mono (ok' := fun k_ => some k_ ≠ (.slice Ao53 t213.length co53 : Value).ownBlock) (Kd.R_keptB (HO_5.out) hkp (fun k_ hk_ hs_ => (hk_) hs_)) (fun k_ hk_ => hk_.1)); have n1_ := Aside0.mk (Kd.R_reok rfl hy0 (fun k_ e_ => HO_9.out.1 k_ e_)); have n2_ := Aside0.mk (hb); clear HO_5; clear HO_9; clear HB; have HO_5 := n0_; have HO_9 := n1_; have HB := n2_; clear n0_ n1_ n2_; (try clear hb); (try clear hkp); (try clear hy0)) | ((with_reducible refine gate_callee (f := 9) rfl ?_); refine goesL_ (some 83) rfl rfl Try.func9 (by kernel_rfl) rfl #[.slice Ao53 t227.length co53, .int .i64 1] rfl (by (try simp only [List.map_toArray, List.map_cons, List.map_nil]); first | done | (rw [show t227.length = t213.length from (Kd.R_reads' HO_9.out).1.symm] <;> rfl) | rfl | (simp only [List.length_drop, List.length_take]; rfl)) ?_; (with_reducible refine (laws_heldIntS.calls kj28 _ _ t227 1 t228 _ ?side1 ?side2 A45.out).mono ?_); (case side1 => repeat (first | exact (Kd.R_reads' HO_9.out).2.2 | (with_reducible refine Kd.C_alloc ?_ _) | (with_reducible refine Kd.C_drewN ?_ _) | (with_reducible refine Kd.C_drew ?_))); (case side2 => rw [show t227.length = t213.length from (Kd.R_reads' HO_9.out).1.symm]; exact (Kd.R_reads' HO_9.out).2.1); rintro e w' ⟨rfl, ⟨nd, rfl⟩⟩; refine ⟨_, rfl, ?_⟩) | ((with_reducible refine gate_callee (f := 5) rfl ?_); refine goesL_ (some 91) rfl rfl Try.func5 (by kernel_rfl) rfl #[.slice A0 l0.length c0] rfl (by (try simp only [List.map_toArray, List.map_cons, List.map_nil]); first | done | rfl | (simp only [List.length_drop, List.length_take]; rfl)) ?_; (with_reducible refine (laws_toIntS.calls kj28 _ _ l0 t229 _ ?side1 ?side2 A50.out).mono ?_); (case side1 => repeat (first | exact (Kd.C_below HR0.out (by repeat (first | (with_reducible first | exact HB.out | apply below_alloc | apply pw_below_drewN | apply below_drew1) | exact HB.out))) | (with_reducible refine Kd.C_alloc ?_ _) | (with_reducible refine Kd.C_drewN ?_ _) | (with_reducible refine Kd.C_drew ?_))); (case side2 => exact HC0.out); rintro e w55 ⟨v230, rfl, ho0, hb⟩; refine ⟨_, rfl, ?_⟩; have n0_ := Aside0.mk (Kd.R_elder' (by (with_reducible repeat (first | apply Kd.R_alloc | apply Kd.R_drewN | apply Kd.R_drew)); exact HO_5.out) (Kd.R_base ho0) hb); have n1_ := Aside0.mk (Kd.R_elder' (by (with_reducible repeat (first | apply Kd.R_alloc | apply Kd.R_drewN | apply Kd.R_drew)); exact HO_9.out) (Kd.R_base ho0) hb); have n2_ := Aside0.mk (Kd.R_lower (Kd.R_new' (Kd.R_new' ho0 (Kd.R_lt (by (with_reducible repeat (first | apply Kd.R_alloc | apply Kd.R_drewN | apply Kd.R_drew)); exact HO_5.out))) (Kd.R_lt (by (with_reducible repeat (first | apply Kd.R_alloc | apply Kd.R_drewN | apply Kd.R_drew)); exact HO_9.out))) (below_size (by repeat (first | (with_reducible first | exact HB.out | apply below_alloc | apply pw_below_drewN | apply below_drew1) | exact HB.out)))); have n3_ := Aside0.mk (below_step (by repeat (first | (with_reducible first | exact HB.out | apply below_alloc | apply pw_below_drewN | apply below_drew1) | exact HB.out)) hb); clear HO_5; clear HO_9; clear HB; have HO_5 := n0_; have HO_9 := n1_; have HO231 := n2_; have HB := n3_; clear n0_ n1_ n2_ n3_; (try clear hb); (try clear hb2); (try clear hk); (try clear hi); (try clear ho0); obtain ⟨Ao56, co56, eo56⟩ := Kd.R_slice HO231.out; subst eo56) | ((with_reducible refine gate_callee (f := 6) rfl ?_); refine goesL_ (some 93) rfl rfl Try.func6 (by kernel_rfl) rfl #[.slice Ao56 t229.length co56, .int .i64 a1] rfl (by (try simp only [List.map_toArray, List.map_cons, List.map_nil]); first | done | rfl | (simp only [List.length_drop, List.length_take]; rfl)) ?_; (with_reducible refine (impl_BestLayout.calls kj28 _ _ t229 a1 t232 t233 t234 _ ?side1 ?side2 A51.out).mono ?_); (case side1 => repeat (first | exact (Kd.R_reads' HO231.out).2.2 | (with_reducible refine Kd.C_alloc ?_ _) | (with_reducible refine Kd.C_drewN ?_ _) | (with_reducible refine Kd.C_drew ?_))); (case side2 => exact (Kd.R_reads' HO231.out).2.1); rintro e w57 ⟨v235, rfl, ho0, hb⟩; refine ⟨_, rfl, ?_⟩; have n0_ := Aside0.mk (Kd.R_elder' (by (with_reducible repeat (first | apply Kd.R_alloc | apply Kd.R_drewN | apply Kd.R_drew)); exact HO_5.out) (Kd.R_base ho0) hb); have n1_ := Aside0.mk (Kd.R_elder' (by (with_reducible repeat (first | apply Kd.R_alloc | apply Kd.R_drewN | apply Kd.R_drew)); exact HO_9.out) (Kd.R_base ho0) hb); have n2_ := Aside0.mk (Kd.R_elder' (by (with_reducible repeat (first | apply Kd.R_alloc | apply Kd.R_drewN | apply Kd.R_drew)); exact HO231.out) (Kd.R_base ho0) hb); have n3_ := Aside0.mk (Kd.R_lower (Kd.R_new' (Kd.R_new' (Kd.R_new' ho0 (Kd.R_lt (by (with_reducible repeat (first | apply Kd.R_alloc | apply Kd.R_drewN | apply Kd.R_drew)); exact HO_5.out))) (Kd.R_lt (by (with_reducible repeat (first | apply Kd.R_alloc | apply Kd.R_drewN | apply Kd.R_drew)); exact HO_9.out))) (Kd.R_lt (by (with_reducible repeat (first | apply Kd.R_alloc | apply Kd.R_drewN | apply Kd.R_drew)); exact HO231.out))) (below_size (by repeat (first | (with_reducible first | exact HB.out | apply below_alloc | apply pw_below_drewN | apply below_drew1) | exact HB.out)))); have n4_ := Aside0.mk (below_step (by repeat (first | (with_reducible first | exact HB.out | apply below_alloc | apply pw_below_drewN | apply below_drew1) | exact HB.out)) hb); clear HO_5; clear HO_9; clear HO231; clear HB; have HO_5 := n0_; have HO_9 := n1_; have HO231 := n2_; have HO236 := n3_; have HB := n4_; clear n0_ n1_ n2_ n3_ n4_; (try clear hb); (try clear hb2); (try clear hk); (try clear hi); (try clear ho0)))
                      (try simp only [Act.put, List.setIfInBounds_toArray, List.set_cons_zero, List.set_cons_succ])
                      go_cut [110] (fun v110 wc => ∃ (kq : Nat) (x110_51 : Bool), v110 = .bool x110_51 ∧ Aside0 (laws_FnExactBestLayout.j2 kq t227 t226 x110_51 = some r) ∧ Aside0 (kq ≤ kj28) ∧ Aside0 (Kd.R (Kd.int .i64) 3 wc w.heap.size (fun _ => True) (.slice Ao53 t213.length co53) t227) ∧ Aside0 (Below w.heap.size w wc))
                      case first =>
                        have H := HC52.out
                        clear HC52
                        replace H := Option.bind_eq_some_iff.mp H
                        obtain ⟨t237, A580, H⟩ := H
                        replace H : (if t237 = true then (if t233 = t206 then (laws_FnExactBestLayout.j2 kj28 t227 t226 (t234 != t207)) else (laws_FnExactBestLayout.j2 kj28 t227 t226 true)) else (laws_FnExactBestLayout.j2 kj28 t227 t226 true)) = some r := H
                        have A58 := Aside0.mk A580
                        clear A580
                        by_cases c59 : t237 = true
                        · subst c59
                          have H1 : (if t233 = t206 then (laws_FnExactBestLayout.j2 kj28 t227 t226 (t234 != t207)) else (laws_FnExactBestLayout.j2 kj28 t227 t226 true)) = some r := by rw [if_pos rfl] at H; exact H
                          clear H
                          have H := H1
                          clear H1
                          by_cases c60 : t233 = t206
                          · rw [if_pos c60] at H
                            have c60b0 : (t233 == t206) = true := beq_iff_eq.mpr c60
                            have c60b1 : (t233 != t206) = false := bne_eq_false_iff_eq.mpr c60
                            clear c60
                            (first | rw [c60b0] | (simp only [i64_w, i32_w]; rw [c60b0]) | skip)
                            have H' := Aside0.mk H
                            clear H
                            obtain ⟨Ao61, co61, eo61⟩ := Kd.R_slice HO236.out
                            subst eo61
                            obtain ⟨Ao62, co62, eo62⟩ := Kd.R_slice HO_5.out
                            subst eo62
                            go_wp2_with (first | ((with_reducible refine gate_callee (f := 7) rfl ?_); refine goesL_ (some 99) rfl rfl Try.func7 (by kernel_rfl) rfl #[.slice Ao61 t232.length co61, .slice Ao62 t205.length co62] rfl (by (try simp only [List.map_toArray, List.map_cons, List.map_nil]); first | done | rfl | (simp only [List.length_drop, List.length_take]; rfl)) ?_; (with_reducible refine (laws_eqIntS.calls kj28 _ _ t232 _ _ t205 true _ ?side1 ?side2 ?side3 ?side4 A58.out).mono ?_); (case side1 => repeat (first | exact (Kd.R_reads' HO236.out).2.2 | (with_reducible refine Kd.C_alloc ?_ _) | (with_reducible refine Kd.C_drewN ?_ _) | (with_reducible refine Kd.C_drew ?_))); (case side2 => exact (Kd.R_reads' HO236.out).2.1); (case side3 => repeat (first | exact (Kd.R_reads' HO_5.out).2.2 | (with_reducible refine Kd.C_alloc ?_ _) | (with_reducible refine Kd.C_drewN ?_ _) | (with_reducible refine Kd.C_drew ?_))); (case side4 => exact (Kd.R_reads' HO_5.out).2.1); rintro e w' ⟨rfl, ⟨nd, rfl⟩⟩; refine ⟨_, rfl, ?_⟩))
                            go_meet
                            case rel => exact ⟨_, ((t234 != t207)), (by first | rfl | (simp; done) | (simp [*]; done)), H', ⟨by have := HJ7.out; have := HJ28.out; first | omega | exact Nat.le_refl _⟩, ⟨by (with_reducible repeat (first | apply Kd.R_alloc | apply Kd.R_drewN | apply Kd.R_drew)); exact Kd.R_mono HO_9.out (fun _ hk => trivial)⟩, ⟨by repeat (first | (with_reducible first | exact HB.out | apply below_alloc | apply pw_below_drewN | apply below_drew1) | exact HB.out)⟩⟩
                          · rw [if_neg c60] at H
                            have c60b0 : (t233 == t206) = false := beq_eq_false_iff_ne.mpr c60
                            have c60b1 : (t233 != t206) = true := bne_iff_ne.mpr c60
                            (first | rw [c60b0] | (simp only [i64_w, i32_w]; rw [c60b0]) | skip)
                            have H' := Aside0.mk H
                            clear H
                            obtain ⟨Ao63, co63, eo63⟩ := Kd.R_slice HO236.out
                            subst eo63
                            obtain ⟨Ao64, co64, eo64⟩ := Kd.R_slice HO_5.out
                            subst eo64
                            go_wp2_with (first | ((with_reducible refine gate_callee (f := 7) rfl ?_); refine goesL_ (some 99) rfl rfl Try.func7 (by kernel_rfl) rfl #[.slice Ao63 t232.length co63, .slice Ao64 t205.length co64] rfl (by (try simp only [List.map_toArray, List.map_cons, List.map_nil]); first | done | rfl | (simp only [List.length_drop, List.length_take]; rfl)) ?_; (with_reducible refine (laws_eqIntS.calls kj28 _ _ t232 _ _ t205 true _ ?side1 ?side2 ?side3 ?side4 A58.out).mono ?_); (case side1 => repeat (first | exact (Kd.R_reads' HO236.out).2.2 | (with_reducible refine Kd.C_alloc ?_ _) | (with_reducible refine Kd.C_drewN ?_ _) | (with_reducible refine Kd.C_drew ?_))); (case side2 => exact (Kd.R_reads' HO236.out).2.1); (case side3 => repeat (first | exact (Kd.R_reads' HO_5.out).2.2 | (with_reducible refine Kd.C_alloc ?_ _) | (with_reducible refine Kd.C_drewN ?_ _) | (with_reducible refine Kd.C_drew ?_))); (case side4 => exact (Kd.R_reads' HO_5.out).2.1); rintro e w' ⟨rfl, ⟨nd, rfl⟩⟩; refine ⟨_, rfl, ?_⟩))
                            go_meet
                            case rel => exact ⟨_, (true), (by first | rfl | (simp; done) | (simp [*]; done)), H', ⟨by have := HJ7.out; have := HJ28.out; first | omega | exact Nat.le_refl _⟩, ⟨by (with_reducible repeat (first | apply Kd.R_alloc | apply Kd.R_drewN | apply Kd.R_drew)); exact Kd.R_mono HO_9.out (fun _ hk => trivial)⟩, ⟨by repeat (first | (with_reducible first | exact HB.out | apply below_alloc | apply pw_below_drewN | apply below_drew1) | exact HB.out)⟩⟩
                        · replace c59 := Bool.eq_false_iff.mpr c59
                          subst c59
                          have H1 : (laws_FnExactBestLayout.j2 kj28 t227 t226 true) = some r := by rw [if_neg (show ¬ (false = true) by decide)] at H; exact H
                          clear H
                          have H := H1
                          clear H1
                          have H' := Aside0.mk H
                          clear H
                          obtain ⟨Ao65, co65, eo65⟩ := Kd.R_slice HO236.out
                          subst eo65
                          obtain ⟨Ao66, co66, eo66⟩ := Kd.R_slice HO_5.out
                          subst eo66
                          go_wp2_with (first | ((with_reducible refine gate_callee (f := 7) rfl ?_); refine goesL_ (some 99) rfl rfl Try.func7 (by kernel_rfl) rfl #[.slice Ao65 t232.length co65, .slice Ao66 t205.length co66] rfl (by (try simp only [List.map_toArray, List.map_cons, List.map_nil]); first | done | rfl | (simp only [List.length_drop, List.length_take]; rfl)) ?_; (with_reducible refine (laws_eqIntS.calls kj28 _ _ t232 _ _ t205 false _ ?side1 ?side2 ?side3 ?side4 A58.out).mono ?_); (case side1 => repeat (first | exact (Kd.R_reads' HO236.out).2.2 | (with_reducible refine Kd.C_alloc ?_ _) | (with_reducible refine Kd.C_drewN ?_ _) | (with_reducible refine Kd.C_drew ?_))); (case side2 => exact (Kd.R_reads' HO236.out).2.1); (case side3 => repeat (first | exact (Kd.R_reads' HO_5.out).2.2 | (with_reducible refine Kd.C_alloc ?_ _) | (with_reducible refine Kd.C_drewN ?_ _) | (with_reducible refine Kd.C_drew ?_))); (case side4 => exact (Kd.R_reads' HO_5.out).2.1); rintro e w' ⟨rfl, ⟨nd, rfl⟩⟩; refine ⟨_, rfl, ?_⟩))
                          go_meet
                          case rel => exact ⟨_, (true), (by first | rfl | (simp; done) | (simp [*]; done)), H', ⟨by have := HJ7.out; have := HJ28.out; first | omega | exact Nat.le_refl _⟩, ⟨by (with_reducible repeat (first | apply Kd.R_alloc | apply Kd.R_drewN | apply Kd.R_drew)); exact Kd.R_mono HO_9.out (fun _ hk => trivial)⟩, ⟨by repeat (first | (with_reducible first | exact HB.out | apply below_alloc | apply pw_below_drewN | apply below_drew1) | exact HB.out)⟩⟩
                      case rest =>
                        clear HC52
                        try clear c1
                        try clear c2
                        try clear p2
                        try clear c3
                        try clear c3b0
                        try clear c3b1
                        try clear c4
                        try clear c5
                        try clear c6
                        try clear c7
                        try clear c8
                        try clear c9
                        try clear c16
                        try clear c17
                        try clear c17b0
                        try clear c17b1
                        try clear c24
                        try clear c27
                        try clear c33
                        try clear c33b0
                        try clear c35
                        try clear c36
                        try clear c36b0
                        try clear c36b1
                        try clear c43
                        try clear c46
                        try clear c46b0
                        try clear c49
                        try clear c49b0
                        try clear c49b1
                        try clear c59
                        try clear c60
                        try clear c60b0
                        try clear c60b1
                        try clear p2
                        obtain ⟨kq, x110_51, rfl, HA, HJ51, HO_9, HB⟩ := hcut
                        have hl9_51 := (Kd.R_reads' HO_9.out).1
                        rw [hl9_51] at HO_9
                        (try simp only [hl9_51])
                        cases kq with
                        | zero => exact absurd HA.out (by simp [laws_FnExactBestLayout.j2])
                        | succ kj51 =>
                          have H := HA.out
                          clear HA
                          simp only [laws_FnExactBestLayout.j2] at H
                          by_cases c67 : x110_51 = true
                          · subst c67
                            have H1 : (some false) = some r := by rw [if_pos rfl] at H; exact H
                            clear H
                            have H := H1
                            clear H1
                            obtain rfl := Option.some.inj H
                            go_wp2
                            go_ret
                            exact ⟨by first | rfl | (simp [errW_none, errW_some] <;> rfl) | (simp [*, errW_none, errW_some] <;> rfl), by repeat (first | (with_reducible first | exact HB.out | apply below_alloc | apply pw_below_drewN | apply below_drew1) | exact HB.out)⟩
                          · replace c67 := Bool.eq_false_iff.mpr c67
                            subst c67
                            have H1 : ((laws_heldIntS.f kj51 t227 1).bind fun t238 => (if t238 < 0 then (some false) else (if t238 = t226 then (some true) else (some false)))) = some r := by rw [if_neg (show ¬ (false = true) by decide)] at H; exact H
                            clear H
                            have H := H1
                            clear H1
                            replace H := Option.bind_eq_some_iff.mp H
                            obtain ⟨t238, A680, H⟩ := H
                            replace H : (if t238 < 0 then (some false) else (if t238 = t226 then (some true) else (some false))) = some r := H
                            have A68 := Aside0.mk A680
                            clear A680
                            by_cases c69 : t238 < 0
                            · rw [if_pos c69] at H
                              have c69b0 : decide (t238 < 0) = true := decide_eq_true c69
                              clear c69
                              obtain rfl := Option.some.inj H
                              go_wp2_with (first | ((with_reducible refine gate_callee (f := 9) rfl ?_); refine goesL_ (some 113) rfl rfl Try.func9 (by kernel_rfl) rfl #[.slice Ao53 t227.length co53, .int .i64 1] rfl (by (try simp only [List.map_toArray, List.map_cons, List.map_nil]); first | done | rfl | (simp only [List.length_drop, List.length_take]; rfl)) ?_; (with_reducible refine (laws_heldIntS.calls kj51 _ _ t227 1 t238 _ ?side1 ?side2 A68.out).mono ?_); (case side1 => repeat (first | exact (Kd.R_reads' HO_9.out).2.2 | (with_reducible refine Kd.C_alloc ?_ _) | (with_reducible refine Kd.C_drewN ?_ _) | (with_reducible refine Kd.C_drew ?_))); (case side2 => exact (Kd.R_reads' HO_9.out).2.1); rintro e w' ⟨rfl, ⟨nd, rfl⟩⟩; refine ⟨_, rfl, ?_⟩))
                              go_ret
                              exact ⟨by first | rfl | (simp [errW_none, errW_some] <;> rfl) | (simp [*, errW_none, errW_some] <;> rfl), by repeat (first | (with_reducible first | exact HB.out | apply below_alloc | apply pw_below_drewN | apply below_drew1) | exact HB.out)⟩
                            · rw [if_neg c69] at H
                              have c69b0 : decide (t238 < 0) = false := decide_eq_false c69
                              clear c69
                              by_cases c70 : t238 = t226
                              · rw [if_pos c70] at H
                                have c70b0 : (t238 == t226) = true := beq_iff_eq.mpr c70
                                have c70b1 : (t238 != t226) = false := bne_eq_false_iff_eq.mpr c70
                                clear c70
                                obtain rfl := Option.some.inj H
                                go_wp2_with (first | ((with_reducible refine gate_callee (f := 9) rfl ?_); refine goesL_ (some 113) rfl rfl Try.func9 (by kernel_rfl) rfl #[.slice Ao53 t227.length co53, .int .i64 1] rfl (by (try simp only [List.map_toArray, List.map_cons, List.map_nil]); first | done | rfl | (simp only [List.length_drop, List.length_take]; rfl)) ?_; (with_reducible refine (laws_heldIntS.calls kj51 _ _ t227 1 t238 _ ?side1 ?side2 A68.out).mono ?_); (case side1 => repeat (first | exact (Kd.R_reads' HO_9.out).2.2 | (with_reducible refine Kd.C_alloc ?_ _) | (with_reducible refine Kd.C_drewN ?_ _) | (with_reducible refine Kd.C_drew ?_))); (case side2 => exact (Kd.R_reads' HO_9.out).2.1); rintro e w' ⟨rfl, ⟨nd, rfl⟩⟩; refine ⟨_, rfl, ?_⟩))
                                go_ret
                                exact ⟨by first | rfl | (simp [errW_none, errW_some] <;> rfl) | (simp [*, errW_none, errW_some] <;> rfl), by repeat (first | (with_reducible first | exact HB.out | apply below_alloc | apply pw_below_drewN | apply below_drew1) | exact HB.out)⟩
                              · rw [if_neg c70] at H
                                have c70b0 : (t238 == t226) = false := beq_eq_false_iff_ne.mpr c70
                                have c70b1 : (t238 != t226) = true := bne_iff_ne.mpr c70
                                obtain rfl := Option.some.inj H
                                go_wp2_with (first | ((with_reducible refine gate_callee (f := 9) rfl ?_); refine goesL_ (some 113) rfl rfl Try.func9 (by kernel_rfl) rfl #[.slice Ao53 t227.length co53, .int .i64 1] rfl (by (try simp only [List.map_toArray, List.map_cons, List.map_nil]); first | done | rfl | (simp only [List.length_drop, List.length_take]; rfl)) ?_; (with_reducible refine (laws_heldIntS.calls kj51 _ _ t227 1 t238 _ ?side1 ?side2 A68.out).mono ?_); (case side1 => repeat (first | exact (Kd.R_reads' HO_9.out).2.2 | (with_reducible refine Kd.C_alloc ?_ _) | (with_reducible refine Kd.C_drewN ?_ _) | (with_reducible refine Kd.C_drew ?_))); (case side2 => exact (Kd.R_reads' HO_9.out).2.1); rintro e w' ⟨rfl, ⟨nd, rfl⟩⟩; refine ⟨_, rfl, ?_⟩))
                                go_ret
                                exact ⟨by first | rfl | (simp [errW_none, errW_some] <;> rfl) | (simp [*, errW_none, errW_some] <;> rfl), by repeat (first | (with_reducible first | exact HB.out | apply below_alloc | apply pw_below_drewN | apply below_drew1) | exact HB.out)⟩
                    · rw [if_neg c49] at H
                      have c49b0 : (t228 == t226) = false := beq_eq_false_iff_ne.mpr c49
                      have c49b1 : (t228 != t226) = true := bne_iff_ne.mpr c49
                      obtain rfl := Option.some.inj H
                      obtain ⟨Ao71, co71, eo71⟩ := Kd.R_slice HO_9.out
                      subst eo71
                      go_wp2_with (first | ((with_reducible refine gate_callee (f := 8) rfl ?_); refine goesL_ (some 80) rfl rfl Try.func8 (by kernel_rfl) rfl #[.slice Ao71 t213.length co71, .int .i64 1] rfl (by (try simp only [List.map_toArray, List.map_cons, List.map_nil]); first | done | rfl | (simp only [List.length_drop, List.length_take]; rfl)) ?_; (with_reducible refine (laws_markIntS.calls kj28 (fun k_ => some k_ = (.slice Ao71 t213.length co71 : Value).ownBlock) (.slice Ao71 t213.length co71) t213 1 t226 t227 w _ ?side1 ?side2 A44.out).mono ?_); (case side1 => repeat (first | (with_reducible first | exact HB.out | apply below_alloc | apply pw_below_drewN | apply below_drew1) | exact HB.out)); (case side2 => exact Kd.R_tight rfl HO_9.out); rintro e w72 ⟨rfl, hy0, hb, hkp⟩; refine ⟨_, rfl, ?_⟩; have n0_ := Aside0.mk (Kd.R_mono (ok' := fun k_ => some k_ ≠ (.slice Ao71 t213.length co71 : Value).ownBlock) (Kd.R_keptB (HO_5.out) hkp (fun k_ hk_ hs_ => (hk_) hs_)) (fun k_ hk_ => hk_.1)); have n1_ := Aside0.mk (Kd.R_reok rfl hy0 (fun k_ e_ => HO_9.out.1 k_ e_)); have n2_ := Aside0.mk (hb); clear HO_5; clear HO_9; clear HB; have HO_5 := n0_; have HO_9 := n1_; have HB := n2_; clear n0_ n1_ n2_; (try clear hb); (try clear hkp); (try clear hy0)) | ((with_reducible refine gate_callee (f := 9) rfl ?_); refine goesL_ (some 83) rfl rfl Try.func9 (by kernel_rfl) rfl #[.slice Ao71 t227.length co71, .int .i64 1] rfl (by (try simp only [List.map_toArray, List.map_cons, List.map_nil]); first | done | (rw [show t227.length = t213.length from (Kd.R_reads' HO_9.out).1.symm] <;> rfl) | rfl | (simp only [List.length_drop, List.length_take]; rfl)) ?_; (with_reducible refine (laws_heldIntS.calls kj28 _ _ t227 1 t228 _ ?side1 ?side2 A45.out).mono ?_); (case side1 => repeat (first | exact (Kd.R_reads' HO_9.out).2.2 | (with_reducible refine Kd.C_alloc ?_ _) | (with_reducible refine Kd.C_drewN ?_ _) | (with_reducible refine Kd.C_drew ?_))); (case side2 => rw [show t227.length = t213.length from (Kd.R_reads' HO_9.out).1.symm]; exact (Kd.R_reads' HO_9.out).2.1); rintro e w' ⟨rfl, ⟨nd, rfl⟩⟩; refine ⟨_, rfl, ?_⟩))
                      go_ret
                      exact ⟨by first | rfl | (simp [errW_none, errW_some] <;> rfl) | (simp [*, errW_none, errW_some] <;> rfl), by repeat (first | (with_reducible first | exact HB.out | apply below_alloc | apply pw_below_drewN | apply below_drew1) | exact HB.out)⟩
          · replace c27 := Bool.eq_false_iff.mpr c27
            subst c27
            have H1 : (some false) = some r := by rw [if_neg (show ¬ (false = true) by decide)] at H; exact H
            clear H
            have H := H1
            clear H1
            obtain rfl := Option.some.inj H
            go_wp2_with (first | ((with_reducible refine gate_callee (f := 5) rfl ?_); refine goesL_ (some 54) rfl rfl Try.func5 (by kernel_rfl) rfl #[.slice A0 l0.length c0] rfl (by (try simp only [List.map_toArray, List.map_cons, List.map_nil]); first | done | rfl | (simp only [List.length_drop, List.length_take]; rfl)) ?_; (with_reducible refine (laws_toIntS.calls kj7 _ _ l0 t219 _ ?side1 ?side2 A25.out).mono ?_); (case side1 => repeat (first | exact (Kd.C_below HR0.out HB.out) | (with_reducible refine Kd.C_alloc ?_ _) | (with_reducible refine Kd.C_drewN ?_ _) | (with_reducible refine Kd.C_drew ?_))); (case side2 => exact HC0.out); rintro e w73 ⟨v220, rfl, ho0, hb⟩; refine ⟨_, rfl, ?_⟩; have n0_ := Aside0.mk (Kd.R_elder' (by (with_reducible repeat (first | apply Kd.R_alloc | apply Kd.R_drewN | apply Kd.R_drew)); exact HO_5.out) (Kd.R_base ho0) hb); have n1_ := Aside0.mk (Kd.R_elder' (by (with_reducible repeat (first | apply Kd.R_alloc | apply Kd.R_drewN | apply Kd.R_drew)); exact HO_8.out) (Kd.R_base ho0) hb); have n2_ := Aside0.mk (Kd.R_elder' (by (with_reducible repeat (first | apply Kd.R_alloc | apply Kd.R_drewN | apply Kd.R_drew)); exact HO_9.out) (Kd.R_base ho0) hb); have n3_ := Aside0.mk (Kd.R_lower (Kd.R_new' (Kd.R_new' (Kd.R_new' ho0 (Kd.R_lt (by (with_reducible repeat (first | apply Kd.R_alloc | apply Kd.R_drewN | apply Kd.R_drew)); exact HO_5.out))) (Kd.R_lt (by (with_reducible repeat (first | apply Kd.R_alloc | apply Kd.R_drewN | apply Kd.R_drew)); exact HO_8.out))) (Kd.R_lt (by (with_reducible repeat (first | apply Kd.R_alloc | apply Kd.R_drewN | apply Kd.R_drew)); exact HO_9.out))) (below_size (by repeat (first | (with_reducible first | exact HB.out | apply below_alloc | apply pw_below_drewN | apply below_drew1) | exact HB.out)))); have n4_ := Aside0.mk (below_step (by repeat (first | (with_reducible first | exact HB.out | apply below_alloc | apply pw_below_drewN | apply below_drew1) | exact HB.out)) hb); clear HO_5; clear HO_8; clear HO_9; clear HB; have HO_5 := n0_; have HO_8 := n1_; have HO_9 := n2_; have HO221 := n3_; have HB := n4_; clear n0_ n1_ n2_ n3_ n4_; (try clear hb); (try clear hb2); (try clear hk); (try clear hi); (try clear ho0); obtain ⟨Ao74, co74, eo74⟩ := Kd.R_slice HO221.out; subst eo74) | ((with_reducible refine gate_callee (f := 7) rfl ?_); refine goesL_ (some 55) rfl rfl Try.func7 (by kernel_rfl) rfl #[.slice Ao13 t210.length co13, .slice Ao74 t219.length co74] rfl (by (try simp only [List.map_toArray, List.map_cons, List.map_nil]); first | done | rfl | (simp only [List.length_drop, List.length_take]; rfl)) ?_; (with_reducible refine (laws_eqIntS.calls kj7 _ _ t210 _ _ t219 false _ ?side1 ?side2 ?side3 ?side4 A26.out).mono ?_); (case side1 => repeat (first | exact (Kd.R_reads' HO_8.out).2.2 | (with_reducible refine Kd.C_alloc ?_ _) | (with_reducible refine Kd.C_drewN ?_ _) | (with_reducible refine Kd.C_drew ?_))); (case side2 => exact (Kd.R_reads' HO_8.out).2.1); (case side3 => repeat (first | exact (Kd.R_reads' HO221.out).2.2 | (with_reducible refine Kd.C_alloc ?_ _) | (with_reducible refine Kd.C_drewN ?_ _) | (with_reducible refine Kd.C_drew ?_))); (case side4 => exact (Kd.R_reads' HO221.out).2.1); rintro e w' ⟨rfl, ⟨nd, rfl⟩⟩; refine ⟨_, rfl, ?_⟩))
            go_ret
            exact ⟨by first | rfl | (simp [errW_none, errW_some] <;> rfl) | (simp [*, errW_none, errW_some] <;> rfl), by repeat (first | (with_reducible first | exact HB.out | apply below_alloc | apply pw_below_drewN | apply below_drew1) | exact HB.out)⟩

/-- THE ONE PURE STATEMENT of laws_FnExactBestLayout: yours. -/
def laws_FnExactBestLayout.Pure : Prop := ∀ (l0 : List Int) (a1 : Int), l0.length ≤ maxLen → l0.length * 8 ≤ 140737488351232 → (∀ x ∈ l0, (Lit.int .i64 x).wf = true) → (Lit.int .i64 a1).wf = true → ∃ k, laws_FnExactBestLayout.f k l0 a1 = some true
theorem laws_FnExactBestLayout.walk (P : laws_FnExactBestLayout.Pure) (a0 : Option Addr) (len0 cap0 : Nat) (z0 : List Int) (a1 : Int) (w : World) (w0 : (a0 = none ∧ len0 = 0 ∧ cap0 = 0 ∧ z0 = []) ∨ ∃ x, a0 = some x ∧ len0 ≤ cap0 ∧ cap0 ≤ maxLen ∧ z0.length = cap0 ∧ (∀ i, i < z0.length → w.cell? (x.add i) = some (.int .i64 (z0.getD i 0))) ∧ ∀ n ∈ z0, (Lit.int .i64 n).wf = true) (y0 : len0 * 8 ≤ 140737488351232) (w1 : (Lit.int .i64 a1).wf = true) :
    Calls Try.prog 3 #[.slice a0 len0 cap0, .int .i64 a1] w fun e w' => e = .returned (.bool true) ∧ Below w.heap.size w w' := by
  obtain ⟨l0, rfl, hr0, hm0, hw0, hc0⟩ := ReadsInt.ofRowC w0
  obtain ⟨k, h⟩ := P l0 a1 hm0 y0 hw0 w1
  refine (laws_FnExactBestLayout.calls k _ _ l0 a1 true w (Kd.C_of_reads (d := (0 : Int)) (h1 := fun _ => rfl) hr0) hc0 h).mono ?_
  rintro e w' ⟨rfl, hd⟩
  exact ⟨rfl, hd⟩

end Go.Proofs.Ytlmnhokaagkocaa.P

namespace Go.Proofs.Ytlmnhokaagkocaa.Pu
open Go.RowKit Go.Proofs.YtlmnhokaagkocaaW.PrintWords Go.Proofs.YtlmnhokaagkocaaW.PrintLast Go.Proofs.YtlmnhokaagkocaaW.PrintMore

/-! ### rounds -/
theorem ev_succ {α : Type} {g : Nat → Option α} {r : α} (h : Ev (fun k => g (k + 1)) r) : Ev g r := by
  obtain ⟨K, h⟩ := h
  refine ⟨K + 1, fun n hn => ?_⟩
  obtain ⟨m, rfl⟩ : ∃ m, n = m + 1 := ⟨n - 1, by omega⟩
  exact h m (by omega)
theorem ev_from {α : Type} {g : Nat → Option α} {r : α} (K : Nat) (h : ∀ k, K ≤ k → g (k + 1) = some r) : Ev g r := by
  refine ⟨K + 1, fun n hn => ?_⟩
  obtain ⟨m, rfl⟩ : ∃ m, n = m + 1 := ⟨n - 1, by omega⟩
  exact h m (by omega)
theorem ev_const {α : Type} {x : Option α} {r : α} (h : x = some r) : Ev (fun _ => x) r := ⟨0, fun _ _ => h⟩
/-- As Option.bind_some; its proof is no 'rfl', so the kernel is not asked to compare two binds. -/
theorem bsome {α β : Type} (a : α) (f : α → Option β) : (some a).bind f = f a := Option.bind_some a f
theorem ev_at {α : Type} {g : Nat → Option α} {r : α} (h : Ev g r) : ∃ k, g k = some r := h.rounds
theorem ev_both {α β : Type} {g : Nat → Option α} {f : Nat → Option β} {r : α} {q : β} (h : Ev g r) (h' : Ev f q) : ∃ K, ∀ k, K ≤ k → g k = some r ∧ f k = some q := by
  obtain ⟨K, h⟩ := h
  obtain ⟨K', h'⟩ := h'
  exact ⟨K + K', fun k hk => ⟨h k (by omega), h' k (by omega)⟩⟩
theorem ev_eq {α : Type} {g : Nat → Option α} {r r' : α} (h : Ev g r) (e : r = r') : Ev g r' := e ▸ h
theorem ev_unique {α : Type} {g : Nat → Option α} {r r' : α} (h : Ev g r) (h' : Ev g r') : r = r' := by
  obtain ⟨K, h⟩ := ev_both h h'
  have := h K (Nat.le_refl _)
  exact Option.some.inj (this.1.symm.trans this.2)

/-! ### numbers -/
theorem wr {x : Int} (h0 : -9223372036854775808 ≤ x) (h1 : x ≤ 9223372036854775807) : wrap64 x = x := by unfold wrap64; omega
theorem wr32 {x : Int} (h0 : -2147483648 ≤ x) (h1 : x ≤ 2147483647) : wrap32 x = x := by unfold wrap32; omega
theorem wf64 {x : Int} (h : (Lit.int .i64 x).wf = true) : -9223372036854775808 ≤ x ∧ x ≤ 9223372036854775807 := by
  simp only [Lit.wf] at h
  rw [Bool.and_eq_true] at h
  have h1 := of_decide_eq_true h.1
  have h2 := of_decide_eq_true h.2
  exact ⟨h1, h2⟩

/-! ### bytes -/
theorem bytes_ext {s t : ByteArray} (h : bytesOf s = bytesOf t) : s = t := by
  have h1 : s.data.toList = t.data.toList := by
    unfold bytesOf at h
    refine List.ext_getElem (by simpa using congrArg List.length h) fun i h1 h2 => ?_
    have := congrArg (fun l => l[i]?) h
    simp only [List.getElem?_map, List.getElem?_eq_getElem h1, List.getElem?_eq_getElem h2, Option.map_some, Option.some.injEq] at this
    exact UInt8.toNat_inj.1 (by omega)
  cases s; cases t
  simp only [ByteArray.mk.injEq]
  exact Array.toList_inj.1 h1
theorem size_bytes (s : ByteArray) : s.size = (bytesOf s).length := (bytesOf_length s).symm
theorem bt_bytes (s : ByteArray) (i : Int) : bt s i = (bytesOf s).getD i.toNat 0 := by rw [← rd_bytesOf]; rfl
theorem bytes_range (s : ByteArray) : ∀ c ∈ bytesOf s, 0 ≤ c ∧ c ≤ 255 := by
  intro c hc
  unfold bytesOf at hc
  obtain ⟨b, _, rfl⟩ := List.mem_map.1 hc
  have := b.toNat_lt
  omega
theorem bytes_nums {L : List Int} (h : ∀ c ∈ L, 0 ≤ c ∧ c ≤ 255) : bytesOf (strOfNums L) = L := by
  unfold bytesOf strOfNums
  simp only [List.map_map]
  conv => rhs; rw [← List.map_id L]
  refine List.map_congr_left fun c hc => ?_
  have := h c hc
  show ((UInt8.ofNat c.toNat).toNat : Int) = c
  rw [UInt8.toNat_ofNat']
  omega
theorem nums_bytes (s : ByteArray) : strOfNums (bytesOf s) = s := bytes_ext (bytes_nums (bytes_range s))
theorem size_nums (L : List Int) : (strOfNums L).size = L.length := by
  unfold strOfNums
  simp [ByteArray.size]
theorem nums_inj {L M : List Int} (h : ∀ c ∈ L, 0 ≤ c ∧ c ≤ 255) (h' : ∀ c ∈ M, 0 ≤ c ∧ c ≤ 255) (e : strOfNums L = strOfNums M) : L = M := by
  rw [← bytes_nums h, ← bytes_nums h', e]
theorem bytes_append (s t : ByteArray) : bytesOf (s ++ t) = bytesOf s ++ bytesOf t := by
  unfold bytesOf
  rw [ByteArray.data_append, Array.toList_append, List.map_append]
theorem bytes_extract (s : ByteArray) (a b : Nat) : bytesOf (s.extract a b) = ((bytesOf s).take b).drop a := by
  unfold bytesOf
  rw [ByteArray.data_extract, Array.toList_extract, List.extract_eq_take_drop, List.map_take, List.map_drop]
  rw [List.drop_take]
theorem numsApp (L M : List Int) : strOfNums (L ++ M) = strOfNums L ++ strOfNums M := by
  unfold strOfNums
  simp only [List.map_append]
  cases h : (ByteArray.mk (L.map fun x => x.toNat.toUInt8).toArray ++ ByteArray.mk (M.map fun x => x.toNat.toUInt8).toArray) with
  | mk d =>
    have := congrArg ByteArray.data h
    rw [ByteArray.data_append] at this
    simp only at this
    rw [← this]
    congr 1
    simp
theorem toList_bytes {s t : ByteArray} : s.toList = t.toList ↔ s = t := by
  rw [Lib.toList_data, Lib.toList_data]
  refine ⟨fun h => bytes_ext (by unfold bytesOf; rw [h]), fun h => by rw [h]⟩
theorem encode_small {c : Int} (h0 : 0 ≤ c) (h1 : c < 128) : Utf8.encode c = strOfNums [c] := by
  unfold Utf8.encode strOfNums
  have hv : Utf8.valid c = true := by unfold Utf8.valid; simp; omega
  have hc : c.toNat < 128 := by omega
  simp only [hv, if_true, hc]
  simp
theorem bytes_all {p : UInt8 → Bool} {q : Int → Bool} (h : ∀ b : UInt8, p b = q b.toNat) (s : ByteArray) : s.data.toList.all p = (bytesOf s).all q := by
  unfold bytesOf
  rw [List.all_map]
  congr 1
  funext b
  exact h b

theorem drop_bytes (s : ByteArray) (i : Nat) (h : i < s.size) : (bytesOf s).drop i = bt s i :: (bytesOf s).drop (i + 1) := by
  have hl : i < (bytesOf s).length := by rw [bytesOf_length]; exact h
  rw [List.drop_eq_getElem_cons hl, bt_bytes, Int.toNat_natCast, List.getD_eq_getElem?_getD, List.getElem?_eq_getElem hl]
  rfl
theorem drop_end (s : ByteArray) : (bytesOf s).drop s.size = [] := List.drop_eq_nil_of_le (by rw [bytesOf_length]; exact Nat.le_refl _)

theorem bt_mem (s : ByteArray) (i : Nat) (h : i < s.size) : bt s i ∈ bytesOf s := by
  have hd := drop_bytes s i h
  have : bt s i ∈ (bytesOf s).drop i := by rw [hd]; exact List.mem_cons_self
  exact List.mem_of_mem_drop this

/-! ### Trim against a list of signs -/
theorem dropWhile_nil_all {α : Type} (p : α → Bool) (l : List α) : l.dropWhile p = [] ↔ l.all p = true := by
  induction l with
  | nil => simp
  | cons a l ih =>
    rw [List.dropWhile_cons, List.all_cons]
    cases h : p a <;> simp [ih]
theorem trimS_nil (l cs : List UInt8) : Lib.trimS l cs = [] ↔ l.all (fun b => cs.contains b) = true := by
  unfold Lib.trimS Lib.trimLeftS Lib.trimRightS
  rw [dropWhile_nil_all]
  constructor
  · intro h
    have hr : ∀ (m : List UInt8), ((m.dropWhile (cs.contains ·)).reverse).all (fun b => cs.contains b) = true → m.all (fun b => cs.contains b) = true := by
      intro m
      induction m with
      | nil => simp
      | cons a m ih =>
        rw [List.dropWhile_cons]
        cases ha : cs.contains a with
        | true => intro h; rw [if_pos rfl] at h; simp only [List.all_cons, ha, Bool.true_and]; exact ih h
        | false => intro h; simp at h; simpa using And.intro h.2 h.1
    have := hr l.reverse h
    simpa using this
  · intro h
    have : l.reverse.dropWhile (cs.contains ·) = [] := (dropWhile_nil_all _ _).2 (by simpa using h)
    rw [this]
    rfl

end Go.Proofs.Ytlmnhokaagkocaa.Pu

namespace Go.Proofs.Ytlmnhokaagkocaa.Pu
open Go.RowKit Go.Proofs.Ytlmnhokaagkocaa.P Go.Proofs.YtlmnhokaagkocaaW.PrintWords Go.Proofs.YtlmnhokaagkocaaW.PrintLast Go.Proofs.YtlmnhokaagkocaaW.PrintMore

/-! ### tables -/
def tabL {α : Type} (N : Nat) (f : Nat → α) : List α := (List.range N).map f
theorem tabL_length {α : Type} (N : Nat) (f : Nat → α) : (tabL N f).length = N := by unfold tabL; rw [List.length_map, List.length_range]
theorem tabL_get {α : Type} {N i : Nat} (f : Nat → α) (h : i < N) : (tabL N f)[i]? = some (f i) := by
  unfold tabL
  rw [List.getElem?_map, List.getElem?_range h]
  rfl
theorem tabL_ext {α : Type} {N : Nat} {f g : Nat → α} (h : ∀ i, i < N → f i = g i) : tabL N f = tabL N g := by
  unfold tabL
  exact List.map_congr_left fun i hi => h i (List.mem_range.1 hi)
theorem tabL_set {α : Type} (N i : Nat) (f : Nat → α) (x : α) : (tabL N f).set i x = tabL N (fun j => if j = i then x else f j) := by
  refine List.ext_getElem? fun j => ?_
  by_cases hj : j < N
  · rw [tabL_get _ hj, List.getElem?_set]
    by_cases h : i = j
    · subst h
      rw [if_pos rfl, if_pos (by rw [tabL_length]; exact hj), if_pos rfl]
    · rw [if_neg h, tabL_get _ hj, if_neg (fun e => h e.symm)]
  · rw [List.getElem?_eq_none (by rw [List.length_set, tabL_length]; omega), List.getElem?_eq_none (by rw [tabL_length]; omega)]
theorem rd_tab {N i : Nat} (f : Nat → Int) (h : i < N) : rd (tabL N f) (i : Int) = f i := by
  unfold rd
  rw [Int.toNat_natCast, List.getD_eq_getElem?_getD, tabL_get f h]
  rfl
theorem rdl_tab {N i : Nat} (f : Nat → List Int) (h : i < N) : rd_L1 (tabL N f) (i : Int) = f i := by
  unfold rd_L1
  rw [Int.toNat_natCast, List.getD_eq_getElem?_getD, tabL_get f h]
  rfl
theorem rep_tab {α : Type} (N : Nat) (a : α) : List.replicate N a = tabL N (fun _ => a) := by
  refine List.ext_getElem? fun j => ?_
  by_cases hj : j < N
  · rw [tabL_get _ hj, List.getElem?_replicate, if_pos hj]
  · rw [List.getElem?_eq_none (by rw [List.length_replicate]; omega), List.getElem?_eq_none (by rw [tabL_length]; omega)]
theorem tabL_succ {α : Type} (N : Nat) (f : Nat → α) : tabL (N + 1) f = tabL N f ++ [f N] := by
  unfold tabL
  rw [List.range_succ, List.map_append]
  rfl
def upd {α : Type} (f : Nat → α) (a : Nat) (v : α) : Nat → α := fun t => if t = a then v else f t
theorem upd_same {α : Type} (f : Nat → α) (a : Nat) (v : α) : upd f a v a = v := by unfold upd; rw [if_pos rfl]
theorem upd_other {α : Type} (f : Nat → α) {a t : Nat} (v : α) (h : t ≠ a) : upd f a v t = f t := by unfold upd; rw [if_neg h]
theorem upd_self {α : Type} (f : Nat → α) (a : Nat) {v : α} (h : f a = v) : upd f a v = f := by
  funext t
  unfold upd
  split
  · rename_i e; rw [e, h]
  · rfl
theorem upd_upd {α : Type} (f : Nat → α) (a : Nat) (v v' : α) : upd (upd f a v) a v' = upd f a v' := by
  funext t
  unfold upd
  split <;> rfl
theorem set_upd {α : Type} (N i : Nat) (f : Nat → α) (x : α) : (tabL N f).set i x = tabL N (upd f i x) := tabL_set N i f x
/-! ### costs -/
def okC (c : List Int) : Prop := c.length = 26 ∧ ∀ j : Nat, j < 26 → 0 ≤ rd c (j : Int) ∧ rd c (j : Int) ≤ 1000
def costN (c : List Int) (i : Nat) : Nat → Int
  | 0 => 0
  | m + 1 => costN c i m + rd c ((i + m : Nat) : Int) * ((m : Int) + 1)
theorem term_range {c : List Int} (h : okC c) {j m : Nat} (hj : j < 26) (hm : m < 26) : 0 ≤ rd c (j : Int) * ((m : Int) + 1) ∧ rd c (j : Int) * ((m : Int) + 1) ≤ 26000 := by
  obtain ⟨h0, h1⟩ := h.2 j hj
  refine ⟨Int.mul_nonneg h0 (by omega), ?_⟩
  have h2 : rd c (j : Int) * ((m : Int) + 1) ≤ 1000 * ((m : Int) + 1) := Int.mul_le_mul_of_nonneg_right h1 (by omega)
  omega
theorem cost_range {c : List Int} (h : okC c) (i : Nat) : ∀ m, i + m ≤ 26 → 0 ≤ costN c i m ∧ costN c i m ≤ 26000 * m
  | 0, _ => by simp [costN]
  | m + 1, hm => by
    obtain ⟨h0, h1⟩ := cost_range h i m (by omega)
    obtain ⟨h2, h3⟩ := term_range h (j := i + m) (m := m) (by omega) (by omega)
    rw [costN]
    omega
theorem groupCost_l0 {c : List Int} (h : okC c) (i m : Nat) (him : i + m ≤ 26) : ∀ (d j : Nat), j + d = m → Ev (fun k => impl_groupCost.l0 k c i (costN c i j) m j) (costN c i m)
  | 0, j, hj => by
    obtain rfl : j = m := by omega
    refine ev_from 0 fun k _ => ?_
    simp only [impl_groupCost.l0]
    rw [if_neg (by omega)]
  | d + 1, j, hj => by
    obtain ⟨K, ih⟩ := groupCost_l0 h i m him d (j + 1) (by omega)
    obtain ⟨h0, h1⟩ := cost_range h i j (by omega)
    obtain ⟨h2, h3⟩ := term_range h (j := i + j) (m := j) (by omega) (by omega)
    have hl := h.1
    refine ev_from K fun k hk => ?_
    have e := ih k hk
    rw [costN, show ((j + 1 : Nat) : Int) = (j : Int) + 1 from rfl] at e
    dsimp only at e
    simp only [impl_groupCost.l0]
    rw [if_pos (by omega), wr (x := (i : Int) + (j : Int)) (by omega) (by omega), if_pos (by omega), if_pos (by omega), wr (x := (j : Int) + 1) (by omega) (by omega), show (i : Int) + (j : Int) = ((i + j : Nat) : Int) by omega, wr (x := rd c ((i + j : Nat) : Int) * ((j : Int) + 1)) (by omega) (by omega), wr (by omega) (by omega), e]
theorem groupCost_ev {c : List Int} (h : okC c) (i m : Nat) (him : i + m ≤ 26) : Ev (fun k => impl_groupCost.f k c i m) (costN c i m) := by
  obtain ⟨K, e⟩ := groupCost_l0 h i m him m 0 (by omega)
  exact ⟨K, fun k hk => by have e := e k hk; dsimp only at e; unfold impl_groupCost.f; exact e⟩
/-! ### the least presses -/
def pickI (v x rest : Int) : Int := if 0 ≤ rest then (if v < 0 then x else if x < v then x else v) else v
def accI (c : List Int) (R : Nat → Int) (i : Nat) : Nat → Int
  | 0 => -1
  | m + 1 => pickI (accI c R i m) (costN c i (m + 1) + R (i + (m + 1))) (R (i + (m + 1)))
def lst (c : List Int) : Nat → Nat → Int
  | 0, i => if i = 26 then 0 else -1
  | k + 1, i => accI c (lst c k) i (26 - i)
theorem acc_range {c : List Int} (h : okC c) {R : Nat → Int} {B : Int} (hB : 0 ≤ B) (hR : ∀ j, j ≤ 26 → -1 ≤ R j ∧ R j ≤ B) (i : Nat) : ∀ m, i + m ≤ 26 → -1 ≤ accI c R i m ∧ accI c R i m ≤ 676000 + B
  | 0, _ => by simp only [accI]; omega
  | m + 1, hm => by
    have ih := acc_range h hB hR i m (by omega)
    have hr := hR (i + (m + 1)) (by omega)
    have hc := cost_range h i (m + 1) (by omega)
    rw [accI]
    unfold pickI
    split
    · split
      · omega
      · split <;> omega
    · omega
theorem lst_range {c : List Int} (h : okC c) : ∀ k i, i ≤ 26 → -1 ≤ lst c k i ∧ lst c k i ≤ 676000 * k
  | 0, i, _ => by simp only [lst]; split <;> omega
  | k + 1, i, hi => by
    have := acc_range h (R := lst c k) (B := 676000 * k) (by omega) (fun j hj => lst_range h k j hj) i (26 - i) (by omega)
    rw [lst]
    omega
theorem acc_has {c : List Int} (h : okC c) {R : Nat → Int} (i : Nat) : ∀ M, i + M ≤ 26 → ∀ m, 1 ≤ m → m ≤ M → 0 ≤ R (i + m) → 0 ≤ accI c R i M
  | 0, _, m, h1, h2, _ => by omega
  | M + 1, hM, m, h1, h2, h3 => by
    have hc := cost_range h i (M + 1) (by omega)
    rw [accI]
    unfold pickI
    by_cases he : m = M + 1
    · subst he
      rw [if_pos h3]
      split
      · omega
      · split <;> omega
    · have ih := acc_has h i M (by omega) m h1 (by omega) h3
      split
      · split
        · omega
        · split <;> omega
      · exact ih
theorem acc_which {c : List Int} {R : Nat → Int} (i : Nat) : ∀ M, 0 ≤ accI c R i M → ∃ m, 1 ≤ m ∧ m ≤ M ∧ 0 ≤ R (i + m) ∧ costN c i m + R (i + m) = accI c R i M
  | 0, h => by simp only [accI] at h; omega
  | M + 1, h => by
    rw [accI] at h ⊢
    unfold pickI at h ⊢
    by_cases hr : 0 ≤ R (i + (M + 1))
    · rw [if_pos hr] at h ⊢
      by_cases hv : accI c R i M < 0
      · rw [if_pos hv] at h ⊢
        exact ⟨M + 1, by omega, Nat.le_refl _, hr, rfl⟩
      · rw [if_neg hv] at h ⊢
        by_cases hx : costN c i (M + 1) + R (i + (M + 1)) < accI c R i M
        · rw [if_pos hx] at h ⊢
          exact ⟨M + 1, by omega, Nat.le_refl _, hr, rfl⟩
        · rw [if_neg hx] at h ⊢
          obtain ⟨m, h1, h2, h3, h4⟩ := acc_which i M h
          exact ⟨m, h1, by omega, h3, h4⟩
    · rw [if_neg hr] at h ⊢
      obtain ⟨m, h1, h2, h3, h4⟩ := acc_which i M h
      exact ⟨m, h1, by omega, h3, h4⟩
theorem lst_ok {c : List Int} (h : okC c) : ∀ k i, k + 1 + i ≤ 26 → 0 ≤ lst c (k + 1) i
  | 0, i, hi => by
    rw [lst]
    exact acc_has h i (26 - i) (by omega) (26 - i) (by omega) (Nat.le_refl _) (by rw [show i + (26 - i) = 26 by omega]; simp [lst])
  | k + 1, i, hi => by
    rw [lst]
    exact acc_has h i (26 - i) (by omega) 1 (Nat.le_refl _) (by omega) (lst_ok h k (i + 1) (by omega))
/-! ### the program's table -/
def rowT (c : List Int) (n : Nat) (j : Nat) : List Int := tabL (n + 1) (fun t => lst c t j)
def stT (c : List Int) (n i : Nat) (f : Nat → Int) : List (List Int) := tabL 27 (fun j => if j = i then tabL (n + 1) f else if i < j then rowT c n j else [])
def allT (c : List Int) (n i : Nat) : List (List Int) := tabL 27 (fun j => if i ≤ j then rowT c n j else [])
theorem stT_self {c : List Int} {n i : Nat} (f : Nat → Int) (hi : i ≤ 26) : rd_L1 (stT c n i f) (i : Int) = tabL (n + 1) f := by
  unfold stT
  rw [rdl_tab _ (by omega), if_pos rfl]
theorem stT_above {c : List Int} {n i j : Nat} (f : Nat → Int) (hj : i < j) (hj2 : j ≤ 26) : rd_L1 (stT c n i f) (j : Int) = rowT c n j := by
  unfold stT
  rw [rdl_tab _ (by omega), if_neg (by omega), if_pos hj]
theorem stT_set {c : List Int} {n i : Nat} (f : Nat → Int) (k : Nat) (v : Int) : (stT c n i f).set i ((tabL (n + 1) f).set k v) = stT c n i (upd f k v) := by
  unfold stT
  rw [tabL_set, set_upd]
  refine tabL_ext fun j _ => ?_
  split <;> rfl
theorem stT_len (c : List Int) (n i : Nat) (f : Nat → Int) : (stT c n i f).length = 27 := tabL_length _ _
theorem least_l2 {c : List Int} (h : okC c) {n k' i : Nat} (hk : k' + 1 ≤ n) (hn : n ≤ 8) (hi : i ≤ 26) (r : List (List Int)) : ∀ (d m : Nat) (f : Nat → Int), i + m + d = 26 → f (k' + 1) = accI c (lst c k') i m →
    Ev (fun kk => impl_leastFrom.l1 kk c n (stT c n i (upd f (k' + 1) (accI c (lst c k') i (m + d)))) i ((k' + 1 + 1 : Nat) : Int)) r → Ev (fun kk => impl_leastFrom.l2 kk c n (stT c n i f) i ((k' + 1 : Nat) : Int) ((m + 1 : Nat) : Int)) r
  | 0, m, f, hm, hf, hE => by
    have hz : accI c (lst c k') i (m + 0) = accI c (lst c k') i m := rfl
    rw [hz, upd_self f _ hf] at hE
    obtain ⟨K, e⟩ := hE
    refine ev_from K fun kk hkk => ?_
    have e := e kk hkk
    rw [show ((k' + 1 + 1 : Nat) : Int) = ((k' + 1 : Nat) : Int) + 1 from rfl] at e
    dsimp only at e
    simp only [impl_leastFrom.l2]
    rw [wr (x := (i : Int) + ((m + 1 : Nat) : Int)) (by omega) (by omega), if_neg (by omega), wr (by omega) (by omega), e]
  | d + 1, m, f, hm, hf, hE => by
    have hcr := cost_range h i (m + 1) (by omega)
    have hlr := lst_range h k' (i + (m + 1)) (by omega)
    have har := acc_range h (R := lst c k') (B := 676000 * k') (by omega) (fun j hj => lst_range h k' j hj) i m (by omega)
    obtain ⟨K0, e0⟩ := groupCost_ev h i (m + 1) (by omega)
    obtain ⟨K, ih⟩ := least_l2 h hk hn hi r d (m + 1) (upd f (k' + 1) (accI c (lst c k') i (m + 1))) (by omega) (upd_same _ _ _) (by rw [upd_upd, show m + 1 + d = m + (d + 1) by omega]; exact hE)
    have hab := stT_above (c := c) (n := n) f (show i < i + (m + 1) by omega) (by omega)
    have hrow : rd (rowT c n (i + (m + 1))) (k' : Int) = lst c k' (i + (m + 1)) := rd_tab _ (by omega)
    have hrl : (rowT c n (i + (m + 1))).length = n + 1 := tabL_length _ _
    have hself := stT_self (c := c) (n := n) f hi
    have hfk : rd (tabL (n + 1) f) ((k' + 1 : Nat) : Int) = accI c (lst c k') i m := by rw [rd_tab _ (by omega), hf]
    have hlen := stT_len c n i f
    refine ev_from (K0 + K) fun kk hkk => ?_
    have e := ih kk (by omega)
    have e0 := e0 kk (by omega)
    rw [show ((m + 1 + 1 : Nat) : Int) = ((m + 1 : Nat) : Int) + 1 from rfl] at e
    dsimp only at e e0
    rw [accI] at e
    simp only [impl_leastFrom.l2]
    rw [wr (x := (i : Int) + ((m + 1 : Nat) : Int)) (by omega) (by omega), if_pos (by omega), if_pos (by omega), if_pos (by rw [hlen]; omega), wr (x := ((k' + 1 : Nat) : Int) - 1) (by omega) (by omega), show ((k' + 1 : Nat) : Int) - 1 = (k' : Int) by omega, if_pos (by omega),
      show (i : Int) + ((m + 1 : Nat) : Int) = ((i + (m + 1) : Nat) : Int) by omega, hab, if_pos (by rw [hrl]; omega), e0, bsome, hrow, wr (x := ((m + 1 : Nat) : Int) + 1) (by omega) (by omega), hself, hfk, tabL_length, wr (x := costN c i (m + 1) + lst c k' (i + (m + 1))) (by omega) (by omega)]
    unfold pickI at e
    by_cases hr : 0 ≤ lst c k' (i + (m + 1))
    · rw [if_pos hr] at e
      rw [if_pos hr, if_pos (by omega), if_pos (by rw [hlen]; omega), if_pos (by omega), if_pos (by omega), Int.toNat_natCast, Int.toNat_natCast, stT_set]
      by_cases hv : accI c (lst c k') i m < 0
      · rw [if_pos hv] at e ⊢
        exact e
      · rw [if_neg hv] at e ⊢
        by_cases hx : costN c i (m + 1) + lst c k' (i + (m + 1)) < accI c (lst c k') i m
        · rw [if_pos hx] at e ⊢
          exact e
        · rw [if_neg hx] at e ⊢
          rw [upd_self f _ hf] at e
          exact e
    · rw [if_neg hr, upd_self f _ hf] at e
      rw [if_neg hr]
      exact e
theorem least_l1 {c : List Int} (h : okC c) {n i : Nat} (hn : n ≤ 8) (hi : i ≤ 26) (r : List (List Int)) (hE : Ev (fun kk => impl_leastFrom.l0 kk c n (allT c n i) ((i : Int) - 1)) r) : ∀ (d k : Nat) (f : Nat → Int), k + d = n + 1 → 1 ≤ k → (∀ t, t < k → f t = lst c t i) → (∀ t, k ≤ t → f t = -1) →
    Ev (fun kk => impl_leastFrom.l1 kk c n (stT c n i f) i (k : Int)) r
  | 0, k, f, hk, h1, hf, hg => by
    have he : stT c n i f = allT c n i := by
      unfold stT allT
      refine tabL_ext fun j _ => ?_
      by_cases hj : j = i
      · subst hj
        rw [if_pos rfl, if_pos (Nat.le_refl _)]
        exact tabL_ext fun t ht => hf t (by omega)
      · rw [if_neg hj]
        by_cases hl : i < j
        · rw [if_pos hl, if_pos (by omega)]
        · rw [if_neg hl, if_neg (by omega)]
    obtain ⟨K, e⟩ := hE
    refine ev_from K fun kk hkk => ?_
    have e := e kk hkk
    dsimp only at e
    simp only [impl_leastFrom.l1]
    rw [if_neg (by omega), wr (by omega) (by omega), he, e]
  | d + 1, k, f, hk, h1, hf, hg => by
    obtain ⟨k', rfl⟩ : ∃ k', k = k' + 1 := ⟨k - 1, by omega⟩
    have ih := least_l1 h hn hi r hE d (k' + 1 + 1) (upd f (k' + 1) (accI c (lst c k') i (0 + (26 - i)))) (by omega) (by omega)
      (fun t ht => by
        by_cases htk : t = k' + 1
        · subst htk
          rw [upd_same, Nat.zero_add]
          rfl
        · rw [upd_other _ _ htk]
          exact hf t (by omega))
      (fun t ht => by
        rw [upd_other _ _ (by omega)]
        exact hg t (by omega))
    obtain ⟨K, e⟩ := least_l2 h (n := n) (k' := k') (by omega) hn hi r (26 - i) 0 f (by omega) (by rw [hg _ (Nat.le_refl _)]; rfl) ih
    refine ev_from K fun kk hkk => ?_
    have e := e kk hkk
    dsimp only at e
    simp only [impl_leastFrom.l1]
    rw [if_pos (by omega)]
    exact e
theorem least_l0 {c : List Int} (h : okC c) {n : Nat} (hn : n ≤ 8) : ∀ (j : Nat), j ≤ 27 → Ev (fun kk => impl_leastFrom.l0 kk c n (allT c n j) ((j : Int) - 1)) (allT c n 0)
  | 0, _ => by
    refine ev_from 0 fun kk _ => ?_
    simp only [impl_leastFrom.l0]
    rw [if_neg (by omega)]
  | i + 1, hj => by
    have ih := least_l0 h hn i (by omega)
    have hrep : slices_Repeat_int_int.f ([(-1)] : List Int) (wrap64 ((n : Int) + 1)) = some (List.replicate (n + 1) (-1)) := by
      unfold slices_Repeat_int_int.f
      rw [wr (by omega) (by omega), if_pos (by rfl), if_pos (by omega), if_pos (by omega), show ((n : Int) + 1).toNat = n + 1 by omega]
      rfl
    have hset : (allT c n (i + 1)).set i (List.replicate (n + 1) (-1)) = stT c n i (fun _ => -1) := by
      unfold allT stT
      rw [tabL_set, rep_tab]
      refine tabL_ext fun t _ => ?_
      by_cases ht : t = i
      · rw [if_pos ht, if_pos ht]
      · rw [if_neg ht, if_neg ht]
        by_cases hl : i < t
        · rw [if_pos (by omega), if_pos hl]
        · rw [if_neg (by omega), if_neg hl]
    have hlen : (allT c n (i + 1)).length = 27 := tabL_length _ _
    by_cases h26 : i = 26
    · obtain ⟨K, e⟩ := least_l1 h hn (show i ≤ 26 by omega) (allT c n 0) ih n 1 (upd (fun _ => -1) 0 0) (by omega) (by omega)
        (fun t ht => by
          obtain rfl : t = 0 := by omega
          rw [upd_same, lst, if_pos h26])
        (fun t ht => upd_other _ _ (by omega))
      have hself := stT_self (c := c) (n := n) (fun _ => (-1 : Int)) (show i ≤ 26 by omega)
      refine ev_from (K + 1) fun kk hkk => ?_
      obtain ⟨kk, rfl⟩ : ∃ m, kk = m + 1 := ⟨kk - 1, by omega⟩
      have e := e kk (by omega)
      dsimp only at e
      simp only [impl_leastFrom.l0]
      rw [show ((i + 1 : Nat) : Int) - 1 = (i : Int) by omega, if_pos (by omega), hrep, bsome, if_pos (by omega), if_pos (by rw [hlen]; omega), Int.toNat_natCast, hset, bsome, if_pos (by omega), hself, tabL_length, if_pos (by omega)]
      rw [show (0 : Int).toNat = 0 from rfl, stT_set]
      simp only [impl_leastFrom.j1]
      exact e
    · obtain ⟨K, e⟩ := least_l1 h hn (show i ≤ 26 by omega) (allT c n 0) ih n 1 (fun _ => -1) (by omega) (by omega)
        (fun t ht => by
          obtain rfl : t = 0 := by omega
          rw [lst, if_neg h26])
        (fun t ht => rfl)
      refine ev_from (K + 1) fun kk hkk => ?_
      obtain ⟨kk, rfl⟩ : ∃ m, kk = m + 1 := ⟨kk - 1, by omega⟩
      have e := e kk (by omega)
      dsimp only at e
      simp only [impl_leastFrom.l0]
      rw [show ((i + 1 : Nat) : Int) - 1 = (i : Int) by omega, if_pos (by omega), hrep, bsome, if_pos (by omega), if_pos (by rw [hlen]; omega), Int.toNat_natCast, hset, bsome, if_neg (by omega)]
      simp only [impl_leastFrom.j1]
      exact e
theorem leastFrom_ev {c : List Int} (h : okC c) {n : Nat} (hn : n ≤ 8) : Ev (fun kk => impl_leastFrom.f kk c n) (allT c n 0) := by
  obtain ⟨K, e⟩ := least_l0 h hn 27 (Nat.le_refl _)
  refine ⟨K, fun kk hkk => ?_⟩
  have e := e kk hkk
  dsimp only at e ⊢
  unfold impl_leastFrom.f
  rw [if_pos (by omega), rep_tab]
  rw [show allT c n 27 = tabL 27 (fun _ => ([] : List Int)) from tabL_ext fun j hj => by rw [if_neg (by omega)]] at e
  exact e
end Go.Proofs.Ytlmnhokaagkocaa.Pu

namespace Go.Proofs.Ytlmnhokaagkocaa.Pu
open Go.RowKit Go.Proofs.Ytlmnhokaagkocaa.P Go.Proofs.YtlmnhokaagkocaaW.PrintWords Go.Proofs.YtlmnhokaagkocaaW.PrintLast Go.Proofs.YtlmnhokaagkocaaW.PrintMore

theorem in_is (a b c : Int) : impl_in.f a b c = some (decide (b ≤ a) && decide (a ≤ c)) := by
  unfold impl_in.f
  by_cases h : b ≤ a <;> simp [h]
theorem l1In_is (a b c : Int) : spec_l1In.f a b c = some (decide (b ≤ a) && decide (a ≤ c)) := by
  unfold spec_l1In.f
  by_cases h : b ≤ a <;> simp [h]
end Go.Proofs.Ytlmnhokaagkocaa.Pu

namespace Go.Proofs.Ytlmnhokaagkocaa.Pu
open Go.RowKit Go.Proofs.Ytlmnhokaagkocaa.P Go.Proofs.YtlmnhokaagkocaaW.PrintWords Go.Proofs.YtlmnhokaagkocaaW.PrintLast Go.Proofs.YtlmnhokaagkocaaW.PrintMore

def upN : Int → Nat → List Int
  | _, 0 => []
  | v, n + 1 => v :: upN (v + 1) n
theorem upN_length (v : Int) (n : Nat) : (upN v n).length = n := by
  induction n generalizing v with
  | zero => rfl
  | succ n ih => rw [upN, List.length_cons, ih]
theorem rd_mid (P : List Int) (v : Int) (R : List Int) : rd (P ++ v :: R) (P.length : Int) = v := by
  unfold rd
  rw [Int.toNat_natCast]
  simp
theorem set_mid (P : List Int) (r v : Int) (R : List Int) : (P ++ r :: R).set P.length v = (P ++ [v]) ++ R := by
  simp
theorem mark_l0 : ∀ (d : Nat) (P R : List Int) (v : Int), R.length = d → 0 ≤ v → v + d ≤ 9223372036854775807 → P.length + d < 9223372036854775807 → Ev (fun k => laws_markIntS.l0 k (P ++ R) v (P.length : Int)) (v + d, P ++ upN v d)
  | 0, P, R, v, hd, h0, h1, h2 => by
    obtain rfl := List.eq_nil_of_length_eq_zero hd
    refine ev_from 0 fun k _ => ?_
    simp only [laws_markIntS.l0]
    rw [if_neg (by simp)]
    simp [upN]
  | d + 1, P, R, v, hd, h0, h1, h2 => by
    match R, hd with
    | r :: R, hd =>
      have hd : R.length = d := by simpa using hd
      obtain ⟨K, ih⟩ := mark_l0 d (P ++ [v]) R (v + 1) hd (by omega) (by omega) (by rw [List.length_append, List.length_singleton]; omega)
      refine ev_from K fun k hk => ?_
      have e := ih k hk
      dsimp only at e
      simp only [laws_markIntS.l0]
      rw [if_pos (by simp only [List.length_append, List.length_cons]; omega), if_pos (by omega), Int.toNat_natCast, set_mid, wr (by omega) (by omega), wr (by omega) (by omega)]
      rw [List.length_append, List.length_singleton, show ((P.length + 1 : Nat) : Int) = (P.length : Int) + 1 from rfl] at e
      rw [e, upN]
      simp only [List.append_assoc, List.singleton_append]
      rw [show v + 1 + (d : Int) = v + ((d + 1 : Nat) : Int) by omega]
theorem mark_ev (L : List Int) (hl : L.length ≤ 1000000) : Ev (fun k => laws_markIntS.f k L 1) (1 + L.length, upN 1 L.length) := by
  obtain ⟨K, e⟩ := mark_l0 L.length [] L 1 rfl (by omega) (by omega) (by simp; omega)
  exact ⟨K, fun k hk => by have e := e k hk; dsimp only at e; unfold laws_markIntS.f; simpa using e⟩
theorem held_l0 : ∀ (d : Nat) (P : List Int) (v : Int), 0 ≤ v → v + d ≤ 9223372036854775807 → P.length + d < 9223372036854775807 → Ev (fun k => laws_heldIntS.l0 k (P ++ upN v d) v (P.length : Int)) (v + d)
  | 0, P, v, h0, h1, h2 => by
    refine ev_from 0 fun k _ => ?_
    simp only [laws_heldIntS.l0]
    rw [if_neg (by simp [upN])]
    simp
  | d + 1, P, v, h0, h1, h2 => by
    obtain ⟨K, ih⟩ := held_l0 d (P ++ [v]) (v + 1) (by omega) (by omega) (by rw [List.length_append, List.length_singleton]; omega)
    refine ev_from K fun k hk => ?_
    have e := ih k hk
    dsimp only at e
    rw [List.length_append, List.length_singleton, show ((P.length + 1 : Nat) : Int) = (P.length : Int) + 1 from rfl, List.append_assoc, List.singleton_append] at e
    simp only [laws_heldIntS.l0]
    rw [upN, if_pos (by simp only [List.length_append, List.length_cons]; omega), if_pos (by omega), rd_mid, if_pos rfl, wr (by omega) (by omega), wr (by omega) (by omega), e]
    rw [show v + 1 + (d : Int) = v + ((d + 1 : Nat) : Int) by omega]
theorem held_ev (n : Nat) (hl : n ≤ 1000000) : Ev (fun k => laws_heldIntS.f k (upN 1 n) 1) (1 + n) := by
  obtain ⟨K, e⟩ := held_l0 n [] 1 (by omega) (by omega) (by simp; omega)
  exact ⟨K, fun k hk => by have e := e k hk; dsimp only at e; unfold laws_heldIntS.f; simpa using e⟩
theorem eqInt_l0 : ∀ (d : Nat) (P R Q : List Int), R.length = d → P.length + d < 9223372036854775807 → R = Q → Ev (fun k => laws_eqIntS.l0 k (P ++ R) (P ++ Q) (P.length : Int)) true
  | 0, P, R, Q, hd, h2, hq => by
    obtain rfl := List.eq_nil_of_length_eq_zero hd
    refine ev_from 0 fun k _ => ?_
    simp only [laws_eqIntS.l0]
    rw [if_neg (by simp)]
  | d + 1, P, R, Q, hd, h2, hq => by
    subst hq
    match R, hd with
    | r :: R, hd =>
      have hd : R.length = d := by simpa using hd
      obtain ⟨K, ih⟩ := eqInt_l0 d (P ++ [r]) R R hd (by rw [List.length_append, List.length_singleton]; omega) rfl
      refine ev_from K fun k hk => ?_
      have e := ih k hk
      dsimp only at e
      rw [List.length_append, List.length_singleton, show ((P.length + 1 : Nat) : Int) = (P.length : Int) + 1 from rfl, List.append_assoc, List.singleton_append] at e
      simp only [laws_eqIntS.l0]
      rw [if_pos (by simp only [List.length_append, List.length_cons]; omega), if_pos (by omega), if_pos (by simp only [List.length_append, List.length_cons]; omega), if_pos trivial, wr (by omega) (by omega), e]
theorem eqInt_ev (L : List Int) (hl : L.length ≤ 1000000) : Ev (fun k => laws_eqIntS.f k L L) true := by
  obtain ⟨K, e⟩ := eqInt_l0 L.length [] L L rfl (by simp; omega) rfl
  exact ⟨K, fun k hk => by have e := e k hk; dsimp only at e ⊢; unfold laws_eqIntS.f; rw [if_pos rfl]; simpa using e⟩
end Go.Proofs.Ytlmnhokaagkocaa.Pu

namespace Go.Proofs.Ytlmnhokaagkocaa.Pu
open Go.RowKit Go.Proofs.Ytlmnhokaagkocaa.P Go.Proofs.YtlmnhokaagkocaaW.PrintWords Go.Proofs.YtlmnhokaagkocaaW.PrintLast Go.Proofs.YtlmnhokaagkocaaW.PrintMore

theorem drop_rd (L : List Int) (i : Nat) (h : i < L.length) : L.drop i = rd L i :: L.drop (i + 1) := by
  rw [List.drop_eq_getElem_cons h, rd, Int.toNat_natCast, List.getD_eq_getElem?_getD, List.getElem?_eq_getElem h]
  rfl
theorem toI_l0 (L : List Int) (hl : L.length ≤ 1099511627776) : ∀ (d : Nat) (P S : List Int), S.length = d → L = P ++ S → Ev (fun k => laws_toIntS.l0 k L (P ++ List.replicate d 0) (P.length : Int)) L
  | 0, P, S, hd, hL => by
    obtain rfl := List.eq_nil_of_length_eq_zero hd
    refine ev_from 0 fun k _ => ?_
    simp only [laws_toIntS.l0]
    rw [if_neg (by rw [hL]; simp)]
    rw [hL]
    simp
  | d + 1, P, S, hd, hL => by
    match S, hd, hL with
    | s :: S, hd, hL =>
      have hd : S.length = d := by simpa using hd
      have hlen : L.length = P.length + (d + 1) := by rw [hL, List.length_append, List.length_cons, hd]
      have hr : rd L (P.length : Int) = s := by rw [hL]; exact rd_mid P s S
      obtain ⟨K, ih⟩ := toI_l0 L hl d (P ++ [s]) S hd (by rw [hL]; simp)
      refine ev_from K fun k hk => ?_
      have e := ih k hk
      rw [List.length_append, List.length_singleton, show ((P.length + 1 : Nat) : Int) = (P.length : Int) + 1 from rfl] at e
      dsimp only at e
      simp only [laws_toIntS.l0]
      rw [if_pos (by omega), if_pos (by omega), if_pos (by rw [List.length_append, List.length_replicate]; omega), Int.toNat_natCast, List.replicate_succ, set_mid, hr, wr (by omega) (by omega), e]
theorem toI_ev (L : List Int) (hl : L.length ≤ 1048576) : Ev (fun k => laws_toIntS.f k L) L := by
  obtain ⟨K, e⟩ := toI_l0 L (by omega) L.length [] L rfl rfl
  refine ⟨K, fun k hk => ?_⟩
  have e := e k hk
  dsimp only at e ⊢
  unfold laws_toIntS.f
  rw [if_pos (by omega), if_pos (by omega), Int.toNat_natCast]
  exact e
def allB (L : List Int) : Bool := L.all fun x => decide (0 ≤ x) && decide (x ≤ 1000)
theorem allB_iff {L : List Int} : allB L = true ↔ ∀ x ∈ L, 0 ≤ x ∧ x ≤ 1000 := by unfold allB; simp [List.all_eq_true]
theorem l1All_l0 (L : List Int) (hl : L.length ≤ 1099511627776) : ∀ (d i : Nat), i + d = L.length → Ev (fun k => spec_l1All.l0 k 0 1000 L L.length i) (allB (L.drop i))
  | 0, i, h => by
    obtain rfl : i = L.length := by omega
    rw [List.drop_length]
    refine ev_from 0 fun k _ => ?_
    simp only [spec_l1All.l0]
    rw [if_neg (by omega)]
    rfl
  | d + 1, i, h => by
    obtain ⟨K, ih⟩ := l1All_l0 L hl d (i + 1) (by omega)
    rw [drop_rd L i (by omega)]
    refine ev_from K fun k hk => ?_
    have e := ih k hk
    rw [show ((i + 1 : Nat) : Int) = (i : Int) + 1 from rfl] at e
    dsimp only at e
    simp only [spec_l1All.l0]
    unfold allB at e ⊢
    rw [if_pos (by omega), if_pos (by omega), if_pos (by omega), l1In_is, bsome, wr (by omega) (by omega), e, List.all_cons]
    cases (decide (0 ≤ rd L i) && decide (rd L i ≤ 1000)) with
    | false => rfl
    | true => rw [if_pos rfl, Bool.true_and]
theorem l1All_ev (L : List Int) (hl : L.length ≤ 1099511627776) : Ev (fun k => spec_l1All.f k L 0 1000) (allB L) := by
  obtain ⟨K, e⟩ := l1All_l0 L hl L.length 0 (by omega)
  exact ⟨K, fun k hk => by have e := e k hk; dsimp only at e; unfold spec_l1All.f; simpa using e⟩
theorem contains_is (L : List Int) : slices_ContainsFunc_int_int_at_BestLayout_1.f L = some (!allB L) := by
  unfold slices_ContainsFunc_int_int_at_BestLayout_1.f allB
  rw [List.not_all_eq_any_not]

/-! ### the reference's table -/
def cnv (v : Int) : Int := if v < 0 then 1000000000 else v
def bstR (c : List Int) (k : Nat) : List Int := tabL 27 (fun i => cnv (lst c k i))
def bstT (c : List Int) (k : Nat) : List (List Int) := tabL k (fun t => bstR c t)
theorem bstT_len (c : List Int) (k : Nat) : (bstT c k).length = k := tabL_length _ _
theorem bstR_len (c : List Int) (k : Nat) : (bstR c k).length = 27 := tabL_length _ _
theorem bstT_at {c : List Int} {k t : Nat} (h : t < k) : rd_L1 (bstT c k) (t : Int) = bstR c t := rdl_tab _ h
theorem bstR_at {c : List Int} {k i : Nat} (h : i ≤ 26) : rd (bstR c k) (i : Int) = cnv (lst c k i) := rd_tab _ (by omega)
theorem least_cnv {a x rest : Int} (h0 : 0 ≤ x) (h1 : x ≤ 676000) (h2 : -1 ≤ rest) (h3 : rest ≤ 6760000) (h4 : -1 ≤ a) (h5 : a ≤ 10000000) : spec_l1Least.f (cnv a) (x + cnv rest) = some (cnv (pickI a (x + rest) rest)) := by
  unfold spec_l1Least.f cnv pickI
  by_cases hr : 0 ≤ rest
  · rw [if_neg (show ¬ rest < 0 by omega), if_pos hr]
    by_cases ha : a < 0
    · rw [if_pos ha, if_pos ha, if_neg (by omega), if_neg (by omega)]
    · rw [if_neg ha, if_neg ha]
      by_cases hx : a < x + rest
      · rw [if_pos hx, if_neg (show ¬ x + rest < a by omega), if_neg ha]
      · rw [if_neg hx]
        by_cases hy : x + rest < a
        · rw [if_pos hy, if_neg (by omega)]
        · rw [if_neg hy, if_neg ha]
          congr 1
          omega
  · rw [if_pos (show rest < 0 by omega), if_neg hr]
    by_cases ha : a < 0
    · rw [if_pos ha]
      split
      · rfl
      · congr 1
        omega
    · rw [if_neg ha, if_pos (by omega)]
theorem best_l3 {c : List Int} (h : okC c) {k' i : Nat} {n : Int} (hk : k' ≤ 8) (hi : i ≤ 26) (r : List (List Int)) : ∀ (d m : Nat) (g : Nat → Int), i + m + d = 26 → g i = cnv (accI c (lst c k') i m) →
    Ev (fun kk => spec_prBest.l2 kk c n (bstT c (k' + 1)) ((k' + 1 : Nat) : Int) (tabL 27 (upd g i (cnv (accI c (lst c k') i (m + d))))) ((i + 1 : Nat) : Int)) r →
    Ev (fun kk => spec_prBest.l3 kk c n (bstT c (k' + 1)) ((k' + 1 : Nat) : Int) (tabL 27 g) i (costN c i m) ((m + 1 : Nat) : Int)) r
  | 0, m, g, hm, hg, hE => by
    have hz : accI c (lst c k') i (m + 0) = accI c (lst c k') i m := rfl
    rw [hz, upd_self g _ hg] at hE
    obtain ⟨K, e⟩ := hE
    refine ev_from K fun kk hkk => ?_
    have e := e kk hkk
    rw [show ((i + 1 : Nat) : Int) = (i : Int) + 1 from rfl] at e
    dsimp only at e
    simp only [spec_prBest.l3]
    rw [wr (x := (i : Int) + ((m + 1 : Nat) : Int)) (by omega) (by omega), if_neg (by omega), wr (by omega) (by omega), e]
  | d + 1, m, g, hm, hg, hE => by
    have hc0 := cost_range h i m (by omega)
    have hcr := cost_range h i (m + 1) (by omega)
    have htr := term_range h (j := i + m) (m := m) (by omega) (by omega)
    have hlr := lst_range h k' (i + (m + 1)) (by omega)
    have har := acc_range h (R := lst c k') (B := 676000 * k') (by omega) (fun j hj => lst_range h k' j hj) i m (by omega)
    have hl := least_cnv (a := accI c (lst c k') i m) (x := costN c i (m + 1)) (rest := lst c k' (i + (m + 1))) hcr.1 (by omega) hlr.1 (by omega) har.1 (by omega)
    obtain ⟨K, ih⟩ := best_l3 h hk hi r d (m + 1) (upd g i (cnv (accI c (lst c k') i (m + 1)))) (by omega) (upd_same _ _ _) (by rw [upd_upd, show m + 1 + d = m + (d + 1) by omega]; exact hE)
    have hcl := h.1
    have hmul : ((m + 1 : Nat) : Int) * rd c ((i + m : Nat) : Int) = rd c ((i + m : Nat) : Int) * ((m : Int) + 1) := by rw [Int.mul_comm]; rfl
    have hcs : costN c i m + rd c ((i + m : Nat) : Int) * ((m : Int) + 1) = costN c i (m + 1) := rfl
    have hgi : rd (tabL 27 g) (i : Int) = cnv (accI c (lst c k') i m) := by rw [rd_tab _ (by omega), hg]
    have hcb : 0 ≤ cnv (lst c k' (i + (m + 1))) ∧ cnv (lst c k' (i + (m + 1))) ≤ 1000000000 := by unfold cnv; split <;> omega
    refine ev_from K fun kk hkk => ?_
    have e := ih kk hkk
    rw [show ((m + 1 + 1 : Nat) : Int) = ((m + 1 : Nat) : Int) + 1 from rfl] at e
    dsimp only at e
    rw [accI, ← set_upd] at e
    simp only [spec_prBest.l3]
    rw [wr (x := (i : Int) + ((m + 1 : Nat) : Int)) (by omega) (by omega), if_pos (by omega), wr (x := (i : Int) + ((m + 1 : Nat) : Int) - 1) (by omega) (by omega), show (i : Int) + ((m + 1 : Nat) : Int) - 1 = ((i + m : Nat) : Int) by omega, if_pos (by omega), if_pos (by omega), if_pos (by omega), if_pos (by rw [tabL_length]; omega),
      wr (x := ((k' + 1 : Nat) : Int) - 1) (by omega) (by omega), show ((k' + 1 : Nat) : Int) - 1 = (k' : Int) by omega, if_pos (by omega), if_pos (by rw [bstT_len]; omega), if_pos (by omega), bstT_at (by omega), if_pos (by rw [bstR_len]; omega), hmul, wr (x := rd c ((i + m : Nat) : Int) * ((m : Int) + 1)) (by omega) (by omega), hcs, wr (x := costN c i (m + 1)) (by omega) (by omega),
      show (i : Int) + ((m + 1 : Nat) : Int) = ((i + (m + 1) : Nat) : Int) by omega, bstR_at (by omega), hgi, wr (x := costN c i (m + 1) + cnv (lst c k' (i + (m + 1)))) (by omega) (by omega), hl, bsome, Int.toNat_natCast, wr (x := ((m + 1 : Nat) : Int) + 1) (by omega) (by omega), e]
theorem best_l2 {c : List Int} (h : okC c) {k' : Nat} {n : Int} (hk : k' ≤ 8) (r : List (List Int)) (hE : Ev (fun kk => spec_prBest.l1 kk c n (bstT c (k' + 1 + 1)) ((k' + 1 + 1 : Nat) : Int)) r) : ∀ (d i : Nat) (g : Nat → Int), i + d = 27 → (∀ t, t < i → g t = cnv (lst c (k' + 1) t)) →
    Ev (fun kk => spec_prBest.l2 kk c n (bstT c (k' + 1)) ((k' + 1 : Nat) : Int) (tabL 27 g) (i : Int)) r
  | 0, i, g, hi, hg => by
    have ht : tabL 27 g = bstR c (k' + 1) := tabL_ext fun t ht => hg t (by omega)
    have ha : bstT c (k' + 1) ++ [bstR c (k' + 1)] = bstT c (k' + 1 + 1) := (tabL_succ _ _).symm
    obtain ⟨K, e⟩ := hE
    refine ev_from K fun kk hkk => ?_
    have e := e kk hkk
    rw [show ((k' + 1 + 1 : Nat) : Int) = ((k' + 1 : Nat) : Int) + 1 from rfl] at e
    dsimp only at e
    simp only [spec_prBest.l2]
    rw [if_neg (by omega), if_pos (by rw [bstT_len]; omega), ht, ha, wr (by omega) (by omega), e]
  | d + 1, i, g, hi, hg => by
    have ih := best_l2 h hk r hE d (i + 1) (upd (upd g i 1000000000) i (cnv (accI c (lst c k') i (0 + (26 - i))))) (by omega) (fun t ht => by
      by_cases hti : t = i
      · subst hti
        rw [upd_same, Nat.zero_add]
        rfl
      · rw [upd_other _ _ hti, upd_other _ _ hti]
        exact hg t (by omega))
    obtain ⟨K, e⟩ := best_l3 h (n := n) hk (show i ≤ 26 by omega) r (26 - i) 0 (upd g i 1000000000) (by omega) (by rw [upd_same]; rfl) ih
    refine ev_from K fun kk hkk => ?_
    have e := e kk hkk
    rw [← set_upd] at e
    dsimp only at e
    simp only [spec_prBest.l2]
    rw [if_pos (by omega), if_pos (by omega), if_pos (by rw [tabL_length]; omega), Int.toNat_natCast]
    exact e
theorem best_l1 {c : List Int} (h : okC c) {n : Nat} (hn : n ≤ 8) : ∀ (d k' : Nat), k' + d = n → Ev (fun kk => spec_prBest.l1 kk c n (bstT c (k' + 1)) ((k' + 1 : Nat) : Int)) (bstT c (n + 1))
  | 0, k', hk => by
    obtain rfl : k' = n := by omega
    refine ev_from 0 fun kk _ => ?_
    simp only [spec_prBest.l1]
    rw [if_neg (by omega)]
  | d + 1, k', hk => by
    have ih := best_l1 h hn d (k' + 1) (by omega)
    obtain ⟨K, e⟩ := best_l2 h (n := (n : Int)) (show k' ≤ 8 by omega) _ ih 27 0 (fun _ => 0) (by omega) (fun t ht => by omega)
    refine ev_from K fun kk hkk => ?_
    have e := e kk hkk
    rw [← rep_tab] at e
    dsimp only at e
    simp only [spec_prBest.l1]
    rw [if_pos (by omega), if_pos (by omega)]
    exact e
theorem best_l0 {c : List Int} (h : okC c) {n : Nat} (hn : n ≤ 8) : ∀ (d j : Nat), j + d = 26 → Ev (fun kk => spec_prBest.l0 kk c n (tabL 27 (fun t => if t < j then 1000000000 else 0)) (j : Int)) (bstT c (n + 1))
  | 0, j, hj => by
    obtain ⟨K, e⟩ := best_l1 h hn n 0 (by omega)
    have ht : ([] : List (List Int)) ++ [tabL 27 (fun t => if t < j then (1000000000 : Int) else 0)] = bstT c (0 + 1) := by
      have h2 : bstT c (0 + 1) = bstT c 0 ++ [bstR c 0] := tabL_succ 0 _
      rw [h2, show bstT c 0 = [] from rfl]
      congr 2
      refine tabL_ext fun t ht => ?_
      rw [lst]
      by_cases h26 : t = 26
      · rw [if_pos h26, if_neg (by omega)]
        rfl
      · rw [if_neg h26, if_pos (by omega)]
        rfl
    refine ev_from K fun kk hkk => ?_
    have e := e kk hkk
    dsimp only at e
    simp only [spec_prBest.l0]
    rw [if_neg (by omega), if_pos (by simp), ht]
    exact e
  | d + 1, j, hj => by
    obtain ⟨K, ih⟩ := best_l0 h hn d (j + 1) (by omega)
    have hs : (tabL 27 (fun t => if t < j then (1000000000 : Int) else 0)).set j 1000000000 = tabL 27 (fun t => if t < j + 1 then 1000000000 else 0) := by
      rw [tabL_set]
      refine tabL_ext fun t _ => ?_
      by_cases h1 : t = j
      · rw [if_pos h1, if_pos (by omega)]
      · rw [if_neg h1]
        by_cases h2 : t < j
        · rw [if_pos h2, if_pos (by omega)]
        · rw [if_neg h2, if_neg (by omega)]
    refine ev_from K fun kk hkk => ?_
    have e := ih kk hkk
    rw [show ((j + 1 : Nat) : Int) = (j : Int) + 1 from rfl] at e
    dsimp only at e
    simp only [spec_prBest.l0]
    rw [if_pos (by omega), if_pos (by omega), if_pos (by rw [tabL_length]; omega), Int.toNat_natCast, hs, wr (by omega) (by omega), e]
theorem prBest_ev {c : List Int} (h : okC c) {n : Nat} (hn : n ≤ 8) : Ev (fun kk => spec_prBest.f kk c n) (bstT c (n + 1)) := by
  obtain ⟨K, e⟩ := best_l0 h hn 26 0 (by omega)
  refine ⟨K, fun kk hkk => ?_⟩
  have e := e kk hkk
  dsimp only at e ⊢
  unfold spec_prBest.f
  rw [if_pos (by omega), rep_tab]
  rw [show tabL 27 (fun t => if t < 0 then (1000000000 : Int) else 0) = tabL 27 (fun _ => 0) from tabL_ext fun t _ => by rw [if_neg (by omega)]] at e
  exact e
/-! ### the sizes -/
def okM (c : List Int) (k i m : Nat) : Bool := decide (0 ≤ lst c k (i + m)) && decide (costN c i m + lst c k (i + m) = lst c (k + 1) i)
theorem okM_iff {c : List Int} {k i m : Nat} : okM c k i m = true ↔ 0 ≤ lst c k (i + m) ∧ costN c i m + lst c k (i + m) = lst c (k + 1) i := by
  unfold okM
  rw [Bool.and_eq_true, decide_eq_true_eq, decide_eq_true_eq]
def fstM (c : List Int) (k i : Nat) : Nat → Nat → Nat
  | 0, m => m
  | d + 1, m => if okM c k i m = true then m else fstM c k i d (m + 1)
theorem fstM_ok {c : List Int} {k i : Nat} : ∀ (d m : Nat), okM c k i m = true → fstM c k i d m = m
  | 0, m, _ => rfl
  | d + 1, m, h => by rw [fstM, if_pos h]
theorem fstM_spec {c : List Int} {k i : Nat} : ∀ (d m : Nat), (∃ m', m ≤ m' ∧ m' ≤ m + d ∧ okM c k i m' = true) → okM c k i (fstM c k i d m) = true ∧ m ≤ fstM c k i d m ∧ fstM c k i d m ≤ m + d
  | 0, m, ⟨m', h1, h2, h3⟩ => by
    obtain rfl : m' = m := by omega
    exact ⟨h3, Nat.le_refl _, Nat.le_refl _⟩
  | d + 1, m, ⟨m', h1, h2, h3⟩ => by
    rw [fstM]
    split
    · rename_i h
      exact ⟨h, Nat.le_refl _, by omega⟩
    · rename_i h
      have hne : m' ≠ m := fun e => h (by rw [← e]; exact h3)
      obtain ⟨a1, a2, a3⟩ := fstM_spec d (m + 1) ⟨m', by omega, by omega, h3⟩
      exact ⟨a1, by omega, by omega⟩
theorem allT_at {c : List Int} {n j : Nat} (hj : j ≤ 26) : rd_L1 (allT c n 0) (j : Int) = rowT c n j := by
  unfold allT
  rw [rdl_tab _ (by omega), if_pos (by omega)]
theorem allT_len (c : List Int) (n : Nat) : (allT c n 0).length = 27 := tabL_length _ _
theorem rowT_len (c : List Int) (n j : Nat) : (rowT c n j).length = n + 1 := tabL_length _ _
theorem rowT_at {c : List Int} {n j k : Nat} (hk : k ≤ n) : rd (rowT c n j) (k : Int) = lst c k j := rd_tab _ (by omega)
theorem recI_hit {c : List Int} (h : okC c) {n k i : Nat} (hk : k + 1 ≤ n) (hn : n ≤ 8) (A : List Int) (hA : A.length ≤ 100) (r : List Int × Int × Bool) (d m : Nat) (hm : i + m + d = 26) (h1 : 1 ≤ m) (hok : okM c k i m = true)
    (hE : Ev (fun kk => impl_BestLayout.l0 kk c n (allT c n 0) (A ++ [((fstM c k i d m : Nat) : Int)]) ((i + fstM c k i d m : Nat) : Int) (k : Int)) r) : Ev (fun kk => impl_BestLayout.l1 kk c n (allT c n 0) A i ((k + 1 : Nat) : Int) m (lst c k (i + m))) r := by
  rw [fstM_ok d m hok] at hE
  obtain ⟨K, e⟩ := hE
  obtain ⟨K0, e0⟩ := groupCost_ev h i m (by omega)
  have hcr := cost_range h i m (by omega)
  have hlr := lst_range h k (i + m) (by omega)
  obtain ⟨ok1, ok2⟩ := okM_iff.1 hok
  refine ev_from (K0 + K) fun kk hkk => ?_
  have e := e kk (by omega)
  have e0 := e0 kk (by omega)
  dsimp only at e e0
  simp only [impl_BestLayout.l1]
  rw [if_neg (by omega), e0, bsome, if_pos (by omega), if_pos (by rw [allT_len]; omega), if_pos (by omega), allT_at (by omega), if_pos (by rw [rowT_len]; omega), rowT_at (by omega), wr (x := costN c i m + lst c k (i + m)) (by omega) (by omega), if_pos ok2, if_pos (by omega), wr (x := (i : Int) + (m : Int)) (by omega) (by omega), wr (x := ((k + 1 : Nat) : Int) - 1) (by omega) (by omega), show ((k + 1 : Nat) : Int) - 1 = (k : Int) by omega, show (i : Int) + (m : Int) = ((i + m : Nat) : Int) by omega, e]
theorem recI_l1 {c : List Int} (h : okC c) {n k i : Nat} (hk : k + 1 ≤ n) (hn : n ≤ 8) (A : List Int) (hA : A.length ≤ 100) (r : List Int × Int × Bool) : ∀ (d m : Nat), i + m + d = 26 → 1 ≤ m → (∃ m', m ≤ m' ∧ m' ≤ m + d ∧ okM c k i m' = true) →
    Ev (fun kk => impl_BestLayout.l0 kk c n (allT c n 0) (A ++ [((fstM c k i d m : Nat) : Int)]) ((i + fstM c k i d m : Nat) : Int) (k : Int)) r → Ev (fun kk => impl_BestLayout.l1 kk c n (allT c n 0) A i ((k + 1 : Nat) : Int) m (lst c k (i + m))) r := by
  intro d
  induction d with
  | zero =>
    intro m hm h1 hex hE
    obtain ⟨m', a1, a2, a3⟩ := hex
    obtain rfl : m' = m := by omega
    exact recI_hit h hk hn A hA r 0 m' hm h1 a3 hE
  | succ d ih =>
    intro m hm h1 hex hE
    by_cases hok : okM c k i m = true
    · exact recI_hit h hk hn A hA r (d + 1) m hm h1 hok hE
    · have hf : fstM c k i (d + 1) m = fstM c k i d (m + 1) := by rw [fstM, if_neg hok]
      rw [hf] at hE
      obtain ⟨m', a1, a2, a3⟩ := hex
      have hne : m' ≠ m := fun e => hok (by rw [← e]; exact a3)
      obtain ⟨K, e⟩ := ih (m + 1) (by omega) (by omega) ⟨m', by omega, by omega, a3⟩ hE
      obtain ⟨K0, e0⟩ := groupCost_ev h i m (by omega)
      have hcr := cost_range h i m (by omega)
      have hlr := lst_range h k (i + m) (by omega)
      have hno : ¬ (0 ≤ lst c k (i + m) ∧ costN c i m + lst c k (i + m) = lst c (k + 1) i) := fun x => hok (okM_iff.2 x)
      refine ev_from (K0 + K) fun kk hkk => ?_
      have e := e kk (by omega)
      have e0 := e0 kk (by omega)
      rw [show ((m + 1 : Nat) : Int) = (m : Int) + 1 from rfl] at e
      dsimp only at e e0
      simp only [impl_BestLayout.l1]
      have hstep : ∀ X : Option (List Int × Int × Bool), X = some r → (if 0 ≤ (wrap64 ((i : Int) + (wrap64 ((m : Int) + 1)))) then (if (wrap64 ((i : Int) + (wrap64 ((m : Int) + 1)))) < ((allT c n 0).length : Int) then (if 0 ≤ (wrap64 (((k + 1 : Nat) : Int) - 1)) then (if (wrap64 (((k + 1 : Nat) : Int) - 1)) < ((rd_L1 (allT c n 0) (wrap64 ((i : Int) + (wrap64 ((m : Int) + 1))))).length : Int) then X else (none)) else (none)) else (none)) else (none)) = some r := by
        intro X hX
        rw [wr (x := (m : Int) + 1) (by omega) (by omega), wr (x := (i : Int) + ((m : Int) + 1)) (by omega) (by omega), if_pos (by omega), if_pos (by rw [allT_len]; omega), wr (x := ((k + 1 : Nat) : Int) - 1) (by omega) (by omega), if_pos (by omega), show (i : Int) + ((m : Int) + 1) = ((i + (m + 1) : Nat) : Int) by omega, allT_at (by omega), if_pos (by rw [rowT_len]; omega), hX]
      have hnx : impl_BestLayout.l1 kk c n (allT c n 0) A i ((k + 1 : Nat) : Int) (wrap64 ((m : Int) + 1)) (rd (rd_L1 (allT c n 0) (wrap64 ((i : Int) + (wrap64 ((m : Int) + 1))))) (wrap64 (((k + 1 : Nat) : Int) - 1))) = some r := by
        rw [wr (x := (m : Int) + 1) (by omega) (by omega), wr (x := (i : Int) + ((m : Int) + 1)) (by omega) (by omega), wr (x := ((k + 1 : Nat) : Int) - 1) (by omega) (by omega), show ((k + 1 : Nat) : Int) - 1 = (k : Int) by omega, show (i : Int) + ((m : Int) + 1) = ((i + (m + 1) : Nat) : Int) by omega, allT_at (by omega), rowT_at (by omega)]
        exact e
      by_cases hneg : lst c k (i + m) < 0
      · rw [if_pos hneg]
        exact hstep _ hnx
      · rw [if_neg hneg, e0, bsome, if_pos (by omega), if_pos (by rw [allT_len]; omega), if_pos (by omega), allT_at (by omega), if_pos (by rw [rowT_len]; omega), rowT_at (by omega), wr (x := costN c i m + lst c k (i + m)) (by omega) (by omega), if_neg (fun x => hno ⟨by omega, x⟩)]
        exact hstep _ hnx
theorem eq_ok {c : List Int} (h : okC c) {k i m : Nat} (hk : k ≤ 8) (hm : i + m ≤ 26) (hl : 0 ≤ lst c (k + 1) i) : (costN c i m + cnv (lst c k (i + m)) = cnv (lst c (k + 1) i)) ↔ okM c k i m = true := by
  have hcr := cost_range h i m hm
  have hlr := lst_range h k (i + m) hm
  have hlr2 := lst_range h (k + 1) i (by omega)
  rw [okM_iff]
  unfold cnv
  rw [if_neg (show ¬ lst c (k + 1) i < 0 by omega)]
  by_cases hneg : lst c k (i + m) < 0
  · rw [if_pos hneg]
    constructor
    · intro x; omega
    · intro x; omega
  · rw [if_neg hneg]
    constructor
    · intro x; exact ⟨by omega, x⟩
    · intro x; exact x.2
theorem recS_step {c : List Int} (h : okC c) {n k i : Nat} (hk : k + 1 ≤ n) (hn : n ≤ 8) (A : List Int) (d m : Nat) (hm : i + (m + 1) + d = 26) (hl : 0 ≤ lst c (k + 1) i) (kk : Nat) :
    spec_BestLayout.l1 (kk + 1) c n (bstT c (n + 1)) A i ((k + 1 : Nat) : Int) (costN c i m) ((m + 1 : Nat) : Int) = if costN c i (m + 1) + cnv (lst c k (i + (m + 1))) = cnv (lst c (k + 1) i) then (if A.length < 17592186044416 then (spec_BestLayout.l0 kk c n (bstT c (n + 1)) (A ++ [((m + 1 : Nat) : Int)]) ((i + (m + 1) : Nat) : Int) (k : Int)) else (none)) else (spec_BestLayout.l1 kk c n (bstT c (n + 1)) A i ((k + 1 : Nat) : Int) (costN c i (m + 1)) (((m + 1 : Nat) : Int) + 1)) := by
  have hc0 := cost_range h i m (by omega)
  have hcr := cost_range h i (m + 1) (by omega)
  have htr := term_range h (j := i + m) (m := m) (by omega) (by omega)
  have hlr := lst_range h k (i + (m + 1)) (by omega)
  have hcl := h.1
  have hmul : ((m + 1 : Nat) : Int) * rd c ((i + m : Nat) : Int) = rd c ((i + m : Nat) : Int) * ((m : Int) + 1) := by rw [Int.mul_comm]; rfl
  have hcs : costN c i m + rd c ((i + m : Nat) : Int) * ((m : Int) + 1) = costN c i (m + 1) := rfl
  have hcb : 0 ≤ cnv (lst c k (i + (m + 1))) ∧ cnv (lst c k (i + (m + 1))) ≤ 1000000000 := by unfold cnv; split <;> omega
  simp only [spec_BestLayout.l1]
  rw [wr (x := (i : Int) + ((m + 1 : Nat) : Int)) (by omega) (by omega), if_pos (by omega), wr (x := (i : Int) + ((m + 1 : Nat) : Int) - 1) (by omega) (by omega), show (i : Int) + ((m + 1 : Nat) : Int) - 1 = ((i + m : Nat) : Int) by omega, if_pos (by omega), if_pos (by omega), wr (x := ((k + 1 : Nat) : Int) - 1) (by omega) (by omega), show ((k + 1 : Nat) : Int) - 1 = (k : Int) by omega, if_pos (by omega), if_pos (by rw [bstT_len]; omega), if_pos (by omega),
    bstT_at (t := k) (by omega), if_pos (by rw [bstR_len]; omega), if_pos (by omega), if_pos (by rw [bstT_len]; omega), if_pos (by omega), bstT_at (t := k + 1) (by omega), if_pos (by rw [bstR_len]; omega), hmul, wr (x := rd c ((i + m : Nat) : Int) * ((m : Int) + 1)) (by omega) (by omega), hcs, wr (x := costN c i (m + 1)) (by omega) (by omega), show (i : Int) + ((m + 1 : Nat) : Int) = ((i + (m + 1) : Nat) : Int) by omega, bstR_at (i := i + (m + 1)) (by omega), bstR_at (i := i) (by omega),
    wr (x := costN c i (m + 1) + cnv (lst c k (i + (m + 1)))) (by omega) (by omega), wr (x := ((m + 1 : Nat) : Int) + 1) (by omega) (by omega)]
theorem recS_hit {c : List Int} (h : okC c) {n k i : Nat} (hk : k + 1 ≤ n) (hn : n ≤ 8) (hl : 0 ≤ lst c (k + 1) i) (A : List Int) (hA : A.length ≤ 100) (r : List Int × Int × Bool) (d m : Nat) (hm : i + (m + 1) + d = 26) (hok : okM c k i (m + 1) = true)
    (hE : Ev (fun kk => spec_BestLayout.l0 kk c n (bstT c (n + 1)) (A ++ [((fstM c k i d (m + 1) : Nat) : Int)]) ((i + fstM c k i d (m + 1) : Nat) : Int) (k : Int)) r) : Ev (fun kk => spec_BestLayout.l1 kk c n (bstT c (n + 1)) A i ((k + 1 : Nat) : Int) (costN c i m) ((m + 1 : Nat) : Int)) r := by
  rw [fstM_ok d (m + 1) hok] at hE
  obtain ⟨K, e⟩ := hE
  refine ev_from K fun kk hkk => ?_
  have e := e kk hkk
  dsimp only at e
  rw [recS_step h hk hn A d m hm hl, if_pos ((eq_ok h (by omega) (by omega) hl).2 hok), if_pos (by omega), e]
theorem recS_l1 {c : List Int} (h : okC c) {n k i : Nat} (hk : k + 1 ≤ n) (hn : n ≤ 8) (hl : 0 ≤ lst c (k + 1) i) (A : List Int) (hA : A.length ≤ 100) (r : List Int × Int × Bool) : ∀ (d m : Nat), i + (m + 1) + d = 26 → (∃ m', m + 1 ≤ m' ∧ m' ≤ m + 1 + d ∧ okM c k i m' = true) →
    Ev (fun kk => spec_BestLayout.l0 kk c n (bstT c (n + 1)) (A ++ [((fstM c k i d (m + 1) : Nat) : Int)]) ((i + fstM c k i d (m + 1) : Nat) : Int) (k : Int)) r → Ev (fun kk => spec_BestLayout.l1 kk c n (bstT c (n + 1)) A i ((k + 1 : Nat) : Int) (costN c i m) ((m + 1 : Nat) : Int)) r := by
  intro d
  induction d with
  | zero =>
    intro m hm hex hE
    obtain ⟨m', a1, a2, a3⟩ := hex
    obtain rfl : m' = m + 1 := by omega
    exact recS_hit h hk hn hl A hA r 0 m hm a3 hE
  | succ d ih =>
    intro m hm hex hE
    by_cases hok : okM c k i (m + 1) = true
    · exact recS_hit h hk hn hl A hA r (d + 1) m hm hok hE
    · have hf : fstM c k i (d + 1) (m + 1) = fstM c k i d (m + 1 + 1) := by rw [fstM, if_neg hok]
      rw [hf] at hE
      obtain ⟨m', a1, a2, a3⟩ := hex
      have hne : m' ≠ m + 1 := fun e => hok (by rw [← e]; exact a3)
      obtain ⟨K, e⟩ := ih (m + 1) (by omega) ⟨m', by omega, by omega, a3⟩ hE
      refine ev_from K fun kk hkk => ?_
      have e := e kk hkk
      rw [show ((m + 1 + 1 : Nat) : Int) = ((m + 1 : Nat) : Int) + 1 from rfl] at e
      dsimp only at e
      rw [recS_step h hk hn A (d + 1) m hm hl, if_neg (fun x => hok ((eq_ok h (by omega) (by omega) hl).1 x)), e]
def recN (c : List Int) : Nat → Nat → List Int → List Int
  | 0, _, A => A
  | k + 1, i, A => recN c k (i + fstM c k i (25 - i) 1) (A ++ [((fstM c k i (25 - i) 1 : Nat) : Int)])
theorem has_m {c : List Int} {k i : Nat} (hi : i ≤ 26) (hl : 0 ≤ lst c (k + 1) i) : i ≤ 25 ∧ ∃ m', 1 ≤ m' ∧ m' ≤ 1 + (25 - i) ∧ okM c k i m' = true := by
  rw [lst] at hl
  obtain ⟨m, h1, h2, h3, h4⟩ := acc_which i (26 - i) hl
  exact ⟨by omega, m, h1, by omega, okM_iff.2 ⟨h3, by rw [lst]; exact h4⟩⟩
theorem recI_l0 {c : List Int} (h : okC c) {n : Nat} (hn : n ≤ 8) : ∀ (k i : Nat) (A : List Int), k ≤ n → i ≤ 26 → 0 ≤ lst c k i → A.length + k ≤ 100 → Ev (fun kk => impl_BestLayout.l0 kk c n (allT c n 0) A i (k : Int)) (recN c k i A, lst c n 0, true)
  | 0, i, A, hk, hi, hl, hA => by
    refine ev_from 0 fun kk _ => ?_
    simp only [impl_BestLayout.l0]
    rw [if_neg (by omega), if_pos (by rw [allT_len]; omega), if_pos (by omega), show (0 : Int) = ((0 : Nat) : Int) from rfl, allT_at (by omega), if_pos (by rw [rowT_len]; omega), rowT_at (Nat.le_refl _), recN]
  | k + 1, i, A, hk, hi, hl, hA => by
    obtain ⟨hi25, hex⟩ := has_m hi hl
    obtain ⟨s1, s2, s3⟩ := fstM_spec (25 - i) 1 hex
    have ih := recI_l0 h hn k (i + fstM c k i (25 - i) 1) (A ++ [((fstM c k i (25 - i) 1 : Nat) : Int)]) (by omega) (by omega) (okM_iff.1 s1).1 (by rw [List.length_append, List.length_singleton]; omega)
    obtain ⟨K, e⟩ := recI_l1 h (k := k) (i := i) hk hn A (by omega) _ (25 - i) 1 (by omega) (Nat.le_refl _) hex ih
    refine ev_from K fun kk hkk => ?_
    have e := e kk hkk
    dsimp only at e
    simp only [impl_BestLayout.l0]
    rw [if_pos (by omega), wr (x := (i : Int) + 1) (by omega) (by omega), if_pos (by omega), if_pos (by rw [allT_len]; omega), wr (x := ((k + 1 : Nat) : Int) - 1) (by omega) (by omega), show ((k + 1 : Nat) : Int) - 1 = (k : Int) by omega, if_pos (by omega), show (i : Int) + 1 = ((i + 1 : Nat) : Int) from rfl, allT_at (by omega), if_pos (by rw [rowT_len]; omega), rowT_at (by omega), recN]
    exact e
theorem recS_l0 {c : List Int} (h : okC c) {n : Nat} (hn : n ≤ 8) (hl0 : 0 ≤ lst c n 0) : ∀ (k i : Nat) (A : List Int), k ≤ n → i ≤ 26 → 0 ≤ lst c k i → A.length + k ≤ 100 → Ev (fun kk => spec_BestLayout.l0 kk c n (bstT c (n + 1)) A i (k : Int)) (recN c k i A, lst c n 0, true)
  | 0, i, A, hk, hi, hl, hA => by
    refine ev_from 0 fun kk _ => ?_
    simp only [spec_BestLayout.l0]
    rw [if_neg (by omega), if_pos (by omega), if_pos (by rw [bstT_len]; omega), bstT_at (by omega), if_pos (by rw [bstR_len]; omega), show (0 : Int) = ((0 : Nat) : Int) from rfl, bstR_at (by omega), recN]
    unfold cnv
    rw [if_neg (by omega)]
  | k + 1, i, A, hk, hi, hl, hA => by
    obtain ⟨hi25, hex⟩ := has_m hi hl
    obtain ⟨s1, s2, s3⟩ := fstM_spec (25 - i) 1 hex
    have ih := recS_l0 h hn hl0 k (i + fstM c k i (25 - i) 1) (A ++ [((fstM c k i (25 - i) 1 : Nat) : Int)]) (by omega) (by omega) (okM_iff.1 s1).1 (by rw [List.length_append, List.length_singleton]; omega)
    obtain ⟨K, e⟩ := recS_l1 h (k := k) (i := i) hk hn hl A (by omega) _ (25 - i) 0 (by omega) hex ih
    refine ev_from K fun kk hkk => ?_
    have e := e kk hkk
    dsimp only at e
    simp only [spec_BestLayout.l0]
    rw [if_pos (by omega), recN]
    exact e
def bestT (c : List Int) (n : Int) : List Int × Int × Bool := if (decide (c.length = 26) && (allB c && (decide (1 ≤ n) && decide (n ≤ 8)))) = true then (recN c n.toNat 0 [], lst c n.toNat 0, true) else ([], 0, false)
theorem okC_of {c : List Int} (h1 : c.length = 26) (h2 : allB c = true) : okC c := by
  refine ⟨h1, fun j hj => ?_⟩
  have hm : rd c (j : Int) ∈ c := by
    unfold rd
    rw [Int.toNat_natCast, List.getD_eq_getElem?_getD, List.getElem?_eq_getElem (by omega)]
    exact List.getElem_mem _
  exact allB_iff.1 h2 _ hm
theorem bestI_ev (c : List Int) (n : Int) : Ev (fun kk => impl_BestLayout.f kk c n) (bestT c n) := by
  unfold bestT
  by_cases h1 : c.length = 26
  · cases h2 : allB c with
    | false =>
      refine ⟨1, fun kk hkk => ?_⟩
      obtain ⟨kk, rfl⟩ : ∃ m, kk = m + 1 := ⟨kk - 1, by omega⟩
      dsimp only
      unfold impl_BestLayout.f
      rw [contains_is, bsome, if_pos (by omega), h2, if_pos (by rfl)]
      simp [impl_BestLayout.j0]
    | true =>
      cases h3 : (decide (1 ≤ n) && decide (n ≤ 8)) with
      | false =>
        refine ⟨1, fun kk hkk => ?_⟩
        obtain ⟨kk, rfl⟩ : ∃ m, kk = m + 1 := ⟨kk - 1, by omega⟩
        dsimp only
        unfold impl_BestLayout.f
        rw [contains_is, bsome, if_pos (by omega), h2, if_neg (by simp), in_is, bsome, h3]
        simp [impl_BestLayout.j0]
      | true =>
        rw [Bool.and_eq_true, decide_eq_true_eq, decide_eq_true_eq] at h3
        have h := okC_of h1 h2
        obtain ⟨m, rfl⟩ : ∃ m : Nat, n = ((m + 1 : Nat) : Int) := ⟨(n - 1).toNat, by omega⟩
        have hl := lst_ok h m 0 (by omega)
        obtain ⟨K1, e1⟩ := leastFrom_ev h (n := m + 1) (by omega)
        obtain ⟨K2, e2⟩ := recI_l0 h (n := m + 1) (by omega) (m + 1) 0 [] (Nat.le_refl _) (by omega) hl (by simp; omega)
        rw [if_pos (by simp [h1] <;> omega), Int.toNat_natCast]
        refine ⟨K1 + K2 + 1, fun kk hkk => ?_⟩
        obtain ⟨kk, rfl⟩ : ∃ m, kk = m + 1 := ⟨kk - 1, by omega⟩
        have e1 := e1 kk (by omega)
        have e2 := e2 kk (by omega)
        dsimp only at e1 e2 ⊢
        unfold impl_BestLayout.f
        rw [contains_is, bsome, if_pos (by omega), h2, if_neg (by simp), in_is, bsome]
        simp only [impl_BestLayout.j0]
        rw [show (decide (1 ≤ ((m + 1 : Nat) : Int)) && decide (((m + 1 : Nat) : Int) ≤ 8)) = true by rw [Bool.and_eq_true, decide_eq_true_eq, decide_eq_true_eq]; exact h3, if_neg (by simp), e1, bsome]
        exact e2
  · refine ⟨1, fun kk hkk => ?_⟩
    obtain ⟨kk, rfl⟩ : ∃ m, kk = m + 1 := ⟨kk - 1, by omega⟩
    dsimp only
    unfold impl_BestLayout.f
    rw [contains_is, bsome, if_neg (by omega)]
    simp [impl_BestLayout.j0, h1]
theorem bestS_ev (c : List Int) (hc : c.length ≤ 1099511627776) (n : Int) : Ev (fun kk => spec_BestLayout.f kk c n) (bestT c n) := by
  obtain ⟨K0, e0⟩ := l1All_ev c hc
  unfold bestT
  by_cases h1 : c.length = 26
  · cases h2 : allB c with
    | false =>
      refine ⟨K0 + 1, fun kk hkk => ?_⟩
      have e0 := e0 kk (by omega)
      rw [h2] at e0
      obtain ⟨kk, rfl⟩ : ∃ m, kk = m + 1 := ⟨kk - 1, by omega⟩
      dsimp only at e0 ⊢
      unfold spec_BestLayout.f
      rw [if_pos (by omega), e0, bsome, if_neg (by simp)]
      simp [spec_BestLayout.j0]
    | true =>
      cases h3 : (decide (1 ≤ n) && decide (n ≤ 8)) with
      | false =>
        refine ⟨K0 + 1, fun kk hkk => ?_⟩
        have e0 := e0 kk (by omega)
        rw [h2] at e0
        obtain ⟨kk, rfl⟩ : ∃ m, kk = m + 1 := ⟨kk - 1, by omega⟩
        dsimp only at e0 ⊢
        unfold spec_BestLayout.f
        rw [if_pos (by omega), e0, bsome, if_pos rfl, l1In_is, bsome, h3]
        simp [spec_BestLayout.j0]
      | true =>
        rw [Bool.and_eq_true, decide_eq_true_eq, decide_eq_true_eq] at h3
        have h := okC_of h1 h2
        obtain ⟨m, rfl⟩ : ∃ m : Nat, n = ((m + 1 : Nat) : Int) := ⟨(n - 1).toNat, by omega⟩
        have hl := lst_ok h m 0 (by omega)
        obtain ⟨K1, e1⟩ := prBest_ev h (n := m + 1) (by omega)
        obtain ⟨K2, e2⟩ := recS_l0 h (n := m + 1) (by omega) hl (m + 1) 0 [] (Nat.le_refl _) (by omega) hl (by simp; omega)
        rw [if_pos (by simp [h1] <;> omega), Int.toNat_natCast]
        refine ⟨K0 + K1 + K2 + 1, fun kk hkk => ?_⟩
        have e0 := e0 kk (by omega)
        rw [h2] at e0
        obtain ⟨kk, rfl⟩ : ∃ m, kk = m + 1 := ⟨kk - 1, by omega⟩
        have e1 := e1 kk (by omega)
        have e2 := e2 kk (by omega)
        dsimp only at e0 e1 e2 ⊢
        unfold spec_BestLayout.f
        rw [if_pos (by omega), e0, bsome, if_pos rfl, l1In_is, bsome]
        simp only [spec_BestLayout.j0]
        rw [show (decide (1 ≤ ((m + 1 : Nat) : Int)) && decide (((m + 1 : Nat) : Int) ≤ 8)) = true by rw [Bool.and_eq_true, decide_eq_true_eq, decide_eq_true_eq]; exact h3, if_neg (by simp), e1, bsome]
        exact e2
  · refine ⟨1, fun kk hkk => ?_⟩
    obtain ⟨kk, rfl⟩ : ∃ m, kk = m + 1 := ⟨kk - 1, by omega⟩
    dsimp only
    unfold spec_BestLayout.f
    rw [if_neg (by omega)]
    simp [spec_BestLayout.j0, h1]
end Go.Proofs.Ytlmnhokaagkocaa.Pu

namespace Go.Proofs.Ytlmnhokaagkocaa.Pure
open Go.RowKit Go.Proofs.Ytlmnhokaagkocaa.P Go.Proofs.Ytlmnhokaagkocaa.Pu Go.Proofs.YtlmnhokaagkocaaW.PrintWords Go.Proofs.YtlmnhokaagkocaaW.PrintLast

theorem eqI_big (L : List Int) (hl : L.length ≤ 1048576) : Ev (fun k => laws_eqIntS.f k L L) true := by
  obtain ⟨K, e⟩ := eqInt_l0 L.length [] L L rfl (by simp; omega) rfl
  exact ⟨K, fun k hk => by have e := e k hk; dsimp only at e ⊢; unfold laws_eqIntS.f; rw [if_pos rfl]; simpa using e⟩
theorem markI_big (L : List Int) (hl : L.length ≤ 1048576) : Ev (fun k => laws_markIntS.f k L 1) (1 + L.length, upN 1 L.length) := by
  obtain ⟨K, e⟩ := mark_l0 L.length [] L 1 rfl (by omega) (by omega) (by simp; omega)
  exact ⟨K, fun k hk => by have e := e k hk; dsimp only at e; unfold laws_markIntS.f; simpa using e⟩
theorem rec_length (c : List Int) : ∀ (k i : Nat) (A : List Int), (recN c k i A).length = A.length + k
  | 0, _, _ => rfl
  | k + 1, i, A => by rw [recN, rec_length c k, List.length_append, List.length_singleton]; omega
theorem best_small (c : List Int) (n : Int) : (bestT c n).1.length ≤ 8 := by
  unfold bestT
  split
  · rename_i h
    simp only [Bool.and_eq_true, decide_eq_true_eq] at h
    show (recN c n.toNat 0 []).length ≤ 8
    rw [rec_length, List.length_nil]
    omega
  · simp
theorem FnExactBestLayout : laws_FnExactBestLayout.Pure := by
  intro L n _ _ _ _
  by_cases hz : (L.length : Int) > 1048576
  · exact ⟨0, by unfold laws_FnExactBestLayout.f; rw [if_pos hz]⟩
  have hb := best_small L n
  obtain ⟨K1, h1⟩ := toI_ev L (by omega)
  obtain ⟨K2, h2⟩ := bestS_ev L (by omega) n
  obtain ⟨K3, h3⟩ := bestI_ev L n
  obtain ⟨K4, h4⟩ := eqInt_ev (bestT L n).1 (by omega)
  obtain ⟨K5, h5⟩ : ∃ K, ∀ k, K ≤ k → laws_eqIntS.f k L L = some true := eqI_big L (by omega)
  obtain ⟨K6, h6⟩ : ∃ K, ∀ k, K ≤ k → laws_markIntS.f k L 1 = some (1 + (L.length : Int), upN 1 L.length) := markI_big L (by omega)
  obtain ⟨K7, h7⟩ := mark_ev (bestT L n).1 (by omega)
  obtain ⟨K8, h8⟩ := held_ev (bestT L n).1.length (by omega)
  generalize hK : K1 + K2 + K3 + K4 + K5 + K6 + K7 + K8 = K
  refine ⟨K + 3, ?_⟩
  have a1 := h1 (K + 3) (by omega)
  have b1 := h1 (K + 2) (by omega)
  have c1 := h1 (K + 1) (by omega)
  have a2 := h2 (K + 3) (by omega)
  have a3 := h3 (K + 3) (by omega)
  have c3 := h3 (K + 1) (by omega)
  have a4 := h4 (K + 3) (by omega)
  have b4 := h4 (K + 2) (by omega)
  have c4 := h4 (K + 1) (by omega)
  have b5 := h5 (K + 2) (by omega)
  have b6 := h6 (K + 2) (by omega)
  have c7 := h7 (K + 1) (by omega)
  have c8 := h8 (K + 1) (by omega)
  have d8 := h8 K (by omega)
  dsimp only at a1 b1 c1 a2 a3 c3 a4 b4 c4 c7 c8 d8
  unfold laws_FnExactBestLayout.f
  rw [if_neg hz, a1, bsome, a2, bsome, bsome, a3, bsome, a4, bsome, if_pos rfl, if_pos rfl]
  simp only [laws_FnExactBestLayout.j0]
  rw [if_neg (by simp), b1, bsome, b5, bsome, if_pos rfl, b6, bsome, if_neg (by show ¬ (1 + (L.length : Int)) < 0; omega), b4, bsome, if_pos rfl, if_pos trivial]
  simp only [laws_FnExactBestLayout.j1]
  rw [if_neg (by simp), c7, bsome, c8, bsome, if_neg (by omega), if_pos rfl, c1, bsome, c3, bsome, c4, bsome, if_pos rfl, if_pos rfl]
  simp only [laws_FnExactBestLayout.j2]
  rw [if_neg (by simp), d8, bsome, if_neg (by omega), if_pos rfl]
end Go.Proofs.Ytlmnhokaagkocaa.Pure

