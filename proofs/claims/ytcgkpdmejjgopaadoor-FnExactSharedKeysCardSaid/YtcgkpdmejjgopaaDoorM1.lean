/- Parts of the proof (printed walks, lemmas of our own, contracts of the library laid for this program), merged into one text by wip/mclaim.py. Conditions: each theorem's own. -/
import Derived.Test.YtcgkpdmejjgopaaDoorM0
import Derived.Lib.SlTrimSet
namespace Go.Proofs.YtcgkpdmejjgopaaDoor.P
open Go.RowKit Go.Proofs.YtcgkpdmejjgopaaDoorW.PrintWords Go.Proofs.YtcgkpdmejjgopaaDoorW.PrintLast Go.Proofs.YtcgkpdmejjgopaaDoorW.PrintMore
attribute [local go_sem] max2_int min2_int max_two min_two max_three min_three max_four min_four   -- for this text's walks alone
set_option linter.unusedVariables false
set_option linter.unusedSimpArgs false

/-! ### impl_SharedKeys: function 7 -/
def impl_SharedKeys.l0 : Nat → List ByteArray → List (List ByteArray) → List ByteArray → Int → Int → Option ((List (List ByteArray)) × Bool)
  | 0, _, _, _, _, _ => none
  | k + 1, x0, x4, x12, x13, x14 => if x14 < x13 then (if 0 ≤ x14 then (if x14 < (x12.length : Int) then ((impl_keysOf.f k (rdOf ByteArray.empty x12 x14)).bind fun t164 => ((impl_wordsFor.f k x0 t164).bind fun t165 => (if (t165.length : Int) > 1 then (if 0 < (t165.length : Int) then (if (rdOf ByteArray.empty t165 0).toList = (rdOf ByteArray.empty x12 x14).toList then (if x4.length < 5864062014805 then (impl_SharedKeys.l0 k x0 (x4 ++ [t165]) x12 x13 (wrap64 (x14 + 1))) else (none)) else (impl_SharedKeys.l0 k x0 x4 x12 x13 (wrap64 (x14 + 1)))) else (none)) else (impl_SharedKeys.l0 k x0 x4 x12 x13 (wrap64 (x14 + 1)))))) else (none)) else (none)) else (some (x4, true))
def impl_SharedKeys.f (k : Nat) (l0 : List ByteArray) : Option ((List (List ByteArray)) × Bool) := (impl_IsDictionary.f k l0).bind fun t159 => (if t159 = true then (impl_SharedKeys.l0 k l0 (([] : List (List ByteArray))) l0 (l0.length : Int) 0) else (some (([] : List (List ByteArray)), false)))
theorem impl_SharedKeys.mono_l : ∀ k, (∀ y0 y1 y2 y3 y4, LeO (impl_SharedKeys.l0 k y0 y1 y2 y3 y4) (impl_SharedKeys.l0 (k + 1) y0 y1 y2 y3 y4))
  | 0 => fun _ _ _ _ _ r h => by simp [impl_SharedKeys.l0] at h
  | k + 1 => by
    have ih0 := impl_SharedKeys.mono_l k
    · intro y0 y1 y2 y3 y4
      unfold impl_SharedKeys.l0
      repeat' first
      | (with_reducible exact ih0 _ _ _ _ _)
      | (with_reducible exact impl_IsDictionary.mono _ _)
      | (with_reducible exact impl_keysOf.mono _ _)
      | (with_reducible exact impl_wordsFor.mono _ _ _)
      | (with_reducible exact LeO.refl _)
      | (with_reducible exact LeO.none _)
      | (with_reducible refine LeO.ite ?_ ?_)
      | (with_reducible refine LeO.bind ?_ (fun _ => ?_))
      | exact ih0 _ _ _ _ _
      | exact impl_IsDictionary.mono _ _
      | exact impl_keysOf.mono _ _
      | exact impl_wordsFor.mono _ _ _
      | exact LeO.none _
      | refine LeO.ite ?_ ?_
      | refine LeO.bind ?_ (fun _ => ?_)
theorem impl_SharedKeys.mono : ∀ a0 k, LeO (impl_SharedKeys.f k a0) (impl_SharedKeys.f (k + 1) a0) := by
  intro a0 k
  have ih0 := impl_SharedKeys.mono_l k
  unfold impl_SharedKeys.f
  repeat' first
      | (with_reducible exact ih0 _ _ _ _ _)
      | (with_reducible exact impl_IsDictionary.mono _ _)
      | (with_reducible exact impl_keysOf.mono _ _)
      | (with_reducible exact impl_wordsFor.mono _ _ _)
      | (with_reducible exact LeO.refl _)
      | (with_reducible exact LeO.none _)
      | (with_reducible refine LeO.ite ?_ ?_)
      | (with_reducible refine LeO.bind ?_ (fun _ => ?_))
      | exact ih0 _ _ _ _ _
      | exact impl_IsDictionary.mono _ _
      | exact impl_keysOf.mono _ _
      | exact impl_wordsFor.mono _ _ _
      | exact LeO.none _
      | refine LeO.ite ?_ ?_
      | refine LeO.bind ?_ (fun _ => ?_)
set_option maxHeartbeats 8000000 in
set_option maxRecDepth 100000 in
theorem impl_SharedKeys.calls (k : Nat) (A0 : Option Addr) (c0 : Nat) (l0 : List ByteArray) (r1 : List (List ByteArray)) (r2 : Bool) (w : World) (hr0 : Kd.C Kd.string w A0 l0.length l0) (hc0 : l0.length ≤ c0) (h : impl_SharedKeys.f k l0 = some (r1, r2)) :
    Calls Tryd.prog 7 #[.slice A0 l0.length c0] w fun e w' => ∃ v0_ : Value, e = .returned (.tuple #[v0_, .bool r2]) ∧ Kd.S (Kd.slice 9 Kd.string) 22 w' w.heap.size (fun _ => True) v0_ r1 ∧ Below w.heap.size w w' := by
  have HR0 := Aside0.mk hr0
  have HC0 := Aside0.mk hc0
  clear hr0 hc0
  have HB := Aside0.mk (Below.refl w.heap.size w)
  have H : ((impl_IsDictionary.f k l0).bind fun t159 => (if t159 = true then (impl_SharedKeys.l0 k l0 (([] : List (List ByteArray))) l0 (l0.length : Int) 0) else (some (([] : List (List ByteArray)), false)))) = some (r1, r2) := h
  clear h
  replace H := Option.bind_eq_some_iff.mp H
  obtain ⟨t159, A20, H⟩ := H
  replace H : (if t159 = true then (impl_SharedKeys.l0 k l0 (([] : List (List ByteArray))) l0 (l0.length : Int) 0) else (some (([] : List (List ByteArray)), false))) = some (r1, r2) := H
  have A2 := Aside0.mk A20
  clear A20
  by_cases c3 : t159 = true
  · subst c3
    have H1 : (impl_SharedKeys.l0 k l0 (([] : List (List ByteArray))) l0 (l0.length : Int) 0) = some (r1, r2) := by rw [if_pos rfl] at H; exact H
    clear H
    have H := H1
    clear H1
    obtain ⟨y160, hy160⟩ : ∃ y_ : List (List ByteArray), y_ = (([] : List (List ByteArray))) := ⟨_, rfl⟩
    replace H : (impl_SharedKeys.l0 k l0 y160 l0 (l0.length : Int) 0) = some (r1, r2) := by first | (rw [hy160]; with_reducible exact H) | (have H2_ := (Option.bind_some _ _).symm.trans H; rw [hy160]; with_reducible exact H2_) | (have H2_ := (Option.bind_some _ _).symm.trans H; with_reducible exact H2_) | with_reducible exact H | (rw [hy160]; exact H) | exact H
    have Ny160 := Aside0.mk hy160
    clear hy160
    have H' := Aside0.mk H
    clear H
    go_enter Tryd.func7, Tryd.ntmps7
    go_wp2_with (first | ((with_reducible refine gate_callee (f := 16) rfl ?_); refine goesL_ (some 9) rfl rfl Tryd.func16 (by kernel_rfl) rfl #[.slice A0 l0.length c0] rfl (by (try simp only [List.map_toArray, List.map_cons, List.map_nil]); first | done | rfl | (simp only [List.length_drop, List.length_take]; rfl)) ?_; (with_reducible refine (impl_IsDictionary.calls k _ _ l0 true _ ?side1 ?side2 A2.out).mono ?_); (case side1 => repeat (first | exact HR0.out | (with_reducible refine Kd.C_alloc ?_ _) | (with_reducible refine Kd.C_drewN ?_ _) | (with_reducible refine Kd.C_drew ?_))); (case side2 => exact HC0.out); rintro e w4 ⟨rfl, hb⟩; refine ⟨_, rfl, ?_⟩; have n0_ := Aside0.mk (below_step (by repeat (first | (with_reducible first | exact HB.out | apply below_alloc | apply pw_below_drewN | apply below_drew1) | exact HB.out)) hb); clear HB; have HB := n0_; clear n0_; (try clear hb); (try clear hb2); (try clear hk); (try clear hi)) | ((with_reducible refine gate_dst (N := 11) rfl ?_); refine Kd.S_lit (Kd.slice 9 Kd.string) _ 22 ?hg (N := 11) ?hd (xs := ([] : List (List ByteArray))) (inner := []) (ok := fun _ => True) (okp := fun _ => True) ?hr ?hp (fun _ hk => hk) trivial (Below.refl _ _) (Nat.le_refl _) (by simp) ?_; (case hd => rfl); (case hg => rfl); (case hr => first | (go_simp; done) | (go_simp; rfl)); (case hp => exact (Reps.none _ _)); intro v161 w5 ho6 hb hg_ hnew_; clear hg_ hnew_; (first | rw [← Ny160.out] at ho6 | (simp only [Int.reduceToNat] at ho6; rw [← Ny160.out] at ho6)); have n0_ := Aside0.mk (Kd.S_lower ho6 (below_size (by repeat (first | (with_reducible first | exact HB.out | apply below_alloc | apply pw_below_drewN | apply below_drew1) | exact HB.out)))); have n1_ := Aside0.mk (below_step (by repeat (first | (with_reducible first | exact HB.out | apply below_alloc | apply pw_below_drewN | apply below_drew1) | exact HB.out)) hb); clear HB; have HO162 := n0_; have HB := n1_; clear n0_ n1_; clear hb ho6))
    go_loopg [4, 14] k (fun kq v4 v14 w' => ∃ (x4_1 : List (List ByteArray)) (x14_1 : Int), v14 = .int .i64 x14_1 ∧ Aside0 (impl_SharedKeys.l0 kq l0 x4_1 l0 (l0.length : Int) x14_1 = some (r1, r2)) ∧ Aside0 (kq ≤ k) ∧ Aside0 (Kd.S (Kd.slice 9 Kd.string) 22 w' w.heap.size (fun _ => True) v4 x4_1) ∧ Aside0 (Below w.heap.size w w'))
    case atStart => exact ⟨(y160), (0), (by first | rfl | (simp; done) | (simp [*]; done)), H', ⟨Nat.le_refl _⟩, ⟨by (with_reducible repeat (first | apply Kd.S_alloc | apply Kd.S_drewN | apply Kd.S_drew)); exact HO162.out⟩, ⟨by repeat (first | (with_reducible first | exact HB.out | apply below_alloc | apply pw_below_drewN | apply below_drew1) | exact HB.out)⟩⟩
    case round =>
      clear H'
      try clear c1
      try clear p2
      try clear c3
      obtain ⟨x4_1, x14_1, rfl, HA, HK1, HO_4, HB⟩ := hrel
      cases gk with
      | zero => exact absurd HA.out (by simp [impl_SharedKeys.l0])
      | succ k1 =>
        have H := HA.out
        clear HA
        simp only [impl_SharedKeys.l0] at H
        by_cases c7 : x14_1 < (l0.length : Int)
        · rw [if_pos c7] at H
          have c7b0 : decide (x14_1 < (l0.length : Int)) = true := decide_eq_true c7
          clear c7
          by_cases c8 : 0 ≤ x14_1
          · rw [if_pos c8] at H
            have c8b0 : decide (0 ≤ x14_1) = true := decide_eq_true c8
            clear c8
            by_cases c9 : x14_1 < (l0.length : Int)
            · rw [if_pos c9] at H
              have c9b0 : decide (x14_1 < (l0.length : Int)) = true := decide_eq_true c9
              clear c9
              replace H := Option.bind_eq_some_iff.mp H
              obtain ⟨t164, A100, H⟩ := H
              replace H : ((impl_wordsFor.f k1 l0 t164).bind fun t165 => (if (t165.length : Int) > 1 then (if 0 < (t165.length : Int) then (if (rdOf ByteArray.empty t165 0).toList = (rdOf ByteArray.empty l0 x14_1).toList then (if x4_1.length < 5864062014805 then (impl_SharedKeys.l0 k1 l0 (x4_1 ++ [t165]) l0 (l0.length : Int) (wrap64 (x14_1 + 1))) else (none)) else (impl_SharedKeys.l0 k1 l0 x4_1 l0 (l0.length : Int) (wrap64 (x14_1 + 1)))) else (none)) else (impl_SharedKeys.l0 k1 l0 x4_1 l0 (l0.length : Int) (wrap64 (x14_1 + 1))))) = some (r1, r2) := H
              have A10 := Aside0.mk A100
              clear A100
              replace H := Option.bind_eq_some_iff.mp H
              obtain ⟨t165, A110, H⟩ := H
              replace H : (if (t165.length : Int) > 1 then (if 0 < (t165.length : Int) then (if (rdOf ByteArray.empty t165 0).toList = (rdOf ByteArray.empty l0 x14_1).toList then (if x4_1.length < 5864062014805 then (impl_SharedKeys.l0 k1 l0 (x4_1 ++ [t165]) l0 (l0.length : Int) (wrap64 (x14_1 + 1))) else (none)) else (impl_SharedKeys.l0 k1 l0 x4_1 l0 (l0.length : Int) (wrap64 (x14_1 + 1)))) else (none)) else (impl_SharedKeys.l0 k1 l0 x4_1 l0 (l0.length : Int) (wrap64 (x14_1 + 1)))) = some (r1, r2) := H
              have A11 := Aside0.mk A110
              clear A110
              by_cases c12 : (t165.length : Int) > 1
              · rw [if_pos c12] at H
                have c12b0 : decide (1 < (t165.length : Int)) = true := decide_eq_true c12
                have c12b1 : decide (1 < t165.length) = true := decide_eq_true (by omega)
                clear c12
                by_cases c13 : 0 < (t165.length : Int)
                · rw [if_pos c13] at H
                  have c13b0 : decide (0 < (t165.length : Int)) = true := decide_eq_true c13
                  have c13b1 : decide (0 < t165.length) = true := decide_eq_true (by omega)
                  clear c13
                  by_cases c14 : (rdOf ByteArray.empty t165 0).toList = (rdOf ByteArray.empty l0 x14_1).toList
                  · rw [if_pos c14] at H
                    have c14b0 : ((rdOf ByteArray.empty t165 0).toList == (rdOf ByteArray.empty l0 x14_1).toList) = true := beq_iff_eq.mpr c14
                    have c14b1 : ((rdOf ByteArray.empty t165 0).toList != (rdOf ByteArray.empty l0 x14_1).toList) = false := bne_eq_false_iff_eq.mpr c14
                    clear c14
                    by_cases c15 : x4_1.length < 5864062014805
                    · rw [if_pos c15] at H
                      have LMc15 := Aside0.mk c15
                      clear c15
                      obtain ⟨y169, hy169⟩ : ∃ y_ : List (List ByteArray), y_ = (x4_1 ++ [t165]) := ⟨_, rfl⟩
                      replace H : (impl_SharedKeys.l0 k1 l0 y169 l0 (l0.length : Int) (wrap64 (x14_1 + 1))) = some (r1, r2) := by first | (rw [hy169]; with_reducible exact H) | (have H2_ := (Option.bind_some _ _).symm.trans H; rw [hy169]; with_reducible exact H2_) | (have H2_ := (Option.bind_some _ _).symm.trans H; with_reducible exact H2_) | with_reducible exact H | (rw [hy169]; exact H) | exact H
                      have Ny169 := Aside0.mk hy169
                      clear hy169
                      have H' := Aside0.mk H
                      clear H
                      have p163 : 0 ≤ (x14_1 : Int) := of_decide_eq_true (by first | (with_reducible assumption) | assumption)
                      have q163 : x14_1 < (l0.length : Int) := of_decide_eq_true (by first | (with_reducible assumption) | assumption)
                      obtain ⟨ad163, e163, hx163_0⟩ := Kd.at_string HR0.out x14_1 p163 q163
                      cases e163
                      replace hx163_0 := (HB.out.cell (World.block_lt_of_cell? w _ hx163_0)).trans hx163_0
                      replace p163 := eq_true p163
                      replace q163 := eq_true q163
                      go_wp2_with (first | ((with_reducible refine gate_callee (f := 18) rfl ?_); refine goesL_ (some 20) rfl rfl Tryd.func18 (by kernel_rfl) rfl #[.string (rdOf ByteArray.empty l0 x14_1)] rfl (by (try simp only [List.map_toArray, List.map_cons, List.map_nil]); first | done | rfl | (simp only [List.length_drop, List.length_take]; rfl)) ?_; (with_reducible refine (impl_keysOf.calls k1 (rdOf ByteArray.empty l0 x14_1) t164 _ A10.out).mono ?_); rintro e w16 ⟨rfl, hb⟩; refine ⟨_, rfl, ?_⟩; have n0_ := Aside0.mk (Kd.S_below (by (with_reducible repeat (first | apply Kd.S_alloc | apply Kd.S_drewN | apply Kd.S_drew)); exact HO_4.out) hb); have n1_ := Aside0.mk (below_step (by repeat (first | (with_reducible first | exact HB.out | apply below_alloc | apply pw_below_drewN | apply below_drew1) | exact HB.out)) hb); clear HO_4; clear HB; have HO_4 := n0_; have HB := n1_; clear n0_ n1_; (try clear hb); (try clear hb2); (try clear hk); (try clear hi)) | ((with_reducible refine gate_callee (f := 17) rfl ?_); refine goesL_ (some 21) rfl rfl Tryd.func17 (by kernel_rfl) rfl #[.slice (some ad163) l0.length c0, .string t164] rfl (by (try simp only [List.map_toArray, List.map_cons, List.map_nil]); first | done | rfl | (simp only [List.length_drop, List.length_take]; rfl)) ?_; (with_reducible refine (impl_wordsFor.calls k1 _ _ l0 t164 t165 _ ?side1 ?side2 A11.out).mono ?_); (case side1 => repeat (first | exact (Kd.C_below HR0.out HB.out) | (with_reducible refine Kd.C_alloc ?_ _) | (with_reducible refine Kd.C_drewN ?_ _) | (with_reducible refine Kd.C_drew ?_))); (case side2 => exact HC0.out); rintro e w17 ⟨v166, rfl, ho0, hb⟩; refine ⟨_, rfl, ?_⟩; have n0_ := Aside0.mk (Kd.S_elder' (by (with_reducible repeat (first | apply Kd.S_alloc | apply Kd.S_drewN | apply Kd.S_drew)); exact HO_4.out) (Kd.R_base ho0) hb); have n1_ := Aside0.mk (Kd.R_lower ho0 (below_size (by repeat (first | (with_reducible first | exact HB.out | apply below_alloc | apply pw_below_drewN | apply below_drew1) | exact HB.out)))); have n2_ := Aside0.mk (below_step (by repeat (first | (with_reducible first | exact HB.out | apply below_alloc | apply pw_below_drewN | apply below_drew1) | exact HB.out)) hb); clear HO_4; clear HB; have HO_4 := n0_; have HO167 := n1_; have HB := n2_; clear n0_ n1_ n2_; (try clear hb); (try clear hb2); (try clear hk); (try clear hi); (try clear ho0); obtain ⟨Ao18, co18, eo18⟩ := Kd.R_slice HO167.out; subst eo18; have p168 : 0 ≤ (0 : Int) := (by omega); have q168 : 0 < (t165.length : Int) := of_decide_eq_true (by first | (with_reducible assumption) | assumption); obtain ⟨ad168, e168, hx168_0⟩ := Kd.at_string (Kd.R_reads' HO167.out).2.2 0 p168 q168; cases e168; have qi168 : (0 < t165.length) = True := eq_true (by omega); (try rw [show ((0 : Int)).toNat = 0 from rfl] at hx168_0); (try rw [Addr.add_zero'] at hx168_0); replace p168 := eq_true p168; replace q168 := eq_true q168) | ((with_reducible refine gate_builtin (b := .append) (xs := #[.tmp 32, .tmp 34]) rfl ?_); at_builtin; refine Kd.S_append (Kd.slice 9 Kd.string) (w0 := w) w.heap.size rfl (.tmp 32) (.tmp 34) 24 22 (.slice none 0 0) 24 rfl Tryd.underlying24 info22 rfl (by decide) (by omega) u4 x4_1 t165 [.slice (some ad168) t165.length co18] (fun _ => True) (fun k_ => some k_ = (.slice (some ad168) t165.length co18 : Value).ownBlock) rfl rfl ?aP (fun k_ hk_ => ((Kd.R_mono (ok' := fun k_ => ((fun _ => True)) k_ ∧ some k_ ≠ (u4 : Value).ownBlock) (Kd.R_apart' (HO167.out) (Kd.S_typed HO_4.out) (by decide)) (fun k_ hk => ⟨trivial, hk.2⟩))).1 k_ hk_.symm) ?aF ?aO ?aB ?aS ?aL ?_; (case aP => exact Kd.M_row (Kd.R_mono (Kd.R_tight rfl (Kd.R_mono (ok' := fun k_ => ((fun _ => True)) k_ ∧ some k_ ≠ (u4 : Value).ownBlock) (Kd.R_apart' (HO167.out) (Kd.S_typed HO_4.out) (by decide)) (fun k_ hk => ⟨trivial, hk.2⟩))) (fun _ h_ => h_))); (case aB => exact (by repeat (first | (with_reducible first | exact HB.out | apply below_alloc | apply pw_below_drewN | apply below_drew1) | exact HB.out))); (case aF => exact (fun _ _ => trivial)); (case aO => exact (by (with_reducible repeat (first | apply Kd.S_alloc | apply Kd.S_drewN | apply Kd.S_drew)); exact Kd.S_mono HO_4.out (fun k_ hk => ⟨trivial, fun e_ => hk.2 e_⟩))); (case aS => exact (below_size (by repeat (first | (with_reducible first | exact HB.out | apply below_alloc | apply pw_below_drewN | apply below_drew1) | exact HB.out)))); (case aL => have := LMc15.out; omega); intro v170 w19 ho hb hg hat; rw [← Ny169.out] at ho; have n0_ := Aside0.mk (hb); have n1_ := Aside0.mk (ho); clear HB; clear HO_4; clear HO167; have HB := n0_; have HO171 := n1_; clear n0_ n1_; clear ho hb hg hat))
                      go_roundg k1
                      case measure => have := HK1.out; omega
                      case rel => exact ⟨(y169), (wrap64 (x14_1 + 1)), (by first | rfl | (simp; done) | (simp [*]; done)), H', ⟨by have := HK1.out; omega⟩, ⟨by (with_reducible repeat (first | apply Kd.S_alloc | apply Kd.S_drewN | apply Kd.S_drew)); exact HO171.out⟩, ⟨by repeat (first | (with_reducible first | exact HB.out | apply below_alloc | apply pw_below_drewN | apply below_drew1) | exact HB.out)⟩⟩
                    · rw [if_neg c15] at H
                      exact absurd H (by simp)
                  · rw [if_neg c14] at H
                    have c14b0 : ((rdOf ByteArray.empty t165 0).toList == (rdOf ByteArray.empty l0 x14_1).toList) = false := beq_eq_false_iff_ne.mpr c14
                    have c14b1 : ((rdOf ByteArray.empty t165 0).toList != (rdOf ByteArray.empty l0 x14_1).toList) = true := bne_iff_ne.mpr c14
                    have H' := Aside0.mk H
                    clear H
                    have p163 : 0 ≤ (x14_1 : Int) := of_decide_eq_true (by first | (with_reducible assumption) | assumption)
                    have q163 : x14_1 < (l0.length : Int) := of_decide_eq_true (by first | (with_reducible assumption) | assumption)
                    obtain ⟨ad163, e163, hx163_0⟩ := Kd.at_string HR0.out x14_1 p163 q163
                    cases e163
                    replace hx163_0 := (HB.out.cell (World.block_lt_of_cell? w _ hx163_0)).trans hx163_0
                    replace p163 := eq_true p163
                    replace q163 := eq_true q163
                    go_wp2_with (first | ((with_reducible refine gate_callee (f := 18) rfl ?_); refine goesL_ (some 20) rfl rfl Tryd.func18 (by kernel_rfl) rfl #[.string (rdOf ByteArray.empty l0 x14_1)] rfl (by (try simp only [List.map_toArray, List.map_cons, List.map_nil]); first | done | rfl | (simp only [List.length_drop, List.length_take]; rfl)) ?_; (with_reducible refine (impl_keysOf.calls k1 (rdOf ByteArray.empty l0 x14_1) t164 _ A10.out).mono ?_); rintro e w20 ⟨rfl, hb⟩; refine ⟨_, rfl, ?_⟩; have n0_ := Aside0.mk (Kd.S_below (by (with_reducible repeat (first | apply Kd.S_alloc | apply Kd.S_drewN | apply Kd.S_drew)); exact HO_4.out) hb); have n1_ := Aside0.mk (below_step (by repeat (first | (with_reducible first | exact HB.out | apply below_alloc | apply pw_below_drewN | apply below_drew1) | exact HB.out)) hb); clear HO_4; clear HB; have HO_4 := n0_; have HB := n1_; clear n0_ n1_; (try clear hb); (try clear hb2); (try clear hk); (try clear hi)) | ((with_reducible refine gate_callee (f := 17) rfl ?_); refine goesL_ (some 21) rfl rfl Tryd.func17 (by kernel_rfl) rfl #[.slice (some ad163) l0.length c0, .string t164] rfl (by (try simp only [List.map_toArray, List.map_cons, List.map_nil]); first | done | rfl | (simp only [List.length_drop, List.length_take]; rfl)) ?_; (with_reducible refine (impl_wordsFor.calls k1 _ _ l0 t164 t165 _ ?side1 ?side2 A11.out).mono ?_); (case side1 => repeat (first | exact (Kd.C_below HR0.out HB.out) | (with_reducible refine Kd.C_alloc ?_ _) | (with_reducible refine Kd.C_drewN ?_ _) | (with_reducible refine Kd.C_drew ?_))); (case side2 => exact HC0.out); rintro e w21 ⟨v166, rfl, ho0, hb⟩; refine ⟨_, rfl, ?_⟩; have n0_ := Aside0.mk (Kd.S_elder' (by (with_reducible repeat (first | apply Kd.S_alloc | apply Kd.S_drewN | apply Kd.S_drew)); exact HO_4.out) (Kd.R_base ho0) hb); have n1_ := Aside0.mk (Kd.R_lower ho0 (below_size (by repeat (first | (with_reducible first | exact HB.out | apply below_alloc | apply pw_below_drewN | apply below_drew1) | exact HB.out)))); have n2_ := Aside0.mk (below_step (by repeat (first | (with_reducible first | exact HB.out | apply below_alloc | apply pw_below_drewN | apply below_drew1) | exact HB.out)) hb); clear HO_4; clear HB; have HO_4 := n0_; have HO167 := n1_; have HB := n2_; clear n0_ n1_ n2_; (try clear hb); (try clear hb2); (try clear hk); (try clear hi); (try clear ho0); obtain ⟨Ao22, co22, eo22⟩ := Kd.R_slice HO167.out; subst eo22; have p168 : 0 ≤ (0 : Int) := (by omega); have q168 : 0 < (t165.length : Int) := of_decide_eq_true (by first | (with_reducible assumption) | assumption); obtain ⟨ad168, e168, hx168_0⟩ := Kd.at_string (Kd.R_reads' HO167.out).2.2 0 p168 q168; cases e168; have qi168 : (0 < t165.length) = True := eq_true (by omega); (try rw [show ((0 : Int)).toNat = 0 from rfl] at hx168_0); (try rw [Addr.add_zero'] at hx168_0); replace p168 := eq_true p168; replace q168 := eq_true q168))
                    go_roundg k1
                    case measure => have := HK1.out; omega
                    case rel => exact ⟨(x4_1), (wrap64 (x14_1 + 1)), (by first | rfl | (simp; done) | (simp [*]; done)), H', ⟨by have := HK1.out; omega⟩, ⟨by (with_reducible repeat (first | apply Kd.S_alloc | apply Kd.S_drewN | apply Kd.S_drew)); exact Kd.S_mono HO_4.out (fun _ hk => trivial)⟩, ⟨by repeat (first | (with_reducible first | exact HB.out | apply below_alloc | apply pw_below_drewN | apply below_drew1) | exact HB.out)⟩⟩
                · rw [if_neg c13] at H
                  exact absurd H (by simp)
              · rw [if_neg c12] at H
                have c12b0 : decide (1 < (t165.length : Int)) = false := decide_eq_false c12
                have c12b1 : decide (1 < t165.length) = false := decide_eq_false (by omega)
                clear c12
                have H' := Aside0.mk H
                clear H
                have p163 : 0 ≤ (x14_1 : Int) := of_decide_eq_true (by first | (with_reducible assumption) | assumption)
                have q163 : x14_1 < (l0.length : Int) := of_decide_eq_true (by first | (with_reducible assumption) | assumption)
                obtain ⟨ad163, e163, hx163_0⟩ := Kd.at_string HR0.out x14_1 p163 q163
                cases e163
                replace hx163_0 := (HB.out.cell (World.block_lt_of_cell? w _ hx163_0)).trans hx163_0
                replace p163 := eq_true p163
                replace q163 := eq_true q163
                go_wp2_with (first | ((with_reducible refine gate_callee (f := 18) rfl ?_); refine goesL_ (some 20) rfl rfl Tryd.func18 (by kernel_rfl) rfl #[.string (rdOf ByteArray.empty l0 x14_1)] rfl (by (try simp only [List.map_toArray, List.map_cons, List.map_nil]); first | done | rfl | (simp only [List.length_drop, List.length_take]; rfl)) ?_; (with_reducible refine (impl_keysOf.calls k1 (rdOf ByteArray.empty l0 x14_1) t164 _ A10.out).mono ?_); rintro e w23 ⟨rfl, hb⟩; refine ⟨_, rfl, ?_⟩; have n0_ := Aside0.mk (Kd.S_below (by (with_reducible repeat (first | apply Kd.S_alloc | apply Kd.S_drewN | apply Kd.S_drew)); exact HO_4.out) hb); have n1_ := Aside0.mk (below_step (by repeat (first | (with_reducible first | exact HB.out | apply below_alloc | apply pw_below_drewN | apply below_drew1) | exact HB.out)) hb); clear HO_4; clear HB; have HO_4 := n0_; have HB := n1_; clear n0_ n1_; (try clear hb); (try clear hb2); (try clear hk); (try clear hi)) | ((with_reducible refine gate_callee (f := 17) rfl ?_); refine goesL_ (some 21) rfl rfl Tryd.func17 (by kernel_rfl) rfl #[.slice (some ad163) l0.length c0, .string t164] rfl (by (try simp only [List.map_toArray, List.map_cons, List.map_nil]); first | done | rfl | (simp only [List.length_drop, List.length_take]; rfl)) ?_; (with_reducible refine (impl_wordsFor.calls k1 _ _ l0 t164 t165 _ ?side1 ?side2 A11.out).mono ?_); (case side1 => repeat (first | exact (Kd.C_below HR0.out HB.out) | (with_reducible refine Kd.C_alloc ?_ _) | (with_reducible refine Kd.C_drewN ?_ _) | (with_reducible refine Kd.C_drew ?_))); (case side2 => exact HC0.out); rintro e w24 ⟨v166, rfl, ho0, hb⟩; refine ⟨_, rfl, ?_⟩; have n0_ := Aside0.mk (Kd.S_elder' (by (with_reducible repeat (first | apply Kd.S_alloc | apply Kd.S_drewN | apply Kd.S_drew)); exact HO_4.out) (Kd.R_base ho0) hb); have n1_ := Aside0.mk (Kd.R_lower ho0 (below_size (by repeat (first | (with_reducible first | exact HB.out | apply below_alloc | apply pw_below_drewN | apply below_drew1) | exact HB.out)))); have n2_ := Aside0.mk (below_step (by repeat (first | (with_reducible first | exact HB.out | apply below_alloc | apply pw_below_drewN | apply below_drew1) | exact HB.out)) hb); clear HO_4; clear HB; have HO_4 := n0_; have HO167 := n1_; have HB := n2_; clear n0_ n1_ n2_; (try clear hb); (try clear hb2); (try clear hk); (try clear hi); (try clear ho0); obtain ⟨Ao25, co25, eo25⟩ := Kd.R_slice HO167.out; subst eo25))
                go_roundg k1
                case measure => have := HK1.out; omega
                case rel => exact ⟨(x4_1), (wrap64 (x14_1 + 1)), (by first | rfl | (simp; done) | (simp [*]; done)), H', ⟨by have := HK1.out; omega⟩, ⟨by (with_reducible repeat (first | apply Kd.S_alloc | apply Kd.S_drewN | apply Kd.S_drew)); exact Kd.S_mono HO_4.out (fun _ hk => trivial)⟩, ⟨by repeat (first | (with_reducible first | exact HB.out | apply below_alloc | apply pw_below_drewN | apply below_drew1) | exact HB.out)⟩⟩
            · rw [if_neg c9] at H
              exact absurd H (by simp)
          · rw [if_neg c8] at H
            exact absurd H (by simp)
        · rw [if_neg c7] at H
          have c7b0 : decide (x14_1 < (l0.length : Int)) = false := decide_eq_false c7
          clear c7
          simp only [Option.some.injEq, Prod.mk.injEq] at H
          obtain ⟨rfl, rfl⟩ := H
          go_wp2
          go_ret2
          exact ⟨_, by first | rfl | (simp [errW_none, errW_some] <;> rfl) | (simp [*, errW_none, errW_some] <;> rfl), by (with_reducible repeat (first | apply Kd.S_alloc | apply Kd.S_drewN | apply Kd.S_drew)); exact HO_4.out, by repeat (first | (with_reducible first | exact HB.out | apply below_alloc | apply pw_below_drewN | apply below_drew1) | exact HB.out)⟩
  · replace c3 := Bool.eq_false_iff.mpr c3
    subst c3
    have H1 : (some (([] : List (List ByteArray)), false)) = some (r1, r2) := by rw [if_neg (show ¬ (false = true) by decide)] at H; exact H
    clear H
    have H := H1
    clear H1
    simp only [Option.some.injEq, Prod.mk.injEq] at H
    obtain ⟨rfl, rfl⟩ := H
    go_enter Tryd.func7, Tryd.ntmps7
    go_wp2_with (first | ((with_reducible refine gate_callee (f := 16) rfl ?_); refine goesL_ (some 9) rfl rfl Tryd.func16 (by kernel_rfl) rfl #[.slice A0 l0.length c0] rfl (by (try simp only [List.map_toArray, List.map_cons, List.map_nil]); first | done | rfl | (simp only [List.length_drop, List.length_take]; rfl)) ?_; (with_reducible refine (impl_IsDictionary.calls k _ _ l0 false _ ?side1 ?side2 A2.out).mono ?_); (case side1 => repeat (first | exact HR0.out | (with_reducible refine Kd.C_alloc ?_ _) | (with_reducible refine Kd.C_drewN ?_ _) | (with_reducible refine Kd.C_drew ?_))); (case side2 => exact HC0.out); rintro e w26 ⟨rfl, hb⟩; refine ⟨_, rfl, ?_⟩; have n0_ := Aside0.mk (below_step (by repeat (first | (with_reducible first | exact HB.out | apply below_alloc | apply pw_below_drewN | apply below_drew1) | exact HB.out)) hb); clear HB; have HB := n0_; clear n0_; (try clear hb); (try clear hb2); (try clear hk); (try clear hi)))
    go_ret2
    exact ⟨_, by first | rfl | (simp [errW_none, errW_some] <;> rfl) | (simp [*, errW_none, errW_some] <;> rfl), by first | exact Kd.S_nil _ _ _ _ _ | exact Kd.N_nil _ _ _ _ _ | exact Kd.V_nil _ _ _ _ _ | exact Kd.Q_nil _ _ _ _ _ | exact Kd.R_nil _ _ _ _ _, by repeat (first | (with_reducible first | exact HB.out | apply below_alloc | apply pw_below_drewN | apply below_drew1) | exact HB.out)⟩

end Go.Proofs.YtcgkpdmejjgopaaDoor.P

namespace Go.Proofs.YtcgkpdmejjgopaaDoor.P
open Go.RowKit Go.Proofs.YtcgkpdmejjgopaaDoorW.PrintWords Go.Proofs.YtcgkpdmejjgopaaDoorW.PrintLast Go.Proofs.YtcgkpdmejjgopaaDoorW.PrintMore
attribute [local go_sem] max2_int min2_int max_two min_two max_three min_three max_four min_four   -- for this text's walks alone
set_option linter.unusedVariables false
set_option linter.unusedSimpArgs false

/-! ### laws_eqStringS: function 9 -/
def laws_eqStringS.l0 : Nat → List ByteArray → List ByteArray → Int → Option (Bool)
  | 0, _, _, _ => none
  | k + 1, x0, x1, x5 => if x5 < (x0.length : Int) then (if 0 ≤ x5 then (if x5 < (x1.length : Int) then (if (rdOf ByteArray.empty x0 x5).toList = (rdOf ByteArray.empty x1 x5).toList then (laws_eqStringS.l0 k x0 x1 (wrap64 (x5 + 1))) else (some false)) else (none)) else (none)) else (some true)
def laws_eqStringS.f (k : Nat) (l0 : List ByteArray) (l1 : List ByteArray) : Option (Bool) := if (l0.length : Int) = (l1.length : Int) then (laws_eqStringS.l0 k l0 l1 0) else (some false)
theorem laws_eqStringS.mono_l : ∀ k, (∀ y0 y1 y2, LeO (laws_eqStringS.l0 k y0 y1 y2) (laws_eqStringS.l0 (k + 1) y0 y1 y2))
  | 0 => fun _ _ _ r h => by simp [laws_eqStringS.l0] at h
  | k + 1 => by
    have ih0 := laws_eqStringS.mono_l k
    · intro y0 y1 y2
      unfold laws_eqStringS.l0
      repeat' first
      | (with_reducible exact ih0 _ _ _)
      | (with_reducible exact LeO.refl _)
      | (with_reducible exact LeO.none _)
      | (with_reducible refine LeO.ite ?_ ?_)
      | (with_reducible refine LeO.bind ?_ (fun _ => ?_))
      | exact ih0 _ _ _
      | exact LeO.none _
      | refine LeO.ite ?_ ?_
      | refine LeO.bind ?_ (fun _ => ?_)
theorem laws_eqStringS.mono : ∀ a0 a1 k, LeO (laws_eqStringS.f k a0 a1) (laws_eqStringS.f (k + 1) a0 a1) := by
  intro a0 a1 k
  have ih0 := laws_eqStringS.mono_l k
  unfold laws_eqStringS.f
  repeat' first
      | (with_reducible exact ih0 _ _ _)
      | (with_reducible exact LeO.refl _)
      | (with_reducible exact LeO.none _)
      | (with_reducible refine LeO.ite ?_ ?_)
      | (with_reducible refine LeO.bind ?_ (fun _ => ?_))
      | exact ih0 _ _ _
      | exact LeO.none _
      | refine LeO.ite ?_ ?_
      | refine LeO.bind ?_ (fun _ => ?_)
set_option maxHeartbeats 8000000 in
set_option maxRecDepth 100000 in
theorem laws_eqStringS.calls (k : Nat) (A0 : Option Addr) (c0 : Nat) (l0 : List ByteArray) (A1 : Option Addr) (c1 : Nat) (l1 : List ByteArray) (r : Bool) (w : World) (hr0 : Kd.C Kd.string w A0 l0.length l0) (hc0 : l0.length ≤ c0) (hr1 : Kd.C Kd.string w A1 l1.length l1) (hc1 : l1.length ≤ c1) (h : laws_eqStringS.f k l0 l1 = some r) :
    Calls Tryd.prog 9 #[.slice A0 l0.length c0, .slice A1 l1.length c1] w fun e w' => e = .returned (.bool r) ∧ Drawn0 w w' := by
  have HR0 := Aside0.mk hr0
  have HC0 := Aside0.mk hc0
  clear hr0 hc0
  have HR1 := Aside0.mk hr1
  have HC1 := Aside0.mk hc1
  clear hr1 hc1
  have H : (if (l0.length : Int) = (l1.length : Int) then (laws_eqStringS.l0 k l0 l1 0) else (some false)) = some r := h
  clear h
  by_cases c3 : (l0.length : Int) = (l1.length : Int)
  · rw [if_pos c3] at H
    have c3b0 : ((l0.length : Int) == (l1.length : Int)) = true := beq_iff_eq.mpr c3
    have c3b1 : ((l0.length : Int) != (l1.length : Int)) = false := bne_eq_false_iff_eq.mpr c3
    have c3b2 : (l0.length == l1.length) = true := by first | simpa using c3 | (simp at c3 ⊢; omega)
    clear c3
    have H' := Aside0.mk H
    clear H
    go_enter Tryd.func9, Tryd.ntmps9
    go_wp2
    repeat (go_quiet (fail); try go_wp2)
    go_loopg [5] k (fun kq v5 w' => ∃ (x5_1 : Int), v5 = .int .i64 x5_1 ∧ Aside0 (laws_eqStringS.l0 kq l0 l1 x5_1 = some r) ∧ Aside0 (kq ≤ k) ∧ Drawn0 w w')
    case atStart => exact ⟨(0), (by first | rfl | (simp; done) | (simp [*]; done)), H', ⟨Nat.le_refl _⟩, by repeat (first | exact Drawn0.refl _ | apply Drawn0.step)⟩
    case round =>
      clear H'
      try clear c1
      try clear p2
      try clear c3
      try clear c3b0
      try clear c3b1
      try clear c3b2
      obtain ⟨x5_1, rfl, HA, HK1, ⟨m1, rfl⟩⟩ := hrel
      cases gk with
      | zero => exact absurd HA.out (by simp [laws_eqStringS.l0])
      | succ k1 =>
        have H := HA.out
        clear HA
        simp only [laws_eqStringS.l0] at H
        by_cases c4 : x5_1 < (l0.length : Int)
        · rw [if_pos c4] at H
          have c4b0 : decide (x5_1 < (l0.length : Int)) = true := decide_eq_true c4
          clear c4
          by_cases c5 : 0 ≤ x5_1
          · rw [if_pos c5] at H
            have c5b0 : decide (0 ≤ x5_1) = true := decide_eq_true c5
            clear c5
            by_cases c6 : x5_1 < (l1.length : Int)
            · rw [if_pos c6] at H
              have c6b0 : decide (x5_1 < (l1.length : Int)) = true := decide_eq_true c6
              clear c6
              by_cases c7 : (rdOf ByteArray.empty l0 x5_1).toList = (rdOf ByteArray.empty l1 x5_1).toList
              · rw [if_pos c7] at H
                have c7b0 : ((rdOf ByteArray.empty l0 x5_1).toList == (rdOf ByteArray.empty l1 x5_1).toList) = true := beq_iff_eq.mpr c7
                have c7b1 : ((rdOf ByteArray.empty l0 x5_1).toList != (rdOf ByteArray.empty l1 x5_1).toList) = false := bne_eq_false_iff_eq.mpr c7
                clear c7
                have H' := Aside0.mk H
                clear H
                have p172 : 0 ≤ (x5_1 : Int) := of_decide_eq_true (by first | (with_reducible assumption) | assumption)
                have q172 : x5_1 < (l0.length : Int) := of_decide_eq_true (by first | (with_reducible assumption) | assumption)
                obtain ⟨ad172, e172, hx172_0⟩ := Kd.at_string HR0.out x5_1 p172 q172
                cases e172
                replace p172 := eq_true p172
                replace q172 := eq_true q172
                have p173 : 0 ≤ (x5_1 : Int) := of_decide_eq_true (by first | (with_reducible assumption) | assumption)
                have q173 : x5_1 < (l1.length : Int) := of_decide_eq_true (by first | (with_reducible assumption) | assumption)
                obtain ⟨ad173, e173, hx173_0⟩ := Kd.at_string HR1.out x5_1 p173 q173
                cases e173
                replace p173 := eq_true p173
                replace q173 := eq_true q173
                go_wp2
                repeat (go_quiet (fail); try go_wp2)
                go_roundg k1
                case measure => have := HK1.out; omega
                case rel => exact ⟨(wrap64 (x5_1 + 1)), (by first | rfl | (simp; done) | (simp [*]; done)), H', ⟨by have := HK1.out; omega⟩, by repeat (first | exact Drawn0.refl _ | apply Drawn0.step)⟩
              · rw [if_neg c7] at H
                have c7b0 : ((rdOf ByteArray.empty l0 x5_1).toList == (rdOf ByteArray.empty l1 x5_1).toList) = false := beq_eq_false_iff_ne.mpr c7
                have c7b1 : ((rdOf ByteArray.empty l0 x5_1).toList != (rdOf ByteArray.empty l1 x5_1).toList) = true := bne_iff_ne.mpr c7
                obtain rfl := Option.some.inj H
                have p172 : 0 ≤ (x5_1 : Int) := of_decide_eq_true (by first | (with_reducible assumption) | assumption)
                have q172 : x5_1 < (l0.length : Int) := of_decide_eq_true (by first | (with_reducible assumption) | assumption)
                obtain ⟨ad172, e172, hx172_0⟩ := Kd.at_string HR0.out x5_1 p172 q172
                cases e172
                replace p172 := eq_true p172
                replace q172 := eq_true q172
                have p173 : 0 ≤ (x5_1 : Int) := of_decide_eq_true (by first | (with_reducible assumption) | assumption)
                have q173 : x5_1 < (l1.length : Int) := of_decide_eq_true (by first | (with_reducible assumption) | assumption)
                obtain ⟨ad173, e173, hx173_0⟩ := Kd.at_string HR1.out x5_1 p173 q173
                cases e173
                replace p173 := eq_true p173
                replace q173 := eq_true q173
                go_wp2
                repeat (go_quiet (fail); try go_wp2)
                go_ret
                exact ⟨by first | rfl | (simp; done) | (simp [*]; done), by repeat (first | exact Drawn0.refl _ | apply Drawn0.step)⟩
            · rw [if_neg c6] at H
              exact absurd H (by simp)
          · rw [if_neg c5] at H
            exact absurd H (by simp)
        · rw [if_neg c4] at H
          have c4b0 : decide (x5_1 < (l0.length : Int)) = false := decide_eq_false c4
          clear c4
          obtain rfl := Option.some.inj H
          go_wp2
          repeat (go_quiet (fail); try go_wp2)
          go_ret
          exact ⟨by first | rfl | (simp; done) | (simp [*]; done), by repeat (first | exact Drawn0.refl _ | apply Drawn0.step)⟩
  · rw [if_neg c3] at H
    have c3b0 : ((l0.length : Int) == (l1.length : Int)) = false := beq_eq_false_iff_ne.mpr c3
    have c3b1 : ((l0.length : Int) != (l1.length : Int)) = true := bne_iff_ne.mpr c3
    have c3b2 : (l0.length == l1.length) = false := by first | simpa using c3 | (simp at c3 ⊢; omega)
    obtain rfl := Option.some.inj H
    go_enter Tryd.func9, Tryd.ntmps9
    go_wp2
    repeat (go_quiet (fail); try go_wp2)
    go_ret
    exact ⟨by first | rfl | (simp; done) | (simp [*]; done), by repeat (first | exact Drawn0.refl _ | apply Drawn0.step)⟩

end Go.Proofs.YtcgkpdmejjgopaaDoor.P

namespace Go.Proofs.YtcgkpdmejjgopaaDoor.P
open Go.RowKit Go.Proofs.YtcgkpdmejjgopaaDoorW.PrintWords Go.Proofs.YtcgkpdmejjgopaaDoorW.PrintLast Go.Proofs.YtcgkpdmejjgopaaDoorW.PrintMore
attribute [local go_sem] max2_int min2_int max_two min_two max_three min_three max_four min_four   -- for this text's walks alone
set_option linter.unusedVariables false
set_option linter.unusedSimpArgs false

/-! ### laws_eqStringSS: function 8 -/
def laws_eqStringSS.l0 : Nat → List (List ByteArray) → List (List ByteArray) → Int → Option (Bool)
  | 0, _, _, _ => none
  | k + 1, x0, x1, x5 => if x5 < (x0.length : Int) then (if 0 ≤ x5 then (if x5 < (x1.length : Int) then ((laws_eqStringS.f k (rd_L1 x0 x5) (rd_L1 x1 x5)).bind fun t176 => (if t176 = true then (laws_eqStringSS.l0 k x0 x1 (wrap64 (x5 + 1))) else (some false))) else (none)) else (none)) else (some true)
def laws_eqStringSS.f (k : Nat) (l0 : List (List ByteArray)) (l1 : List (List ByteArray)) : Option (Bool) := if (l0.length : Int) = (l1.length : Int) then (laws_eqStringSS.l0 k l0 l1 0) else (some false)
theorem laws_eqStringSS.mono_l : ∀ k, (∀ y0 y1 y2, LeO (laws_eqStringSS.l0 k y0 y1 y2) (laws_eqStringSS.l0 (k + 1) y0 y1 y2))
  | 0 => fun _ _ _ r h => by simp [laws_eqStringSS.l0] at h
  | k + 1 => by
    have ih0 := laws_eqStringSS.mono_l k
    · intro y0 y1 y2
      unfold laws_eqStringSS.l0
      repeat' first
      | (with_reducible exact ih0 _ _ _)
      | (with_reducible exact laws_eqStringS.mono _ _ _)
      | (with_reducible exact LeO.refl _)
      | (with_reducible exact LeO.none _)
      | (with_reducible refine LeO.ite ?_ ?_)
      | (with_reducible refine LeO.bind ?_ (fun _ => ?_))
      | exact ih0 _ _ _
      | exact laws_eqStringS.mono _ _ _
      | exact LeO.none _
      | refine LeO.ite ?_ ?_
      | refine LeO.bind ?_ (fun _ => ?_)
theorem laws_eqStringSS.mono : ∀ a0 a1 k, LeO (laws_eqStringSS.f k a0 a1) (laws_eqStringSS.f (k + 1) a0 a1) := by
  intro a0 a1 k
  have ih0 := laws_eqStringSS.mono_l k
  unfold laws_eqStringSS.f
  repeat' first
      | (with_reducible exact ih0 _ _ _)
      | (with_reducible exact laws_eqStringS.mono _ _ _)
      | (with_reducible exact LeO.refl _)
      | (with_reducible exact LeO.none _)
      | (with_reducible refine LeO.ite ?_ ?_)
      | (with_reducible refine LeO.bind ?_ (fun _ => ?_))
      | exact ih0 _ _ _
      | exact laws_eqStringS.mono _ _ _
      | exact LeO.none _
      | refine LeO.ite ?_ ?_
      | refine LeO.bind ?_ (fun _ => ?_)
set_option maxHeartbeats 8000000 in
set_option maxRecDepth 100000 in
theorem laws_eqStringSS.calls (k : Nat) (A0 : Option Addr) (c0 : Nat) (l0 : List (List ByteArray)) (A1 : Option Addr) (c1 : Nat) (l1 : List (List ByteArray)) (r : Bool) (w : World) (hr0 : Kd.C (Kd.slice 9 Kd.string) w A0 l0.length l0) (hc0 : l0.length ≤ c0) (hr1 : Kd.C (Kd.slice 9 Kd.string) w A1 l1.length l1) (hc1 : l1.length ≤ c1) (h : laws_eqStringSS.f k l0 l1 = some r) :
    Calls Tryd.prog 8 #[.slice A0 l0.length c0, .slice A1 l1.length c1] w fun e w' => e = .returned (.bool r) ∧ Drawn0 w w' := by
  have HR0 := Aside0.mk hr0
  have HC0 := Aside0.mk hc0
  clear hr0 hc0
  have HR1 := Aside0.mk hr1
  have HC1 := Aside0.mk hc1
  clear hr1 hc1
  have H : (if (l0.length : Int) = (l1.length : Int) then (laws_eqStringSS.l0 k l0 l1 0) else (some false)) = some r := h
  clear h
  by_cases c3 : (l0.length : Int) = (l1.length : Int)
  · rw [if_pos c3] at H
    have c3b0 : ((l0.length : Int) == (l1.length : Int)) = true := beq_iff_eq.mpr c3
    have c3b1 : ((l0.length : Int) != (l1.length : Int)) = false := bne_eq_false_iff_eq.mpr c3
    have c3b2 : (l0.length == l1.length) = true := by first | simpa using c3 | (simp at c3 ⊢; omega)
    clear c3
    have H' := Aside0.mk H
    clear H
    go_enter Tryd.func8, Tryd.ntmps8
    go_wp2
    repeat (go_quiet (fail); try go_wp2)
    go_loopg [5] k (fun kq v5 w' => ∃ (x5_1 : Int), v5 = .int .i64 x5_1 ∧ Aside0 (laws_eqStringSS.l0 kq l0 l1 x5_1 = some r) ∧ Aside0 (kq ≤ k) ∧ Drawn0 w w')
    case atStart => exact ⟨(0), (by first | rfl | (simp; done) | (simp [*]; done)), H', ⟨Nat.le_refl _⟩, by repeat (first | exact Drawn0.refl _ | apply Drawn0.step)⟩
    case round =>
      clear H'
      try clear c1
      try clear p2
      try clear c3
      try clear c3b0
      try clear c3b1
      try clear c3b2
      obtain ⟨x5_1, rfl, HA, HK1, ⟨m1, rfl⟩⟩ := hrel
      cases gk with
      | zero => exact absurd HA.out (by simp [laws_eqStringSS.l0])
      | succ k1 =>
        have H := HA.out
        clear HA
        simp only [laws_eqStringSS.l0] at H
        by_cases c4 : x5_1 < (l0.length : Int)
        · rw [if_pos c4] at H
          have c4b0 : decide (x5_1 < (l0.length : Int)) = true := decide_eq_true c4
          clear c4
          by_cases c5 : 0 ≤ x5_1
          · rw [if_pos c5] at H
            have c5b0 : decide (0 ≤ x5_1) = true := decide_eq_true c5
            clear c5
            by_cases c6 : x5_1 < (l1.length : Int)
            · rw [if_pos c6] at H
              have c6b0 : decide (x5_1 < (l1.length : Int)) = true := decide_eq_true c6
              clear c6
              replace H := Option.bind_eq_some_iff.mp H
              obtain ⟨t176, A70, H⟩ := H
              replace H : (if t176 = true then (laws_eqStringSS.l0 k1 l0 l1 (wrap64 (x5_1 + 1))) else (some false)) = some r := H
              have A7 := Aside0.mk A70
              clear A70
              by_cases c8 : t176 = true
              · subst c8
                have H1 : (laws_eqStringSS.l0 k1 l0 l1 (wrap64 (x5_1 + 1))) = some r := by rw [if_pos rfl] at H; exact H
                clear H
                have H := H1
                clear H1
                have H' := Aside0.mk H
                clear H
                have p174 : 0 ≤ (x5_1 : Int) := of_decide_eq_true (by first | (with_reducible assumption) | assumption)
                have q174 : x5_1 < (l0.length : Int) := of_decide_eq_true (by first | (with_reducible assumption) | assumption)
                obtain ⟨ad174, A174_0, c174_0, e174, hx174_0, hl174_0, hi174_0⟩ := at_L1 HR0.out x5_1 p174 q174
                cases e174
                have HR174_0 := Aside0.mk hi174_0
                have HC174_0 := Aside0.mk hl174_0
                clear hi174_0 hl174_0
                replace p174 := eq_true p174
                replace q174 := eq_true q174
                have p175 : 0 ≤ (x5_1 : Int) := of_decide_eq_true (by first | (with_reducible assumption) | assumption)
                have q175 : x5_1 < (l1.length : Int) := of_decide_eq_true (by first | (with_reducible assumption) | assumption)
                obtain ⟨ad175, A175_0, c175_0, e175, hx175_0, hl175_0, hi175_0⟩ := at_L1 HR1.out x5_1 p175 q175
                cases e175
                have HR175_0 := Aside0.mk hi175_0
                have HC175_0 := Aside0.mk hl175_0
                clear hi175_0 hl175_0
                replace p175 := eq_true p175
                replace q175 := eq_true q175
                go_wp2_with (first | (go_at_call 9; (with_reducible refine (laws_eqStringS.calls k1 _ _ (rd_L1 l0 x5_1) _ _ (rd_L1 l1 x5_1) true _ ?side1 ?side2 ?side3 ?side4 A7.out).mono ?_); (case side1 => repeat (first | exact HR174_0.out | (with_reducible refine Kd.C_alloc ?_ _) | (with_reducible refine Kd.C_drewN ?_ _) | (with_reducible refine Kd.C_drew ?_))); (case side2 => exact HC174_0.out); (case side3 => repeat (first | exact HR175_0.out | (with_reducible refine Kd.C_alloc ?_ _) | (with_reducible refine Kd.C_drewN ?_ _) | (with_reducible refine Kd.C_drew ?_))); (case side4 => exact HC175_0.out); rintro e w' ⟨rfl, ⟨nd, rfl⟩⟩; (try first | exact ⟨rfl, _, World.drewN_drewN _ _ _⟩ | exact ⟨rfl, _, Eq.trans (World.drewN_drewN _ _ _) (congrArg (World.drewN _) (Nat.add_assoc _ _ _))⟩)))
                repeat (go_quiet (first | (go_at_call 9; (with_reducible refine (laws_eqStringS.calls k1 _ _ (rd_L1 l0 x5_1) _ _ (rd_L1 l1 x5_1) true _ ?side1 ?side2 ?side3 ?side4 A7.out).mono ?_); (case side1 => repeat (first | exact HR174_0.out | (with_reducible refine Kd.C_alloc ?_ _) | (with_reducible refine Kd.C_drewN ?_ _) | (with_reducible refine Kd.C_drew ?_))); (case side2 => exact HC174_0.out); (case side3 => repeat (first | exact HR175_0.out | (with_reducible refine Kd.C_alloc ?_ _) | (with_reducible refine Kd.C_drewN ?_ _) | (with_reducible refine Kd.C_drew ?_))); (case side4 => exact HC175_0.out); rintro e w' ⟨rfl, ⟨nd, rfl⟩⟩; (try first | exact ⟨rfl, _, World.drewN_drewN _ _ _⟩ | exact ⟨rfl, _, Eq.trans (World.drewN_drewN _ _ _) (congrArg (World.drewN _) (Nat.add_assoc _ _ _))⟩))); try go_wp2_with (first | (go_at_call 9; (with_reducible refine (laws_eqStringS.calls k1 _ _ (rd_L1 l0 x5_1) _ _ (rd_L1 l1 x5_1) true _ ?side1 ?side2 ?side3 ?side4 A7.out).mono ?_); (case side1 => repeat (first | exact HR174_0.out | (with_reducible refine Kd.C_alloc ?_ _) | (with_reducible refine Kd.C_drewN ?_ _) | (with_reducible refine Kd.C_drew ?_))); (case side2 => exact HC174_0.out); (case side3 => repeat (first | exact HR175_0.out | (with_reducible refine Kd.C_alloc ?_ _) | (with_reducible refine Kd.C_drewN ?_ _) | (with_reducible refine Kd.C_drew ?_))); (case side4 => exact HC175_0.out); rintro e w' ⟨rfl, ⟨nd, rfl⟩⟩; (try first | exact ⟨rfl, _, World.drewN_drewN _ _ _⟩ | exact ⟨rfl, _, Eq.trans (World.drewN_drewN _ _ _) (congrArg (World.drewN _) (Nat.add_assoc _ _ _))⟩))))
                go_roundg k1
                case measure => have := HK1.out; omega
                case rel => exact ⟨(wrap64 (x5_1 + 1)), (by first | rfl | (simp; done) | (simp [*]; done)), H', ⟨by have := HK1.out; omega⟩, by repeat (first | exact Drawn0.refl _ | apply Drawn0.step)⟩
              · replace c8 := Bool.eq_false_iff.mpr c8
                subst c8
                have H1 : (some false) = some r := by rw [if_neg (show ¬ (false = true) by decide)] at H; exact H
                clear H
                have H := H1
                clear H1
                obtain rfl := Option.some.inj H
                have p174 : 0 ≤ (x5_1 : Int) := of_decide_eq_true (by first | (with_reducible assumption) | assumption)
                have q174 : x5_1 < (l0.length : Int) := of_decide_eq_true (by first | (with_reducible assumption) | assumption)
                obtain ⟨ad174, A174_0, c174_0, e174, hx174_0, hl174_0, hi174_0⟩ := at_L1 HR0.out x5_1 p174 q174
                cases e174
                have HR174_0 := Aside0.mk hi174_0
                have HC174_0 := Aside0.mk hl174_0
                clear hi174_0 hl174_0
                replace p174 := eq_true p174
                replace q174 := eq_true q174
                have p175 : 0 ≤ (x5_1 : Int) := of_decide_eq_true (by first | (with_reducible assumption) | assumption)
                have q175 : x5_1 < (l1.length : Int) := of_decide_eq_true (by first | (with_reducible assumption) | assumption)
                obtain ⟨ad175, A175_0, c175_0, e175, hx175_0, hl175_0, hi175_0⟩ := at_L1 HR1.out x5_1 p175 q175
                cases e175
                have HR175_0 := Aside0.mk hi175_0
                have HC175_0 := Aside0.mk hl175_0
                clear hi175_0 hl175_0
                replace p175 := eq_true p175
                replace q175 := eq_true q175
                go_wp2_with (first | (go_at_call 9; (with_reducible refine (laws_eqStringS.calls k1 _ _ (rd_L1 l0 x5_1) _ _ (rd_L1 l1 x5_1) false _ ?side1 ?side2 ?side3 ?side4 A7.out).mono ?_); (case side1 => repeat (first | exact HR174_0.out | (with_reducible refine Kd.C_alloc ?_ _) | (with_reducible refine Kd.C_drewN ?_ _) | (with_reducible refine Kd.C_drew ?_))); (case side2 => exact HC174_0.out); (case side3 => repeat (first | exact HR175_0.out | (with_reducible refine Kd.C_alloc ?_ _) | (with_reducible refine Kd.C_drewN ?_ _) | (with_reducible refine Kd.C_drew ?_))); (case side4 => exact HC175_0.out); rintro e w' ⟨rfl, ⟨nd, rfl⟩⟩; (try first | exact ⟨rfl, _, World.drewN_drewN _ _ _⟩ | exact ⟨rfl, _, Eq.trans (World.drewN_drewN _ _ _) (congrArg (World.drewN _) (Nat.add_assoc _ _ _))⟩)))
                repeat (go_quiet (first | (go_at_call 9; (with_reducible refine (laws_eqStringS.calls k1 _ _ (rd_L1 l0 x5_1) _ _ (rd_L1 l1 x5_1) false _ ?side1 ?side2 ?side3 ?side4 A7.out).mono ?_); (case side1 => repeat (first | exact HR174_0.out | (with_reducible refine Kd.C_alloc ?_ _) | (with_reducible refine Kd.C_drewN ?_ _) | (with_reducible refine Kd.C_drew ?_))); (case side2 => exact HC174_0.out); (case side3 => repeat (first | exact HR175_0.out | (with_reducible refine Kd.C_alloc ?_ _) | (with_reducible refine Kd.C_drewN ?_ _) | (with_reducible refine Kd.C_drew ?_))); (case side4 => exact HC175_0.out); rintro e w' ⟨rfl, ⟨nd, rfl⟩⟩; (try first | exact ⟨rfl, _, World.drewN_drewN _ _ _⟩ | exact ⟨rfl, _, Eq.trans (World.drewN_drewN _ _ _) (congrArg (World.drewN _) (Nat.add_assoc _ _ _))⟩))); try go_wp2_with (first | (go_at_call 9; (with_reducible refine (laws_eqStringS.calls k1 _ _ (rd_L1 l0 x5_1) _ _ (rd_L1 l1 x5_1) false _ ?side1 ?side2 ?side3 ?side4 A7.out).mono ?_); (case side1 => repeat (first | exact HR174_0.out | (with_reducible refine Kd.C_alloc ?_ _) | (with_reducible refine Kd.C_drewN ?_ _) | (with_reducible refine Kd.C_drew ?_))); (case side2 => exact HC174_0.out); (case side3 => repeat (first | exact HR175_0.out | (with_reducible refine Kd.C_alloc ?_ _) | (with_reducible refine Kd.C_drewN ?_ _) | (with_reducible refine Kd.C_drew ?_))); (case side4 => exact HC175_0.out); rintro e w' ⟨rfl, ⟨nd, rfl⟩⟩; (try first | exact ⟨rfl, _, World.drewN_drewN _ _ _⟩ | exact ⟨rfl, _, Eq.trans (World.drewN_drewN _ _ _) (congrArg (World.drewN _) (Nat.add_assoc _ _ _))⟩))))
                go_ret
                exact ⟨by first | rfl | (simp; done) | (simp [*]; done), by repeat (first | exact Drawn0.refl _ | apply Drawn0.step)⟩
            · rw [if_neg c6] at H
              exact absurd H (by simp)
          · rw [if_neg c5] at H
            exact absurd H (by simp)
        · rw [if_neg c4] at H
          have c4b0 : decide (x5_1 < (l0.length : Int)) = false := decide_eq_false c4
          clear c4
          obtain rfl := Option.some.inj H
          go_wp2
          repeat (go_quiet (fail); try go_wp2)
          go_ret
          exact ⟨by first | rfl | (simp; done) | (simp [*]; done), by repeat (first | exact Drawn0.refl _ | apply Drawn0.step)⟩
  · rw [if_neg c3] at H
    have c3b0 : ((l0.length : Int) == (l1.length : Int)) = false := beq_eq_false_iff_ne.mpr c3
    have c3b1 : ((l0.length : Int) != (l1.length : Int)) = true := bne_iff_ne.mpr c3
    have c3b2 : (l0.length == l1.length) = false := by first | simpa using c3 | (simp at c3 ⊢; omega)
    obtain rfl := Option.some.inj H
    go_enter Tryd.func8, Tryd.ntmps8
    go_wp2
    repeat (go_quiet (fail); try go_wp2)
    go_ret
    exact ⟨by first | rfl | (simp; done) | (simp [*]; done), by repeat (first | exact Drawn0.refl _ | apply Drawn0.step)⟩

end Go.Proofs.YtcgkpdmejjgopaaDoor.P

namespace Go.Proofs.YtcgkpdmejjgopaaDoor.P
open Go.RowKit Go.Proofs.YtcgkpdmejjgopaaDoorW.PrintWords Go.Proofs.YtcgkpdmejjgopaaDoorW.PrintLast Go.Proofs.YtcgkpdmejjgopaaDoorW.PrintMore
attribute [local go_sem] max2_int min2_int max_two min_two max_three min_three max_four min_four   -- for this text's walks alone
set_option linter.unusedVariables false
set_option linter.unusedSimpArgs false

/-! ### laws_markText: function 19 -/
def laws_markText.l0 : Nat → Int → ByteArray → Option (ByteArray)
  | 0, _, _ => none
  | k + 1, x0, x3 => if x0 > 0 then ((some (([(wrap64 (48 + (Int.tmod x0 10))) % 256] : List Int) : List Int)).bind fun y177 => (if (strOfNums y177).size + x3.size ≤ 9223372036854775807 then (laws_markText.l0 k (wrap64 (Int.tdiv x0 10)) ((strOfNums y177) ++ x3)) else (none))) else (if 1 + x3.size ≤ 9223372036854775807 then (some ((⟨#[109]⟩ : ByteArray) ++ x3)) else (none))
def laws_markText.f (k : Nat) (a0 : Int) : Option (ByteArray) := if a0 ≤ 0 then (some (⟨#[109, 48]⟩ : ByteArray)) else (laws_markText.l0 k a0 (⟨#[]⟩ : ByteArray))
theorem laws_markText.mono_l : ∀ k, (∀ y0 y1, LeO (laws_markText.l0 k y0 y1) (laws_markText.l0 (k + 1) y0 y1))
  | 0 => fun _ _ r h => by simp [laws_markText.l0] at h
  | k + 1 => by
    have ih0 := laws_markText.mono_l k
    · intro y0 y1
      unfold laws_markText.l0
      repeat' first
      | (with_reducible exact ih0 _ _)
      | (with_reducible exact LeO.refl _)
      | (with_reducible exact LeO.none _)
      | (with_reducible refine LeO.ite ?_ ?_)
      | (with_reducible refine LeO.bind ?_ (fun _ => ?_))
      | exact ih0 _ _
      | exact LeO.none _
      | refine LeO.ite ?_ ?_
      | refine LeO.bind ?_ (fun _ => ?_)
theorem laws_markText.mono : ∀ a0 k, LeO (laws_markText.f k a0) (laws_markText.f (k + 1) a0) := by
  intro a0 k
  have ih0 := laws_markText.mono_l k
  unfold laws_markText.f
  repeat' first
      | (with_reducible exact ih0 _ _)
      | (with_reducible exact LeO.refl _)
      | (with_reducible exact LeO.none _)
      | (with_reducible refine LeO.ite ?_ ?_)
      | (with_reducible refine LeO.bind ?_ (fun _ => ?_))
      | exact ih0 _ _
      | exact LeO.none _
      | refine LeO.ite ?_ ?_
      | refine LeO.bind ?_ (fun _ => ?_)
set_option maxHeartbeats 8000000 in
set_option maxRecDepth 100000 in
theorem laws_markText.calls (k : Nat) (a0 : Int) (r : ByteArray) (w : World) (h : laws_markText.f k a0 = some r) :
    Calls Tryd.prog 19 #[.int .i64 a0] w fun e w' => e = .returned (.string r) ∧ Below w.heap.size w w' := by
  have HB := Aside0.mk (Below.refl w.heap.size w)
  have H : (if a0 ≤ 0 then (some (⟨#[109, 48]⟩ : ByteArray)) else (laws_markText.l0 k a0 (⟨#[]⟩ : ByteArray))) = some r := h
  clear h
  by_cases c2 : a0 ≤ 0
  · rw [if_pos c2] at H
    have c2b0 : decide (a0 ≤ 0) = true := decide_eq_true c2
    clear c2
    obtain rfl := Option.some.inj H
    go_enter Tryd.func19, Tryd.ntmps19
    go_wp2
    go_ret
    exact ⟨by first | rfl | (simp [errW_none, errW_some] <;> rfl) | (simp [*, errW_none, errW_some] <;> rfl), by repeat (first | (with_reducible first | exact HB.out | apply below_alloc | apply pw_below_drewN | apply below_drew1) | exact HB.out)⟩
  · rw [if_neg c2] at H
    have c2b0 : decide (a0 ≤ 0) = false := decide_eq_false c2
    clear c2
    have H' := Aside0.mk H
    clear H
    go_enter Tryd.func19, Tryd.ntmps19
    go_wp2
    go_loopg [0, 3] k (fun kq v0 v3 w' => ∃ (x0_1 : Int) (x3_1 : ByteArray), v0 = .int .i64 x0_1 ∧ v3 = .string x3_1 ∧ Aside0 (laws_markText.l0 kq x0_1 x3_1 = some r) ∧ Aside0 (kq ≤ k) ∧ Aside0 (Below w.heap.size w w'))
    case atStart => exact ⟨(a0), ((⟨#[]⟩ : ByteArray)), (by first | rfl | (simp; done) | (simp [*]; done)), (by first | rfl | (simp; done) | (simp [*]; done)), H', ⟨Nat.le_refl _⟩, ⟨by repeat (first | (with_reducible first | exact HB.out | apply below_alloc | apply pw_below_drewN | apply below_drew1) | exact HB.out)⟩⟩
    case round =>
      clear H'
      try clear c1
      try clear c2
      try clear c2b0
      try clear p2
      obtain ⟨x0_1, x3_1, rfl, rfl, HA, HK1, HB⟩ := hrel
      cases gk with
      | zero => exact absurd HA.out (by simp [laws_markText.l0])
      | succ k1 =>
        have H := HA.out
        clear HA
        simp only [laws_markText.l0] at H
        by_cases c3 : x0_1 > 0
        · rw [if_pos c3] at H
          have c3b0 : decide (0 < x0_1) = true := decide_eq_true c3
          clear c3
          obtain ⟨y177, hy177⟩ : ∃ y_ : List Int, y_ = (([(wrap64 (48 + (Int.tmod x0_1 10))) % 256] : List Int)) := ⟨_, rfl⟩
          replace H : (if (strOfNums y177).size + x3_1.size ≤ 9223372036854775807 then (laws_markText.l0 k1 (wrap64 (Int.tdiv x0_1 10)) ((strOfNums y177) ++ x3_1)) else (none)) = some r := by first | (rw [hy177]; with_reducible exact H) | (have H2_ := (Option.bind_some _ _).symm.trans H; rw [hy177]; with_reducible exact H2_) | (have H2_ := (Option.bind_some _ _).symm.trans H; with_reducible exact H2_) | with_reducible exact H | (rw [hy177]; exact H) | exact H
          have Ny177 := Aside0.mk hy177
          clear hy177
          by_cases c4 : (strOfNums y177).size + x3_1.size ≤ 9223372036854775807
          · rw [if_pos c4] at H
            have c4b0 := eq_true c4
            have c4b1 : decide ((strOfNums y177).size + x3_1.size ≤ 9223372036854775807) = true := decide_eq_true c4
            try have c4b2 : (9223372036854775807 < (strOfNums y177).size + x3_1.size) = False := eq_false (Nat.not_lt.2 c4)
            have H' := Aside0.mk H
            clear H
            go_wp2_with (first | ((with_reducible refine gate_dst (N := 12) rfl ?_); refine Kd.R_lit (Kd.int .u8) _ 5 ?hg (N := 12) ?hd (xs := ([(wrap64 (48 + (Int.tmod x0_1 10))) % 256] : List Int)) (inner := [.int .u8 ((wrap64 (48 + (Int.tmod x0_1 10))) % 256)]) (ok := fun _ => True) (okp := fun _ => True) ?hr ?hp (fun _ hk => hk) trivial (Below.refl _ _) (Nat.le_refl _) (by simp) ?_; (case hd => rfl); (case hg => rfl); (case hr => first | (go_simp; done) | (go_simp; rfl)); (case hp => exact (Reps.one (show Kd.M (Kd.int .u8) _ _ _ ((wrap64 (48 + (Int.tmod x0_1 10))) % 256) [.int .u8 ((wrap64 (48 + (Int.tmod x0_1 10))) % 256)] from rfl) (Reps.none _ _))); intro v178 w5 ho6 hb hg_ hnew_; clear hg_ hnew_; (first | rw [← Ny177.out] at ho6 | (simp only [Int.reduceToNat] at ho6; rw [← Ny177.out] at ho6)); have n0_ := Aside0.mk (Kd.R_lower ho6 (below_size (by repeat (first | (with_reducible first | exact HB.out | apply below_alloc | apply pw_below_drewN | apply below_drew1) | exact HB.out)))); have n1_ := Aside0.mk (below_step (by repeat (first | (with_reducible first | exact HB.out | apply below_alloc | apply pw_below_drewN | apply below_drew1) | exact HB.out)) hb); clear HB; have HO179 := n0_; have HB := n1_; clear n0_ n1_; clear hb ho6; have hcv7 := own_string (P := Tryd.prog) Tryd.underlying41 Tryd.underlying5 Tryd.underlying9 (Kd.own_of_R HO179.out)))
            go_roundg k1
            case measure => have := HK1.out; omega
            case rel => exact ⟨(wrap64 (Int.tdiv x0_1 10)), ((strOfNums y177) ++ x3_1), (by first | rfl | (simp; done) | (simp [*]; done)), (by first | rfl | (simp; done) | (simp [*]; done)), H', ⟨by have := HK1.out; omega⟩, ⟨by repeat (first | (with_reducible first | exact HB.out | apply below_alloc | apply pw_below_drewN | apply below_drew1) | exact HB.out)⟩⟩
          · rw [if_neg c4] at H
            exact absurd H (by simp)
        · rw [if_neg c3] at H
          have c3b0 : decide (0 < x0_1) = false := decide_eq_false c3
          clear c3
          by_cases c8 : 1 + x3_1.size ≤ 9223372036854775807
          · rw [if_pos c8] at H
            have c8b0 := eq_true c8
            have c8b1 : decide (1 + x3_1.size ≤ 9223372036854775807) = true := decide_eq_true c8
            try have c8b2 : (9223372036854775807 < 1 + x3_1.size) = False := eq_false (Nat.not_lt.2 c8)
            obtain rfl := Option.some.inj H
            go_wp2
            go_ret
            exact ⟨by first | rfl | (simp [errW_none, errW_some] <;> rfl) | (simp [*, errW_none, errW_some] <;> rfl), by repeat (first | (with_reducible first | exact HB.out | apply below_alloc | apply pw_below_drewN | apply below_drew1) | exact HB.out)⟩
          · rw [if_neg c8] at H
            exact absurd H (by simp)

end Go.Proofs.YtcgkpdmejjgopaaDoor.P

namespace Go.Proofs.YtcgkpdmejjgopaaDoor.P
open Go.RowKit Go.Proofs.YtcgkpdmejjgopaaDoorW.PrintWords Go.Proofs.YtcgkpdmejjgopaaDoorW.PrintLast Go.Proofs.YtcgkpdmejjgopaaDoorW.PrintMore
attribute [local go_sem] max2_int min2_int max_two min_two max_three min_three max_four min_four   -- for this text's walks alone
set_option linter.unusedVariables false
set_option linter.unusedSimpArgs false

/-! ### laws_markStringS: function 10 -/
def laws_markStringS.l0 : Nat → List ByteArray → Int → Int → Option (Int × List ByteArray)
  | 0, _, _, _ => none
  | k + 1, x0, x1, x5 => if x5 < (x0.length : Int) then ((laws_markText.f k x1).bind fun t180 => (if 0 ≤ x5 then (laws_markStringS.l0 k (x0.set (x5 : Int).toNat t180) (wrap64 (x1 + 1)) (wrap64 (x5 + 1))) else (none))) else (some (x1, x0))
def laws_markStringS.f (k : Nat) (l0 : List ByteArray) (a1 : Int) : Option (Int × List ByteArray) := laws_markStringS.l0 k l0 a1 0
theorem laws_markStringS.mono_l : ∀ k, (∀ y0 y1 y2, LeO (laws_markStringS.l0 k y0 y1 y2) (laws_markStringS.l0 (k + 1) y0 y1 y2))
  | 0 => fun _ _ _ r h => by simp [laws_markStringS.l0] at h
  | k + 1 => by
    have ih0 := laws_markStringS.mono_l k
    · intro y0 y1 y2
      unfold laws_markStringS.l0
      repeat' first
      | (with_reducible exact ih0 _ _ _)
      | (with_reducible exact laws_markText.mono _ _)
      | (with_reducible exact LeO.refl _)
      | (with_reducible exact LeO.none _)
      | (with_reducible refine LeO.ite ?_ ?_)
      | (with_reducible refine LeO.bind ?_ (fun _ => ?_))
      | exact ih0 _ _ _
      | exact laws_markText.mono _ _
      | exact LeO.none _
      | refine LeO.ite ?_ ?_
      | refine LeO.bind ?_ (fun _ => ?_)
theorem laws_markStringS.mono : ∀ a0 a1 k, LeO (laws_markStringS.f k a0 a1) (laws_markStringS.f (k + 1) a0 a1) := by
  intro a0 a1 k
  have ih0 := laws_markStringS.mono_l k
  unfold laws_markStringS.f
  repeat' first
      | (with_reducible exact ih0 _ _ _)
      | (with_reducible exact laws_markText.mono _ _)
      | (with_reducible exact LeO.refl _)
      | (with_reducible exact LeO.none _)
      | (with_reducible refine LeO.ite ?_ ?_)
      | (with_reducible refine LeO.bind ?_ (fun _ => ?_))
      | exact ih0 _ _ _
      | exact laws_markText.mono _ _
      | exact LeO.none _
      | refine LeO.ite ?_ ?_
      | refine LeO.bind ?_ (fun _ => ?_)
set_option maxHeartbeats 8000000 in
set_option maxRecDepth 100000 in
theorem laws_markStringS.calls (k : Nat) (P0_ : Nat → Prop) (u9000_ : Value) (l0 : List ByteArray) (a1 : Int) (r1 : Int) (r2 : List ByteArray) (w0 w : World) (hB : Below w0.heap.size w0 w) (ho0 : Kd.R Kd.string 9 w w0.heap.size P0_ u9000_ l0) (h : laws_markStringS.f k l0 a1 = some (r1, r2)) :
    Calls Tryd.prog 10 #[u9000_, .int .i64 a1] w fun e w' => e = .returned (.int .i64 r1) ∧ Kd.R Kd.string 9 w' w0.heap.size (fun k_ => (P0_ k_ ∨ w.heap.size ≤ k_)) u9000_ r2 ∧ Below w0.heap.size w0 w' ∧ Kept w w' (fun k_ => P0_ k_) := by
  have HO0 := Aside0.mk (show Kd.R Kd.string 9 w w0.heap.size (fun k_ => (P0_ k_ ∨ w.heap.size ≤ k_)) u9000_ l0 from Kd.R_mono ho0 (fun k_ hk => (.inl hk)))
  have HK := Aside0.mk (Kept.refl w (fun k_ => P0_ k_))
  have HW0 := Aside0.mk hB.size
  have HB := Aside0.mk hB
  clear hB
  have H : (laws_markStringS.l0 k l0 a1 0) = some (r1, r2) := h
  clear h
  have H' := Aside0.mk H
  clear H
  go_enter Tryd.func10, Tryd.ntmps10
  go_wp2
  go_loopg [1, 5] k (fun kq v1 v5 w' => ∃ (x0_1 : List ByteArray) (x1_1 : Int) (x5_1 : Int), v1 = .int .i64 x1_1 ∧ v5 = .int .i64 x5_1 ∧ Aside0 (laws_markStringS.l0 kq x0_1 x1_1 x5_1 = some (r1, r2)) ∧ Aside0 (kq ≤ k) ∧ Aside0 (Kd.R Kd.string 9 w' w0.heap.size (fun k_ => (P0_ k_ ∨ w.heap.size ≤ k_)) u9000_ x0_1) ∧ Aside0 (Kept w w' (fun k_ => P0_ k_)) ∧ Aside0 (Below w0.heap.size w0 w'))
  case atStart => exact ⟨(l0), (a1), (0), (by first | rfl | (simp; done) | (simp [*]; done)), (by first | rfl | (simp; done) | (simp [*]; done)), H', ⟨Nat.le_refl _⟩, ⟨by (with_reducible repeat (first | apply Kd.R_alloc | apply Kd.R_drewN | apply Kd.R_drew)); exact HO0.out⟩, ⟨by repeat (first | (with_reducible first | exact HK.out | apply Kept.alloc | apply Kept.drewN | apply Kept.drew) | exact HK.out)⟩, ⟨by repeat (first | (with_reducible first | exact HB.out | apply below_alloc | apply pw_below_drewN | apply below_drew1) | exact HB.out)⟩⟩
  case round =>
    clear H'
    try clear c1
    try clear p2
    obtain ⟨x0_1, x1_1, x5_1, rfl, rfl, HA, HK1, HO_0, HK, HB⟩ := hrel
    cases gk with
    | zero => exact absurd HA.out (by simp [laws_markStringS.l0])
    | succ k1 =>
      have H := HA.out
      clear HA
      simp only [laws_markStringS.l0] at H
      by_cases c3 : x5_1 < (x0_1.length : Int)
      · rw [if_pos c3] at H
        have c3b0 : decide (x5_1 < (x0_1.length : Int)) = true := decide_eq_true c3
        clear c3
        replace H := Option.bind_eq_some_iff.mp H
        obtain ⟨t180, A40, H⟩ := H
        replace H : (if 0 ≤ x5_1 then (laws_markStringS.l0 k1 (x0_1.set (x5_1 : Int).toNat t180) (wrap64 (x1_1 + 1)) (wrap64 (x5_1 + 1))) else (none)) = some (r1, r2) := H
        have A4 := Aside0.mk A40
        clear A40
        by_cases c5 : 0 ≤ x5_1
        · rw [if_pos c5] at H
          have c5b0 : decide (0 ≤ x5_1) = true := decide_eq_true c5
          clear c5
          obtain ⟨y181, hy181⟩ : ∃ y_ : List ByteArray, y_ = (x0_1.set (x5_1 : Int).toNat t180) := ⟨_, rfl⟩
          replace H : (laws_markStringS.l0 k1 y181 (wrap64 (x1_1 + 1)) (wrap64 (x5_1 + 1))) = some (r1, r2) := by first | (rw [hy181]; with_reducible exact H) | (have H2_ := (Option.bind_some _ _).symm.trans H; rw [hy181]; with_reducible exact H2_) | (have H2_ := (Option.bind_some _ _).symm.trans H; with_reducible exact H2_) | with_reducible exact H | (rw [hy181]; exact H) | exact H
          have Ny181 := Aside0.mk hy181
          clear hy181
          have H' := Aside0.mk H
          clear H
          obtain ⟨Ao7, co7, eo7⟩ := Kd.R_slice HO_0.out
          subst eo7
          go_wp2_with (first | ((with_reducible refine gate_callee (f := 19) rfl ?_); refine goesL_ (some 15) rfl rfl Tryd.func19 (by kernel_rfl) rfl #[.int .i64 x1_1] rfl (by (try simp only [List.map_toArray, List.map_cons, List.map_nil]); first | done | rfl | (simp only [List.length_drop, List.length_take]; rfl)) ?_; (with_reducible refine (laws_markText.calls k1 x1_1 t180 _ A4.out).mono ?_); rintro e w8 ⟨rfl, hb⟩; refine ⟨_, rfl, ?_⟩; have n0_ := Aside0.mk (Kd.R_below (by (with_reducible repeat (first | apply Kd.R_alloc | apply Kd.R_drewN | apply Kd.R_drew)); exact HO_0.out) hb); have n1_ := Aside0.mk (Kept.below (S := (fun k_ => P0_ k_)) (by repeat (first | (with_reducible first | exact HK.out | apply Kept.alloc | apply Kept.drewN | apply Kept.drew) | exact HK.out)) hb); have n2_ := Aside0.mk (below_step (by repeat (first | (with_reducible first | exact HB.out | apply below_alloc | apply pw_below_drewN | apply below_drew1) | exact HB.out)) hb); clear HO_0; clear HK; clear HB; have HO_0 := n0_; have HK := n1_; have HB := n2_; clear n0_ n1_ n2_; (try clear hb); (try clear hb2); (try clear hk); (try clear hi); have p6 : 0 ≤ (x5_1 : Int) := of_decide_eq_true (by first | (with_reducible assumption) | assumption); have q6 : (x5_1 : Int) < ((x0_1.length : Int) : Int) := of_decide_eq_true (by first | (with_reducible assumption) | assumption); obtain ⟨go6, co6, eo6, gb6, gl6, cl6, HG6⟩ := Kd.R_form HO_0.out (by omega); (first | cases eo6 | (injection eo6 with ea_ en_ ec_; (first | subst ea_ | (injection ea_ with ea_; subst ea_)); subst ec_; clear en_)); have GB6 := Aside0.mk gb6; have GG6 := Aside0.mk HG6; clear gb6 gl6 HG6; have HMgo6 := Aside0.mk (show (P0_ go6 ∨ w.heap.size ≤ go6) from (HO_0.out.1 _ rfl)); obtain ⟨hx6_0, hf6_0⟩ := Kd.R_celln (⟨#[]⟩ : ByteArray) HO_0.out (x5_1 : Int) p6 q6; replace p6 := eq_true p6; replace q6 := eq_true q6; obtain ⟨hy9_, hz9_⟩ := Kd.R_celln (⟨#[]⟩ : ByteArray) HO_0.out (x5_1 : Int) (of_decide_eq_true (by first | (with_reducible assumption) | assumption)) (of_decide_eq_true (by first | (with_reducible assumption) | assumption)); have HP9 := Kd.R_putg HO_0.out (x5_1 : Int) t180) | ((with_reducible refine gate_store (t := 9) (p := 16) rfl ?_); refine store_event (t := 9) (p := 16) (v := ?vo_w10) (w1 := (w8.setCell ⟨go6, (x5_1 : Int).toNat, none⟩ (.string t180))) ?hg ?ho ?hn ?hr ?_; (case ho => rfl); (case hg => rfl); (case hn => rfl); (case hr => first | (go_simp; done) | (go_simp; rfl)); intro w10 hw; have hg : w8.grownBy w10 (some go6) := (by rw [hw]; exact HP9.2); have hp_ : Kd.R Kd.string 9 w10 w0.heap.size (fun k_ => (P0_ k_ ∨ w.heap.size ≤ k_)) (.slice (some ⟨go6, 0, none⟩) x0_1.length co7) y181 := (by rw [hw, Ny181.out]; exact HP9.1); clear HP9; have n0_ := Aside0.mk (hp_); have n1_ := Aside0.mk ((by rw [hw]; exact below_set (HB.out) GB6.out : Below w0.heap.size w0 w10)); have n2_ := Aside0.mk (Kept.of_grown (S := (fun k_ => P0_ k_)) hg (by repeat (first | (with_reducible first | exact HK.out | apply Kept.alloc | apply Kept.drewN | apply Kept.drew) | exact HK.out)) (fun k_ e_ => (HO_0.out.1 k_ e_))); clear HO_0; clear HB; clear HK; have HO_0 := n0_; have HB := n1_; have HK := n2_; clear n0_ n1_ n2_; clear hg hw hp_))
          go_roundg k1
          case measure => have := HK1.out; omega
          case rel => exact ⟨(y181), (wrap64 (x1_1 + 1)), (wrap64 (x5_1 + 1)), (by first | rfl | (simp; done) | (simp [*]; done)), (by first | rfl | (simp; done) | (simp [*]; done)), H', ⟨by have := HK1.out; omega⟩, ⟨by (with_reducible repeat (first | apply Kd.R_alloc | apply Kd.R_drewN | apply Kd.R_drew)); exact HO_0.out⟩, ⟨by repeat (first | (with_reducible first | exact HK.out | apply Kept.alloc | apply Kept.drewN | apply Kept.drew) | exact HK.out)⟩, ⟨by repeat (first | (with_reducible first | exact HB.out | apply below_alloc | apply pw_below_drewN | apply below_drew1) | exact HB.out)⟩⟩
        · rw [if_neg c5] at H
          exact absurd H (by simp)
      · rw [if_neg c3] at H
        have c3b0 : decide (x5_1 < (x0_1.length : Int)) = false := decide_eq_false c3
        clear c3
        simp only [Option.some.injEq, Prod.mk.injEq] at H
        obtain ⟨rfl, rfl⟩ := H
        obtain ⟨Ao11, co11, eo11⟩ := Kd.R_slice HO_0.out
        subst eo11
        go_wp2
        go_ret
        exact ⟨by first | rfl | (simp [errW_none, errW_some] <;> rfl) | (simp [*, errW_none, errW_some] <;> rfl), by (with_reducible repeat (first | apply Kd.R_alloc | apply Kd.R_drewN | apply Kd.R_drew)); exact HO_0.out, by repeat (first | (with_reducible first | exact HB.out | apply below_alloc | apply pw_below_drewN | apply below_drew1) | exact HB.out), by repeat (first | (with_reducible first | exact HK.out | apply Kept.alloc | apply Kept.drewN | apply Kept.drew) | exact HK.out)⟩

end Go.Proofs.YtcgkpdmejjgopaaDoor.P

namespace Go.Proofs.YtcgkpdmejjgopaaDoor.P
open Go.RowKit Go.Proofs.YtcgkpdmejjgopaaDoorW.PrintWords Go.Proofs.YtcgkpdmejjgopaaDoorW.PrintLast Go.Proofs.YtcgkpdmejjgopaaDoorW.PrintMore
attribute [local go_sem] max2_int min2_int max_two min_two max_three min_three max_four min_four   -- for this text's walks alone
set_option linter.unusedVariables false
set_option linter.unusedSimpArgs false

/-! ### laws_markStringSS: function 11 -/
def laws_markStringSS.mk (k : Nat) : List (List ByteArray) → Int → Option (Int × List (List ByteArray))
  | [], n => some (n, [])
  | x :: L, n => (laws_markStringS.f k x n).bind fun p => (laws_markStringSS.mk k L p.1).bind fun q => some (q.1, p.2 :: q.2)
theorem laws_markStringSS.mk_mono (k : Nat) : ∀ (L : List (List ByteArray)) (n : Int), LeO (laws_markStringSS.mk k L n) (laws_markStringSS.mk (k + 1) L n)
  | [], n, r, h => h
  | x :: L, n, r, h => by
    rw [laws_markStringSS.mk] at h ⊢
    obtain ⟨p, hp, h⟩ := Option.bind_eq_some_iff.1 h
    obtain ⟨q, hq, h⟩ := Option.bind_eq_some_iff.1 h
    rw [laws_markStringS.mono x n k p hp, Option.bind_some, laws_markStringSS.mk_mono k L p.1 q hq, Option.bind_some]
    exact h
def laws_markStringSS.f (k : Nat) (l0 : List (List ByteArray)) (a1 : Int) : Option (Int × List (List ByteArray)) := laws_markStringSS.mk k l0 a1
theorem laws_markStringSS.mono : ∀ l0 a1 k, LeO (laws_markStringSS.f k l0 a1) (laws_markStringSS.f (k + 1) l0 a1) := fun l0 a1 k => laws_markStringSS.mk_mono k l0 a1
theorem laws_markStringSS.lend {k : Nat} {P0_ : Nat → Prop} {l0 : List (List ByteArray)} {r1 n : Int} {r2 cur rest : List (List ByteArray)} {base t c N : Nat} {A : Option Addr} {wr : World} (hlt : t < l0.length) (hcl : cur.length = l0.length) (hD : cur.drop t = l0.drop t)
    (hM : laws_markStringSS.mk k (l0.drop t) n = some (r1, rest)) (hT : cur.take t ++ rest = r2) (hS : Kd.S (Kd.slice 9 Kd.string) 22 wr base (fun k_ => (P0_ k_ ∨ N ≤ k_)) (.slice A l0.length c) cur) :
    ∃ (g : Nat) (v : Value) (oki : Nat → Prop) (x0 : List ByteArray) (p1 : Int) (p2 : List ByteArray) (rest' : List (List ByteArray)), A = some ⟨g, 0, none⟩ ∧ l0.length ≤ 9223372036854775807 ∧ wr.cell? ⟨g, t, none⟩ = some v ∧ Aside0 (Kd.R Kd.string 9 wr base oki v x0) ∧ Aside0 (laws_markStringS.f k x0 n = some (p1, p2)) ∧
      Aside0 (laws_markStringSS.mk k (l0.drop (t + 1)) p1 = some (r1, rest')) ∧ Aside0 ((cur.set t p2).take (t + 1) ++ rest' = r2) ∧ Aside0 ((cur.set t p2).drop (t + 1) = l0.drop (t + 1)) ∧ Aside0 (∀ k, oki k → P0_ k ∨ N ≤ k) ∧
      Aside0 (∀ w2, Kept wr w2 oki → Kd.R Kd.string 9 w2 base (fun k_ => oki k_ ∨ wr.heap.size ≤ k_) v p2 → N ≤ wr.heap.size → Kd.S (Kd.slice 9 Kd.string) 22 w2 base (fun k_ => (P0_ k_ ∨ N ≤ k_)) (.slice (some ⟨g, 0, none⟩) l0.length c) (cur.set t p2)) := by
  obtain ⟨g, cap, hv, hgb, hgl, _⟩ := Kd.S_form hS (by omega)
  injection hv with hA _ _
  subst hA
  have hbound : l0.length ≤ 9223372036854775807 := by
    obtain ⟨inner, ho⟩ := Kd.S_own hS
    rcases ho.2 with ⟨hv, h0⟩ | ⟨g2, cap2, cur2, hv, _, _, h1, h2, _⟩
    · omega
    · simp only [maxLen] at h2
      omega
  obtain ⟨oki, cc, hcc, hMM, hcell, hoki, hH⟩ := Kd.S_lend hS ([] : List ByteArray) (t : Int) (by omega) (by omega)
  obtain ⟨v, rfl, hR⟩ := hMM
  have hcv : wr.cell? ⟨g, t, none⟩ = some v := by
    have := hcell 0 v rfl
    rwa [Int.toNat_natCast, show t * (Kd.slice 9 Kd.string).sz + 0 = t by show t * 1 + 0 = t; omega] at this
  have hx : cur.getD (t : Int).toNat ([] : List ByteArray) = cur[t]'(by omega) := by
    rw [Int.toNat_natCast, List.getD_eq_getElem?_getD, List.getElem?_eq_getElem (by omega)]
    rfl
  rw [hx] at hR
  have hd1 : cur.drop t = cur[t]'(by omega) :: cur.drop (t + 1) := List.drop_eq_getElem_cons (by omega)
  have hd2 : l0.drop t = l0[t]'hlt :: l0.drop (t + 1) := List.drop_eq_getElem_cons hlt
  rw [hd1, hd2] at hD
  obtain ⟨hd4, hd5⟩ := List.cons.inj hD
  rw [hd2, ← hd4, laws_markStringSS.mk] at hM
  obtain ⟨p, hp, hM⟩ := Option.bind_eq_some_iff.1 hM
  obtain ⟨q, hq, hM⟩ := Option.bind_eq_some_iff.1 hM
  obtain ⟨rfl, rfl⟩ := Prod.mk.inj (Option.some.inj hM)
  refine ⟨g, v, oki, _, p.1, p.2, q.2, rfl, hbound, hcv, ⟨hR⟩, ⟨by rw [hp]⟩, ⟨by rw [hq]⟩, ⟨?_⟩, ⟨by rw [List.drop_set_of_lt (by omega)]; exact hd5⟩, ⟨fun k hk => (hoki k hk).1⟩, ⟨fun w2 h3 h1 hN => ?_⟩⟩
  · rw [← hT, List.take_succ_eq_append_getElem (by rw [List.length_set]; omega), List.getElem_set_self, List.take_set_of_le (Nat.le_refl _), List.append_assoc]
    rfl
  · have h4 := Kd.H_kept (Kd.H_widen hH) h3 (fun k _ hn hk => hn (.inl hk))
    have h5 := Kd.H_back (x' := p.2) h4 (okp := fun k_ => oki k_ ∨ wr.heap.size ≤ k_) ⟨v, rfl, h1⟩ (fun k hk => hk.elim .inl (fun h => .inr ⟨.inr (Nat.le_trans hN h), h⟩))
    rwa [Int.toNat_natCast] at h5
set_option maxHeartbeats 4000000 in
set_option maxRecDepth 100000 in
theorem laws_markStringSS.calls (k : Nat) (P0_ : Nat → Prop) (u9000_ : Value) (l0 : List (List ByteArray)) (a1 : Int) (r1 : Int) (r2 : List (List ByteArray)) (w0 w : World) (hB : Below w0.heap.size w0 w) (ho0 : Kd.S (Kd.slice 9 Kd.string) 22 w w0.heap.size P0_ u9000_ l0) (h : laws_markStringSS.f k l0 a1 = some (r1, r2)) :
    Calls Tryd.prog 11 #[u9000_, .int .i64 a1] w fun e w' => e = .returned (.int .i64 r1) ∧ Kd.S (Kd.slice 9 Kd.string) 22 w' w0.heap.size (fun k_ => (P0_ k_ ∨ w.heap.size ≤ k_)) u9000_ r2 ∧ Below w0.heap.size w0 w' ∧ Kept w w' (fun k_ => P0_ k_) := by
  unfold laws_markStringSS.f at h
  have HS0 := Aside0.mk (Kd.S_mono (ok' := fun k_ => (P0_ k_ ∨ w.heap.size ≤ k_)) ho0 (fun k hk => .inl hk))
  have HB0 := Aside0.mk hB
  have HG := Aside0.mk h
  obtain ⟨A, c, rfl⟩ := Kd.S_slice ho0
  clear ho0 hB h
  go_enter Tryd.func11, Tryd.ntmps11
  go_wp2
  go_loopg [1, 5] l0.length (fun gg s1 s5 wr => ∃ (t : Nat) (n : Int) (cur rest : List (List ByteArray)), s1 = .int .i64 n ∧ s5 = .int .i64 t ∧ t + gg = l0.length ∧ cur.length = l0.length ∧ Aside0 (cur.drop t = l0.drop t) ∧ Aside0 (laws_markStringSS.mk k (l0.drop t) n = some (r1, rest)) ∧ Aside0 (cur.take t ++ rest = r2) ∧ Aside0 (Kd.S (Kd.slice 9 Kd.string) 22 wr w0.heap.size (fun k_ => (P0_ k_ ∨ w.heap.size ≤ k_)) (.slice A l0.length c) cur) ∧ Aside0 (Below w0.heap.size w0 wr) ∧ Aside0 (Kept w wr (fun k_ => P0_ k_)))
  case atStart => exact ⟨0, a1, l0, r2, rfl, rfl, by omega, rfl, ⟨rfl⟩, by rw [List.drop_zero]; exact HG, ⟨by simp⟩, HS0, HB0, ⟨Kept.refl _ _⟩⟩
  case round =>
    obtain ⟨t, n, cur, rest, rfl, rfl, ht, hcl, HD, HM, HT, HS, HB, HK⟩ := hrel
    by_cases hlt : t < l0.length
    · obtain ⟨d, rfl⟩ : ∃ d, gk = d + 1 := ⟨gk - 1, by omega⟩
      have htz0 : (0 : Int) ≤ (t : Int) := Int.natCast_nonneg _
      have htz1 : (t : Int) < (l0.length : Int) := by omega
      obtain ⟨g, v, oki, x0, p1, p2, rest', rfl, hbd, hcv, HR, HP, HQ, HT2, HD2, Hoki, HBK⟩ := laws_markStringSS.lend hlt hcl HD.out HM.out HT.out HS.out
      have HC := Aside0.mk (laws_markStringS.calls k oki v x0 n p1 p2 w0 wr HB.out HR.out HP.out)
      clear HM HD HT HS HS0 HB0 HG
      go_wp2_with (go_at_call 10; refine HC.out.mono ?_; rintro e w2 ⟨rfl, h1, h2, h3⟩)
      go_roundg d
      case measure => omega
      case rel => exact ⟨t + 1, p1, cur.set t p2, rest', rfl, by go_num, by omega, by rw [List.length_set]; exact hcl, HD2, HQ, HT2, ⟨HBK.out w2 h3 h1 HK.out.1⟩, ⟨h2⟩, ⟨HK.out.then_ h3 Hoki.out⟩⟩
    · obtain rfl : gk = 0 := by omega
      obtain rfl : t = l0.length := by omega
      have hm := HM.out
      rw [List.drop_length, laws_markStringSS.mk] at hm
      obtain ⟨rfl, rfl⟩ := Prod.mk.inj (Option.some.inj hm)
      have hr : cur = r2 := by
        have := HT.out
        rwa [List.append_nil, List.take_of_length_le (by omega)] at this
      subst hr
      go_wp2
      go_ret
      exact ⟨rfl, HS.out, HB.out, HK.out⟩

end Go.Proofs.YtcgkpdmejjgopaaDoor.P

namespace Go.Proofs.YtcgkpdmejjgopaaDoor.P
open Go.RowKit Go.Proofs.YtcgkpdmejjgopaaDoorW.PrintWords Go.Proofs.YtcgkpdmejjgopaaDoorW.PrintLast Go.Proofs.YtcgkpdmejjgopaaDoorW.PrintMore
attribute [local go_sem] max2_int min2_int max_two min_two max_three min_three max_four min_four   -- for this text's walks alone
set_option linter.unusedVariables false
set_option linter.unusedSimpArgs false

/-! ### laws_heldStringS: function 20 -/
def laws_heldStringS.l0 : Nat → List ByteArray → Int → Int → Option (Int)
  | 0, _, _, _ => none
  | k + 1, x0, x1, x5 => if x5 < (x0.length : Int) then (if 0 ≤ x5 then ((laws_markText.f k x1).bind fun t183 => (if (rdOf ByteArray.empty x0 x5).toList = t183.toList then (laws_heldStringS.l0 k x0 (wrap64 (x1 + 1)) (wrap64 (x5 + 1))) else (some (-1)))) else (none)) else (some x1)
def laws_heldStringS.f (k : Nat) (l0 : List ByteArray) (a1 : Int) : Option (Int) := laws_heldStringS.l0 k l0 a1 0
theorem laws_heldStringS.mono_l : ∀ k, (∀ y0 y1 y2, LeO (laws_heldStringS.l0 k y0 y1 y2) (laws_heldStringS.l0 (k + 1) y0 y1 y2))
  | 0 => fun _ _ _ r h => by simp [laws_heldStringS.l0] at h
  | k + 1 => by
    have ih0 := laws_heldStringS.mono_l k
    · intro y0 y1 y2
      unfold laws_heldStringS.l0
      repeat' first
      | (with_reducible exact ih0 _ _ _)
      | (with_reducible exact laws_markText.mono _ _)
      | (with_reducible exact LeO.refl _)
      | (with_reducible exact LeO.none _)
      | (with_reducible refine LeO.ite ?_ ?_)
      | (with_reducible refine LeO.bind ?_ (fun _ => ?_))
      | exact ih0 _ _ _
      | exact laws_markText.mono _ _
      | exact LeO.none _
      | refine LeO.ite ?_ ?_
      | refine LeO.bind ?_ (fun _ => ?_)
theorem laws_heldStringS.mono : ∀ a0 a1 k, LeO (laws_heldStringS.f k a0 a1) (laws_heldStringS.f (k + 1) a0 a1) := by
  intro a0 a1 k
  have ih0 := laws_heldStringS.mono_l k
  unfold laws_heldStringS.f
  repeat' first
      | (with_reducible exact ih0 _ _ _)
      | (with_reducible exact laws_markText.mono _ _)
      | (with_reducible exact LeO.refl _)
      | (with_reducible exact LeO.none _)
      | (with_reducible refine LeO.ite ?_ ?_)
      | (with_reducible refine LeO.bind ?_ (fun _ => ?_))
      | exact ih0 _ _ _
      | exact laws_markText.mono _ _
      | exact LeO.none _
      | refine LeO.ite ?_ ?_
      | refine LeO.bind ?_ (fun _ => ?_)
set_option maxHeartbeats 8000000 in
set_option maxRecDepth 100000 in
theorem laws_heldStringS.calls (k : Nat) (A0 : Option Addr) (c0 : Nat) (l0 : List ByteArray) (a1 : Int) (r : Int) (w : World) (hr0 : Kd.C Kd.string w A0 l0.length l0) (hc0 : l0.length ≤ c0) (h : laws_heldStringS.f k l0 a1 = some r) :
    Calls Tryd.prog 20 #[.slice A0 l0.length c0, .int .i64 a1] w fun e w' => e = .returned (.int .i64 r) ∧ Below w.heap.size w w' := by
  have HR0 := Aside0.mk hr0
  have HC0 := Aside0.mk hc0
  clear hr0 hc0
  have HB := Aside0.mk (Below.refl w.heap.size w)
  have H : (laws_heldStringS.l0 k l0 a1 0) = some r := h
  clear h
  have H' := Aside0.mk H
  clear H
  go_enter Tryd.func20, Tryd.ntmps20
  go_wp2
  go_loopg [1, 5] k (fun kq v1 v5 w' => ∃ (x1_1 : Int) (x5_1 : Int), v1 = .int .i64 x1_1 ∧ v5 = .int .i64 x5_1 ∧ Aside0 (laws_heldStringS.l0 kq l0 x1_1 x5_1 = some r) ∧ Aside0 (kq ≤ k) ∧ Aside0 (Below w.heap.size w w'))
  case atStart => exact ⟨(a1), (0), (by first | rfl | (simp; done) | (simp [*]; done)), (by first | rfl | (simp; done) | (simp [*]; done)), H', ⟨Nat.le_refl _⟩, ⟨by repeat (first | (with_reducible first | exact HB.out | apply below_alloc | apply pw_below_drewN | apply below_drew1) | exact HB.out)⟩⟩
  case round =>
    clear H'
    try clear c2
    try clear p2
    obtain ⟨x1_1, x5_1, rfl, rfl, HA, HK1, HB⟩ := hrel
    cases gk with
    | zero => exact absurd HA.out (by simp [laws_heldStringS.l0])
    | succ k1 =>
      have H := HA.out
      clear HA
      simp only [laws_heldStringS.l0] at H
      by_cases c3 : x5_1 < (l0.length : Int)
      · rw [if_pos c3] at H
        have c3b0 : decide (x5_1 < (l0.length : Int)) = true := decide_eq_true c3
        clear c3
        by_cases c4 : 0 ≤ x5_1
        · rw [if_pos c4] at H
          have c4b0 : decide (0 ≤ x5_1) = true := decide_eq_true c4
          clear c4
          replace H := Option.bind_eq_some_iff.mp H
          obtain ⟨t183, A50, H⟩ := H
          replace H : (if (rdOf ByteArray.empty l0 x5_1).toList = t183.toList then (laws_heldStringS.l0 k1 l0 (wrap64 (x1_1 + 1)) (wrap64 (x5_1 + 1))) else (some (-1))) = some r := H
          have A5 := Aside0.mk A50
          clear A50
          by_cases c6 : (rdOf ByteArray.empty l0 x5_1).toList = t183.toList
          · rw [if_pos c6] at H
            have c6b0 : ((rdOf ByteArray.empty l0 x5_1).toList == t183.toList) = true := beq_iff_eq.mpr c6
            have c6b1 : ((rdOf ByteArray.empty l0 x5_1).toList != t183.toList) = false := bne_eq_false_iff_eq.mpr c6
            clear c6
            have H' := Aside0.mk H
            clear H
            try go_wp2
            have n0_ := Aside0.mk (below_drew1 HB.out)
            clear HB
            have HB := n0_
            clear n0_
            have p182 : 0 ≤ (x5_1 : Int) := of_decide_eq_true (by first | (with_reducible assumption) | assumption)
            have q182 : x5_1 < (l0.length : Int) := of_decide_eq_true (by first | (with_reducible assumption) | assumption)
            obtain ⟨ad182, e182, hx182_0⟩ := Kd.at_string HR0.out x5_1 p182 q182
            have hw182_0 := hx182_0
            cases e182
            replace hx182_0 := (HB.out.cell (World.block_lt_of_cell? w _ hx182_0)).trans hx182_0
            replace p182 := eq_true p182
            replace q182 := eq_true q182
            refine start_ (n := 7) (S := fun w' => w'.cell? (ad182.add (x5_1).toNat) = some (.string (rdOf ByteArray.empty l0 x5_1))) (ds := []) #[false, false, false, false, false, false, false] (by kernel_rfl) rfl rfl (((HB.out.cell (World.block_lt_of_cell? w _ hw182_0)).trans hw182_0)) (fun hHeld => ?_)
            generalize wr.drew = w7 at HB hx182_0 hHeld ⊢
            refine pure_ (i := 0) (N := some 12) (v := ?_) (a' := ?_) #[true, false, false, false, false, false, false] rfl rfl (by kernel_rfl) (fun _ _ _ h => h) (Or.inl ⟨by rfl, ?_⟩) ?_ ?_
            rotate_left
            · intro w'
              go_simp
              with_reducible rfl
            rotate_left
            · simp only [Act.put, List.setIfInBounds_toArray, List.set_cons_zero, List.set_cons_succ, i64_w, i32_w]
              rfl
            refine pure_ (i := 1) (N := some 13) (v := ?_) (a' := ?_) #[true, true, false, false, false, false, false] rfl rfl (by kernel_rfl) (fun _ _ _ h => h) (Or.inl ⟨by rfl, ?_⟩) ?_ ?_
            rotate_left
            · intro w'
              go_simp
              with_reducible rfl
            rotate_left
            · simp only [Act.put, List.setIfInBounds_toArray, List.set_cons_zero, List.set_cons_succ, i64_w, i32_w]
              rfl
            refine pure_ (i := 2) (N := some 14) (v := ?_) (a' := ?_) #[true, true, true, false, false, false, false] rfl rfl (by kernel_rfl) (fun _ _ _ h => h) (Or.inl ⟨by rfl, ?_⟩) ?_ ?_
            rotate_left
            · intro w'
              go_simp
              with_reducible rfl
            rotate_left
            · simp only [Act.put, List.setIfInBounds_toArray, List.set_cons_zero, List.set_cons_succ, i64_w, i32_w]
              rfl
            refine pure_ (i := 4) (N := some 16) (v := ?_) (a' := ?_) #[true, true, true, false, true, false, false] rfl rfl (by kernel_rfl) (fun _ _ _ h => h) (Or.inl ⟨by rfl, ?_⟩) ?_ ?_
            rotate_left
            · intro w'
              go_simp
              with_reducible rfl
            rotate_left
            · simp only [Act.put, List.setIfInBounds_toArray, List.set_cons_zero, List.set_cons_succ, i64_w, i32_w]
              rfl
            refine take_ (i := 3) (N := some 15) (v := ?_) (a' := ?_) #[true, true, true, true, true, false, false] rfl rfl (by kernel_rfl) (fun _ _ _ h => h) (Or.inl ⟨by rfl, ?_⟩) hHeld ?_ ?_
            rotate_left
            · intro w' s0
              go_simp
              with_reducible rfl
            rotate_left
            · simp only [Act.put, List.setIfInBounds_toArray, List.set_cons_zero, List.set_cons_succ, i64_w, i32_w]
              rfl
            refine one_ (i := 5) (N := some 17) #[true, true, true, true, true, true, false] rfl rfl (by kernel_rfl) (by decide) (fun K hK => ?_)
            refine goes_ Tryd.func19 (by kernel_rfl) rfl #[.int .i64 x1_1] (by rfl) rfl rfl (by (try simp only [List.map_toArray, List.map_cons, List.map_nil]); first | done | rfl | (simp only [List.length_drop, List.length_take]; rfl)) ?_
            with_reducible refine (laws_markText.calls k1 x1_1 t183 _ A5.out).mono ?_
            rintro e w8 ⟨rfl, hb⟩
            refine ⟨_, rfl, ?_⟩
            have n0_ := Aside0.mk (below_step (by repeat (first | (with_reducible first | exact HB.out | apply below_alloc | apply pw_below_drewN | apply below_drew1) | exact HB.out)) hb)
            clear HB
            have HB := n0_
            clear n0_
            (try clear hb)
            (try clear hb2)
            (try clear hk)
            (try clear hi)
            refine hK.out _ _ (((HB.out.cell (World.block_lt_of_cell? w _ hw182_0)).trans hw182_0)) (fun hHeld => ?_)
            clear hK K
            refine norm_ (a' := ?_) ?_ ?_
            rotate_left
            · show Act.put _ (some 17) _ = _
              simp only [Act.put, List.setIfInBounds_toArray, List.set_cons_zero, List.set_cons_succ, i64_w, i32_w]
              rfl
            refine pure_ (i := 6) (N := some 18) (v := ?_) (a' := ?_) #[true, true, true, true, true, true, true] rfl rfl (by kernel_rfl) (fun _ _ _ h => h) (Or.inl ⟨by rfl, ?_⟩) ?_ ?_
            rotate_left
            · intro w'
              go_simp
              with_reducible rfl
            rotate_left
            · simp only [Act.put, List.setIfInBounds_toArray, List.set_cons_zero, List.set_cons_succ, i64_w, i32_w]
              rfl
            refine done_ (by kernel_rfl) ?_
            try go_wp2
            go_roundg k1
            case measure => have := HK1.out; omega
            case rel => exact ⟨(wrap64 (x1_1 + 1)), (wrap64 (x5_1 + 1)), (by first | rfl | (simp; done) | (simp [*]; done)), (by first | rfl | (simp; done) | (simp [*]; done)), H', ⟨by have := HK1.out; omega⟩, ⟨by repeat (first | (with_reducible first | exact HB.out | apply below_alloc | apply pw_below_drewN | apply below_drew1) | exact HB.out)⟩⟩
          · rw [if_neg c6] at H
            have c6b0 : ((rdOf ByteArray.empty l0 x5_1).toList == t183.toList) = false := beq_eq_false_iff_ne.mpr c6
            have c6b1 : ((rdOf ByteArray.empty l0 x5_1).toList != t183.toList) = true := bne_iff_ne.mpr c6
            obtain rfl := Option.some.inj H
            try go_wp2
            have n0_ := Aside0.mk (below_drew1 HB.out)
            clear HB
            have HB := n0_
            clear n0_
            have p182 : 0 ≤ (x5_1 : Int) := of_decide_eq_true (by first | (with_reducible assumption) | assumption)
            have q182 : x5_1 < (l0.length : Int) := of_decide_eq_true (by first | (with_reducible assumption) | assumption)
            obtain ⟨ad182, e182, hx182_0⟩ := Kd.at_string HR0.out x5_1 p182 q182
            have hw182_0 := hx182_0
            cases e182
            replace hx182_0 := (HB.out.cell (World.block_lt_of_cell? w _ hx182_0)).trans hx182_0
            replace p182 := eq_true p182
            replace q182 := eq_true q182
            refine start_ (n := 7) (S := fun w' => w'.cell? (ad182.add (x5_1).toNat) = some (.string (rdOf ByteArray.empty l0 x5_1))) (ds := []) #[false, false, false, false, false, false, false] (by kernel_rfl) rfl rfl (((HB.out.cell (World.block_lt_of_cell? w _ hw182_0)).trans hw182_0)) (fun hHeld => ?_)
            generalize wr.drew = w9 at HB hx182_0 hHeld ⊢
            refine pure_ (i := 0) (N := some 12) (v := ?_) (a' := ?_) #[true, false, false, false, false, false, false] rfl rfl (by kernel_rfl) (fun _ _ _ h => h) (Or.inl ⟨by rfl, ?_⟩) ?_ ?_
            rotate_left
            · intro w'
              go_simp
              with_reducible rfl
            rotate_left
            · simp only [Act.put, List.setIfInBounds_toArray, List.set_cons_zero, List.set_cons_succ, i64_w, i32_w]
              rfl
            refine pure_ (i := 1) (N := some 13) (v := ?_) (a' := ?_) #[true, true, false, false, false, false, false] rfl rfl (by kernel_rfl) (fun _ _ _ h => h) (Or.inl ⟨by rfl, ?_⟩) ?_ ?_
            rotate_left
            · intro w'
              go_simp
              with_reducible rfl
            rotate_left
            · simp only [Act.put, List.setIfInBounds_toArray, List.set_cons_zero, List.set_cons_succ, i64_w, i32_w]
              rfl
            refine pure_ (i := 2) (N := some 14) (v := ?_) (a' := ?_) #[true, true, true, false, false, false, false] rfl rfl (by kernel_rfl) (fun _ _ _ h => h) (Or.inl ⟨by rfl, ?_⟩) ?_ ?_
            rotate_left
            · intro w'
              go_simp
              with_reducible rfl
            rotate_left
            · simp only [Act.put, List.setIfInBounds_toArray, List.set_cons_zero, List.set_cons_succ, i64_w, i32_w]
              rfl
            refine pure_ (i := 4) (N := some 16) (v := ?_) (a' := ?_) #[true, true, true, false, true, false, false] rfl rfl (by kernel_rfl) (fun _ _ _ h => h) (Or.inl ⟨by rfl, ?_⟩) ?_ ?_
            rotate_left
            · intro w'
              go_simp
              with_reducible rfl
            rotate_left
            · simp only [Act.put, List.setIfInBounds_toArray, List.set_cons_zero, List.set_cons_succ, i64_w, i32_w]
              rfl
            refine take_ (i := 3) (N := some 15) (v := ?_) (a' := ?_) #[true, true, true, true, true, false, false] rfl rfl (by kernel_rfl) (fun _ _ _ h => h) (Or.inl ⟨by rfl, ?_⟩) hHeld ?_ ?_
            rotate_left
            · intro w' s0
              go_simp
              with_reducible rfl
            rotate_left
            · simp only [Act.put, List.setIfInBounds_toArray, List.set_cons_zero, List.set_cons_succ, i64_w, i32_w]
              rfl
            refine one_ (i := 5) (N := some 17) #[true, true, true, true, true, true, false] rfl rfl (by kernel_rfl) (by decide) (fun K hK => ?_)
            refine goes_ Tryd.func19 (by kernel_rfl) rfl #[.int .i64 x1_1] (by rfl) rfl rfl (by (try simp only [List.map_toArray, List.map_cons, List.map_nil]); first | done | rfl | (simp only [List.length_drop, List.length_take]; rfl)) ?_
            with_reducible refine (laws_markText.calls k1 x1_1 t183 _ A5.out).mono ?_
            rintro e w10 ⟨rfl, hb⟩
            refine ⟨_, rfl, ?_⟩
            have n0_ := Aside0.mk (below_step (by repeat (first | (with_reducible first | exact HB.out | apply below_alloc | apply pw_below_drewN | apply below_drew1) | exact HB.out)) hb)
            clear HB
            have HB := n0_
            clear n0_
            (try clear hb)
            (try clear hb2)
            (try clear hk)
            (try clear hi)
            refine hK.out _ _ (((HB.out.cell (World.block_lt_of_cell? w _ hw182_0)).trans hw182_0)) (fun hHeld => ?_)
            clear hK K
            refine norm_ (a' := ?_) ?_ ?_
            rotate_left
            · show Act.put _ (some 17) _ = _
              simp only [Act.put, List.setIfInBounds_toArray, List.set_cons_zero, List.set_cons_succ, i64_w, i32_w]
              rfl
            refine pure_ (i := 6) (N := some 18) (v := ?_) (a' := ?_) #[true, true, true, true, true, true, true] rfl rfl (by kernel_rfl) (fun _ _ _ h => h) (Or.inl ⟨by rfl, ?_⟩) ?_ ?_
            rotate_left
            · intro w'
              go_simp
              with_reducible rfl
            rotate_left
            · simp only [Act.put, List.setIfInBounds_toArray, List.set_cons_zero, List.set_cons_succ, i64_w, i32_w]
              rfl
            refine done_ (by kernel_rfl) ?_
            try go_wp2
            go_ret
            exact ⟨by first | rfl | (simp [errW_none, errW_some] <;> rfl) | (simp [*, errW_none, errW_some] <;> rfl), by repeat (first | (with_reducible first | exact HB.out | apply below_alloc | apply pw_below_drewN | apply below_drew1) | exact HB.out)⟩
        · rw [if_neg c4] at H
          exact absurd H (by simp)
      · rw [if_neg c3] at H
        have c3b0 : decide (x5_1 < (l0.length : Int)) = false := decide_eq_false c3
        clear c3
        obtain rfl := Option.some.inj H
        go_wp2
        go_ret
        exact ⟨by first | rfl | (simp [errW_none, errW_some] <;> rfl) | (simp [*, errW_none, errW_some] <;> rfl), by repeat (first | (with_reducible first | exact HB.out | apply below_alloc | apply pw_below_drewN | apply below_drew1) | exact HB.out)⟩

end Go.Proofs.YtcgkpdmejjgopaaDoor.P

namespace Go.Proofs.YtcgkpdmejjgopaaDoor.P
open Go.RowKit Go.Proofs.YtcgkpdmejjgopaaDoorW.PrintWords Go.Proofs.YtcgkpdmejjgopaaDoorW.PrintLast Go.Proofs.YtcgkpdmejjgopaaDoorW.PrintMore
attribute [local go_sem] max2_int min2_int max_two min_two max_three min_three max_four min_four   -- for this text's walks alone
set_option linter.unusedVariables false
set_option linter.unusedSimpArgs false

/-! ### laws_heldStringSS: function 12 -/
def laws_heldStringSS.l0 : Nat → List (List ByteArray) → Int → Int → Option (Int)
  | 0, _, _, _ => none
  | k + 1, x0, x1, x5 => if x5 < (x0.length : Int) then (if 0 ≤ x5 then ((laws_heldStringS.f k (rd_L1 x0 x5) x1).bind fun t185 => (if t185 < 0 then (some (-1)) else (laws_heldStringSS.l0 k x0 t185 (wrap64 (x5 + 1))))) else (none)) else (some x1)
def laws_heldStringSS.f (k : Nat) (l0 : List (List ByteArray)) (a1 : Int) : Option (Int) := laws_heldStringSS.l0 k l0 a1 0
theorem laws_heldStringSS.mono_l : ∀ k, (∀ y0 y1 y2, LeO (laws_heldStringSS.l0 k y0 y1 y2) (laws_heldStringSS.l0 (k + 1) y0 y1 y2))
  | 0 => fun _ _ _ r h => by simp [laws_heldStringSS.l0] at h
  | k + 1 => by
    have ih0 := laws_heldStringSS.mono_l k
    · intro y0 y1 y2
      unfold laws_heldStringSS.l0
      repeat' first
      | (with_reducible exact ih0 _ _ _)
      | (with_reducible exact laws_heldStringS.mono _ _ _)
      | (with_reducible exact LeO.refl _)
      | (with_reducible exact LeO.none _)
      | (with_reducible refine LeO.ite ?_ ?_)
      | (with_reducible refine LeO.bind ?_ (fun _ => ?_))
      | exact ih0 _ _ _
      | exact laws_heldStringS.mono _ _ _
      | exact LeO.none _
      | refine LeO.ite ?_ ?_
      | refine LeO.bind ?_ (fun _ => ?_)
theorem laws_heldStringSS.mono : ∀ a0 a1 k, LeO (laws_heldStringSS.f k a0 a1) (laws_heldStringSS.f (k + 1) a0 a1) := by
  intro a0 a1 k
  have ih0 := laws_heldStringSS.mono_l k
  unfold laws_heldStringSS.f
  repeat' first
      | (with_reducible exact ih0 _ _ _)
      | (with_reducible exact laws_heldStringS.mono _ _ _)
      | (with_reducible exact LeO.refl _)
      | (with_reducible exact LeO.none _)
      | (with_reducible refine LeO.ite ?_ ?_)
      | (with_reducible refine LeO.bind ?_ (fun _ => ?_))
      | exact ih0 _ _ _
      | exact laws_heldStringS.mono _ _ _
      | exact LeO.none _
      | refine LeO.ite ?_ ?_
      | refine LeO.bind ?_ (fun _ => ?_)
set_option maxHeartbeats 8000000 in
set_option maxRecDepth 100000 in
theorem laws_heldStringSS.calls (k : Nat) (A0 : Option Addr) (c0 : Nat) (l0 : List (List ByteArray)) (a1 : Int) (r : Int) (w : World) (hr0 : Kd.C (Kd.slice 9 Kd.string) w A0 l0.length l0) (hc0 : l0.length ≤ c0) (h : laws_heldStringSS.f k l0 a1 = some r) :
    Calls Tryd.prog 12 #[.slice A0 l0.length c0, .int .i64 a1] w fun e w' => e = .returned (.int .i64 r) ∧ Below w.heap.size w w' := by
  have HR0 := Aside0.mk hr0
  have HC0 := Aside0.mk hc0
  clear hr0 hc0
  have HB := Aside0.mk (Below.refl w.heap.size w)
  have H : (laws_heldStringSS.l0 k l0 a1 0) = some r := h
  clear h
  have H' := Aside0.mk H
  clear H
  go_enter Tryd.func12, Tryd.ntmps12
  go_wp2
  go_loopg [1, 5] k (fun kq v1 v5 w' => ∃ (x1_1 : Int) (x5_1 : Int), v1 = .int .i64 x1_1 ∧ v5 = .int .i64 x5_1 ∧ Aside0 (laws_heldStringSS.l0 kq l0 x1_1 x5_1 = some r) ∧ Aside0 (kq ≤ k) ∧ Aside0 (Below w.heap.size w w'))
  case atStart => exact ⟨(a1), (0), (by first | rfl | (simp; done) | (simp [*]; done)), (by first | rfl | (simp; done) | (simp [*]; done)), H', ⟨Nat.le_refl _⟩, ⟨by repeat (first | (with_reducible first | exact HB.out | apply below_alloc | apply pw_below_drewN | apply below_drew1) | exact HB.out)⟩⟩
  case round =>
    clear H'
    try clear c1
    try clear p2
    obtain ⟨x1_1, x5_1, rfl, rfl, HA, HK1, HB⟩ := hrel
    cases gk with
    | zero => exact absurd HA.out (by simp [laws_heldStringSS.l0])
    | succ k1 =>
      have H := HA.out
      clear HA
      simp only [laws_heldStringSS.l0] at H
      by_cases c3 : x5_1 < (l0.length : Int)
      · rw [if_pos c3] at H
        have c3b0 : decide (x5_1 < (l0.length : Int)) = true := decide_eq_true c3
        clear c3
        by_cases c4 : 0 ≤ x5_1
        · rw [if_pos c4] at H
          have c4b0 : decide (0 ≤ x5_1) = true := decide_eq_true c4
          clear c4
          replace H := Option.bind_eq_some_iff.mp H
          obtain ⟨t185, A50, H⟩ := H
          replace H : (if t185 < 0 then (some (-1)) else (laws_heldStringSS.l0 k1 l0 t185 (wrap64 (x5_1 + 1)))) = some r := H
          have A5 := Aside0.mk A50
          clear A50
          by_cases c6 : t185 < 0
          · rw [if_pos c6] at H
            have c6b0 : decide (t185 < 0) = true := decide_eq_true c6
            clear c6
            obtain rfl := Option.some.inj H
            have p184 : 0 ≤ (x5_1 : Int) := of_decide_eq_true (by first | (with_reducible assumption) | assumption)
            have q184 : x5_1 < (l0.length : Int) := of_decide_eq_true (by first | (with_reducible assumption) | assumption)
            obtain ⟨ad184, A184_0, c184_0, e184, hx184_0, hl184_0, hi184_0⟩ := at_L1 HR0.out x5_1 p184 q184
            cases e184
            replace hx184_0 := (HB.out.cell (World.block_lt_of_cell? w _ hx184_0)).trans hx184_0
            have HR184_0 := Aside0.mk hi184_0
            have HC184_0 := Aside0.mk hl184_0
            clear hi184_0 hl184_0
            replace p184 := eq_true p184
            replace q184 := eq_true q184
            go_wp2_with (first | ((with_reducible refine gate_callee (f := 20) rfl ?_); refine goesL_ (some 17) rfl rfl Tryd.func20 (by kernel_rfl) rfl #[.slice A184_0 (rd_L1 l0 x5_1).length c184_0, .int .i64 x1_1] rfl (by (try simp only [List.map_toArray, List.map_cons, List.map_nil]); first | done | rfl | (simp only [List.length_drop, List.length_take]; rfl)) ?_; (with_reducible refine (laws_heldStringS.calls k1 _ _ (rd_L1 l0 x5_1) x1_1 t185 _ ?side1 ?side2 A5.out).mono ?_); (case side1 => repeat (first | exact (Kd.C_below HR184_0.out HB.out) | (with_reducible refine Kd.C_alloc ?_ _) | (with_reducible refine Kd.C_drewN ?_ _) | (with_reducible refine Kd.C_drew ?_))); (case side2 => exact HC184_0.out); rintro e w7 ⟨rfl, hb⟩; refine ⟨_, rfl, ?_⟩; have n0_ := Aside0.mk (below_step (by repeat (first | (with_reducible first | exact HB.out | apply below_alloc | apply pw_below_drewN | apply below_drew1) | exact HB.out)) hb); clear HB; have HB := n0_; clear n0_; (try clear hb); (try clear hb2); (try clear hk); (try clear hi)))
            go_ret
            exact ⟨by first | rfl | (simp [errW_none, errW_some] <;> rfl) | (simp [*, errW_none, errW_some] <;> rfl), by repeat (first | (with_reducible first | exact HB.out | apply below_alloc | apply pw_below_drewN | apply below_drew1) | exact HB.out)⟩
          · rw [if_neg c6] at H
            have c6b0 : decide (t185 < 0) = false := decide_eq_false c6
            clear c6
            have H' := Aside0.mk H
            clear H
            have p184 : 0 ≤ (x5_1 : Int) := of_decide_eq_true (by first | (with_reducible assumption) | assumption)
            have q184 : x5_1 < (l0.length : Int) := of_decide_eq_true (by first | (with_reducible assumption) | assumption)
            obtain ⟨ad184, A184_0, c184_0, e184, hx184_0, hl184_0, hi184_0⟩ := at_L1 HR0.out x5_1 p184 q184
            cases e184
            replace hx184_0 := (HB.out.cell (World.block_lt_of_cell? w _ hx184_0)).trans hx184_0
            have HR184_0 := Aside0.mk hi184_0
            have HC184_0 := Aside0.mk hl184_0
            clear hi184_0 hl184_0
            replace p184 := eq_true p184
            replace q184 := eq_true q184
            go_wp2_with (first | ((with_reducible refine gate_callee (f := 20) rfl ?_); refine goesL_ (some 17) rfl rfl Tryd.func20 (by kernel_rfl) rfl #[.slice A184_0 (rd_L1 l0 x5_1).length c184_0, .int .i64 x1_1] rfl (by (try simp only [List.map_toArray, List.map_cons, List.map_nil]); first | done | rfl | (simp only [List.length_drop, List.length_take]; rfl)) ?_; (with_reducible refine (laws_heldStringS.calls k1 _ _ (rd_L1 l0 x5_1) x1_1 t185 _ ?side1 ?side2 A5.out).mono ?_); (case side1 => repeat (first | exact (Kd.C_below HR184_0.out HB.out) | (with_reducible refine Kd.C_alloc ?_ _) | (with_reducible refine Kd.C_drewN ?_ _) | (with_reducible refine Kd.C_drew ?_))); (case side2 => exact HC184_0.out); rintro e w8 ⟨rfl, hb⟩; refine ⟨_, rfl, ?_⟩; have n0_ := Aside0.mk (below_step (by repeat (first | (with_reducible first | exact HB.out | apply below_alloc | apply pw_below_drewN | apply below_drew1) | exact HB.out)) hb); clear HB; have HB := n0_; clear n0_; (try clear hb); (try clear hb2); (try clear hk); (try clear hi)))
            go_roundg k1
            case measure => have := HK1.out; omega
            case rel => exact ⟨(t185), (wrap64 (x5_1 + 1)), (by first | rfl | (simp; done) | (simp [*]; done)), (by first | rfl | (simp; done) | (simp [*]; done)), H', ⟨by have := HK1.out; omega⟩, ⟨by repeat (first | (with_reducible first | exact HB.out | apply below_alloc | apply pw_below_drewN | apply below_drew1) | exact HB.out)⟩⟩
        · rw [if_neg c4] at H
          exact absurd H (by simp)
      · rw [if_neg c3] at H
        have c3b0 : decide (x5_1 < (l0.length : Int)) = false := decide_eq_false c3
        clear c3
        obtain rfl := Option.some.inj H
        go_wp2
        go_ret
        exact ⟨by first | rfl | (simp [errW_none, errW_some] <;> rfl) | (simp [*, errW_none, errW_some] <;> rfl), by repeat (first | (with_reducible first | exact HB.out | apply below_alloc | apply pw_below_drewN | apply below_drew1) | exact HB.out)⟩

end Go.Proofs.YtcgkpdmejjgopaaDoor.P

namespace Go.Proofs.YtcgkpdmejjgopaaDoor.P
open Go.RowKit Go.Proofs.YtcgkpdmejjgopaaDoorW.PrintWords Go.Proofs.YtcgkpdmejjgopaaDoorW.PrintLast Go.Proofs.YtcgkpdmejjgopaaDoorW.PrintMore
attribute [local go_sem] max2_int min2_int max_two min_two max_three min_three max_four min_four   -- for this text's walks alone
set_option linter.unusedVariables false
set_option linter.unusedSimpArgs false

/-! ### laws_FnExactSharedKeys: function 3 -/
def laws_FnExactSharedKeys.f (k : Nat) (l0 : List ByteArray) : Option (Bool) :=
  (laws_szStringS.f k l0 1048576).bind fun left => (if left < 0 then (some true) else ((laws_toStringS.f k l0).bind fun t => ((spec_SharedKeys.f k t).bind fun sw => ((impl_SharedKeys.f k t).bind fun ig => ((laws_eqStringSS.f k ig.1 sw.1).bind fun b1 => ((laws_eqStringS.f k t t).bind fun b2 => ((laws_markStringS.f k t 1).bind fun m1 => ((laws_markStringSS.f k ig.1 1).bind fun m2 => ((laws_heldStringSS.f k m2.2 1).bind fun q => (if b1 = true ∧ ig.2 = sw.2 ∧ b2 = true ∧ 0 ≤ m1.1 ∧ q = m2.1 ∧ 0 ≤ q then (some true) else (none)))))))))))
set_option maxHeartbeats 8000000 in
set_option maxRecDepth 100000 in
theorem laws_FnExactSharedKeys.calls (k : Nat) (A0 : Option Addr) (c0 : Nat) (l0 : List ByteArray) (r : Bool) (w : World) (hr0 : Kd.C Kd.string w A0 l0.length l0) (hc0 : l0.length ≤ c0) (h : laws_FnExactSharedKeys.f k l0 = some r) :
    Calls Tryd.prog 3 #[.slice A0 l0.length c0] w fun e w' => e = .returned (.bool r) ∧ Below w.heap.size w w' := by
  unfold laws_FnExactSharedKeys.f at h
  obtain ⟨left, hsz, h⟩ := Option.bind_eq_some_iff.1 h
  have HSz := laws_szStringS.calls k A0 c0 l0 1048576 left w hr0 hc0 hsz
  split at h
  · rename_i hl
    obtain rfl := Option.some.inj h
    have hd : decide (left < 0) = true := decide_eq_true hl
    go_enter Tryd.func3, Tryd.ntmps3
    go_wp2_with fail
    refine HSz.mono ?_
    rintro e w1 ⟨rfl, hd1⟩
    go_wp2_with fail
    go_ret
    exact ⟨rfl, hd1.below⟩
  · rename_i hl
    obtain ⟨t, ht, h⟩ := Option.bind_eq_some_iff.1 h
    obtain ⟨⟨sw1, sw2⟩, hsw, h⟩ := Option.bind_eq_some_iff.1 h
    obtain ⟨⟨ig1, ig2⟩, hig, h⟩ := Option.bind_eq_some_iff.1 h
    obtain ⟨b1, hb1, h⟩ := Option.bind_eq_some_iff.1 h
    obtain ⟨b2, hb2, h⟩ := Option.bind_eq_some_iff.1 h
    obtain ⟨⟨m1, mt⟩, hm1, h⟩ := Option.bind_eq_some_iff.1 h
    obtain ⟨⟨m2, mg⟩, hm2, h⟩ := Option.bind_eq_some_iff.1 h
    obtain ⟨q, hq, h⟩ := Option.bind_eq_some_iff.1 h
    dsimp only at hb1 hm2 hq h
    have hFin := h
    clear h
    split at hFin
    · rename_i hall
      obtain rfl := Option.some.inj hFin
      clear hFin
      obtain ⟨rfl, rfl, rfl, hm1z, rfl, hqz⟩ := hall
      have hd : decide (left < 0) = false := decide_eq_false hl
      have hdm : decide (m1 < 0) = false := decide_eq_false (by omega)
      have hdq : decide (q < 0) = false := decide_eq_false (by omega)
      have HT := Aside0.mk (fun W (hb : Below w.heap.size w W) => laws_toStringS.calls k A0 c0 l0 t W (Kd.C_below hr0 hb) hc0 ht)
      go_enter Tryd.func3, Tryd.ntmps3
      go_wp2_with fail
      refine HSz.mono ?_
      rintro e w1 ⟨rfl, hd1⟩
      have B1 := Aside0.mk hd1.below
      clear hd1 HSz
      go_wp2_with fail
      refine (HT.out w1 B1.out).mono ?_
      rintro e w2 ⟨v1, rfl, hR1, hb2_⟩
      obtain ⟨A1, c1, rfl⟩ := Kd.R_slice hR1
      have B2 := Aside0.mk (below_step B1.out hb2_)
      have HS := Aside0.mk (spec_SharedKeys.calls k A1 c1 t sw1 ig2 w2 (Kd.R_reads' hR1).2.2 (Kd.R_reads' hR1).2.1 hsw)
      clear hR1 hb2_
      go_wp2_with fail
      refine HS.out.mono ?_
      rintro e w3 ⟨vW, rfl, hS3, hb3_⟩
      obtain ⟨AW, cW, rfl⟩ := Kd.S_slice hS3
      have B3 := Aside0.mk (below_step B2.out hb3_)
      have CW := Aside0.mk (Kd.S_reads' hS3).2.2
      have LW := Aside0.mk (Kd.S_reads' hS3).2.1
      clear hS3 hb3_ HS
      go_wp2_with fail
      refine (HT.out w3 B3.out).mono ?_
      rintro e w4 ⟨v4, rfl, hR4, hb4_⟩
      obtain ⟨AX, cX, rfl⟩ := Kd.R_slice hR4
      have B34 := Aside0.mk hb4_
      have HI := Aside0.mk (impl_SharedKeys.calls k AX cX t ig1 ig2 w4 (Kd.R_reads' hR4).2.2 (Kd.R_reads' hR4).2.1 hig)
      have R4 := Aside0.mk hR4
      clear hR4 hb4_
      go_wp2_with fail
      refine HI.out.mono ?_
      rintro e w5 ⟨vG, rfl, hS5, hb5_⟩
      obtain ⟨AG, cG, rfl⟩ := Kd.S_slice hS5
      have B45 := Aside0.mk hb5_
      have S5 := Aside0.mk (Kd.S_mono (ok' := fun k_ => w4.heap.size ≤ k_) (Kd.S_bound hS5) (fun k hk => hk.2.1))
      clear hS5 hb5_ HI
      have HE := Aside0.mk (laws_eqStringSS.calls k AG cG ig1 AW cW sw1 true w5 (Kd.S_reads' S5.out).2.2 (Kd.S_reads' S5.out).2.1 (Kd.C_below (Kd.C_below CW.out B34.out) B45.out) LW.out hb1)
      go_wp2_with fail
      refine HE.out.mono ?_
      rintro e w6 ⟨rfl, hd6⟩
      have B46 := Aside0.mk (below_step B45.out hd6.below)
      have B36 := Aside0.mk (below_step B34.out B46.out)
      have S6 := Aside0.mk (Kd.S_below S5.out hd6.below)
      clear hd6 HE S5 B45
      go_wp2_with fail
      refine (HT.out w6 ((B3.out).trans (B36.out.mono B3.out.size))).mono ?_
      rintro e w7 ⟨v7, rfl, hR7, hb7_⟩
      obtain ⟨A7, c7, rfl⟩ := Kd.R_slice hR7
      have B47 := Aside0.mk (below_step B46.out hb7_)
      have B37 := Aside0.mk (below_step B36.out hb7_)
      have S7 := Aside0.mk (Kd.S_below S6.out hb7_)
      have HQ := Aside0.mk (laws_eqStringS.calls k AX cX t A7 c7 t true w7 (Kd.C_below (Kd.R_reads' R4.out).2.2 B47.out) (Kd.R_reads' R4.out).2.1 (Kd.R_reads' hR7).2.2 (Kd.R_reads' hR7).2.1 hb2)
      clear hR7 hb7_ S6 B46 B36
      go_wp2_with fail
      refine HQ.out.mono ?_
      rintro e w8 ⟨rfl, hd8⟩
      have B48 := Aside0.mk (below_step B47.out hd8.below)
      have B38 := Aside0.mk (below_step B37.out hd8.below)
      have S8 := Aside0.mk (Kd.S_below S7.out hd8.below)
      clear hd8 HQ S7 B47 B37
      have HM := Aside0.mk (laws_markStringS.calls k (fun k_ => some k_ = (Value.slice AX t.length cX).ownBlock) (.slice AX t.length cX) t 1 m1 mt w3 w8 B38.out (Kd.R_tight rfl (Kd.R_below R4.out B48.out)) hm1)
      go_wp2_with fail
      refine HM.out.mono ?_
      rintro e w9 ⟨rfl, _, hb9, hk9⟩
      have B39 := Aside0.mk hb9
      have S9 := Aside0.mk (Kd.S_kept S8.out hk9 (fun k_ hk hs => by have := Kd.R_lt R4.out k_ hs.symm; omega))
      clear hb9 hk9 HM S8 B38 B48
      have HE := Aside0.mk (laws_eqStringSS.calls k AG cG ig1 AW cW sw1 true w9 (Kd.S_reads' S9.out).2.2 (Kd.S_reads' S9.out).2.1 (Kd.C_below CW.out B39.out) LW.out hb1)
      go_wp2_with fail
      refine HE.out.mono ?_
      rintro e w10 ⟨rfl, hd10⟩
      have B310 := Aside0.mk (below_step B39.out hd10.below)
      have S10 := Aside0.mk (Kd.S_below S9.out hd10.below)
      clear hd10 HE S9 B39
      have HM := Aside0.mk (laws_markStringSS.calls k (fun k_ => w4.heap.size ≤ k_) (.slice AG ig1.length cG) ig1 1 q mg w3 w10 B310.out (Kd.S_lower S10.out B34.out.size) hm2)
      go_wp2_with fail
      refine HM.out.mono ?_
      rintro e w11 ⟨rfl, hS11, hb11, _⟩
      have hlen : mg.length = ig1.length := ((Kd.S_reads' hS11).1).symm
      have B311 := Aside0.mk hb11
      rw [← hlen] at hS11
      have S11 := Aside0.mk hS11
      clear hb11 hS11 HM S10 B310
      have HH := Aside0.mk (laws_heldStringSS.calls k AG cG mg 1 q w11 (Kd.S_reads' S11.out).2.2 (Kd.S_reads' S11.out).2.1 hq)
      rw [hlen] at HH
      go_wp2_with fail
      refine HH.out.mono ?_
      rintro e w12 ⟨rfl, hb12_⟩
      have B312 := Aside0.mk (below_step B311.out hb12_)
      have S12 := Aside0.mk (Kd.S_below S11.out hb12_)
      clear hb12_ HH S11 B311
      go_wp2_with fail
      refine (HT.out w12 ((B3.out).trans (B312.out.mono B3.out.size))).mono ?_
      rintro e w13 ⟨v13, rfl, hR13, hb13_⟩
      obtain ⟨A13, c13, rfl⟩ := Kd.R_slice hR13
      have B313 := Aside0.mk (below_step B312.out hb13_)
      have S13 := Aside0.mk (Kd.S_below S12.out hb13_)
      have HI := Aside0.mk (impl_SharedKeys.calls k A13 c13 t ig1 ig2 w13 (Kd.R_reads' hR13).2.2 (Kd.R_reads' hR13).2.1 hig)
      clear hR13 hb13_ S12 B312
      go_wp2_with fail
      refine HI.out.mono ?_
      rintro e w14 ⟨v14, rfl, hS14, hb14_⟩
      obtain ⟨A14, c14, rfl⟩ := Kd.S_slice hS14
      have B314 := Aside0.mk (below_step B313.out hb14_)
      have S14 := Aside0.mk (Kd.S_below S13.out hb14_)
      have HE := Aside0.mk (laws_eqStringSS.calls k A14 c14 ig1 AW cW sw1 true w14 (Kd.S_reads' hS14).2.2 (Kd.S_reads' hS14).2.1 (Kd.C_below CW.out B314.out) LW.out hb1)
      clear hS14 hb14_ S13 B313 HI
      go_wp2_with fail
      refine HE.out.mono ?_
      rintro e w15 ⟨rfl, hd15⟩
      have B315 := Aside0.mk (below_step B314.out hd15.below)
      have S15 := Aside0.mk (Kd.S_below S14.out hd15.below)
      clear hd15 HE S14 B314
      have HH := Aside0.mk (laws_heldStringSS.calls k AG cG mg 1 q w15 (Kd.S_reads' S15.out).2.2 (Kd.S_reads' S15.out).2.1 hq)
      rw [hlen] at HH
      go_wp2_with fail
      refine HH.out.mono ?_
      rintro e w16 ⟨rfl, hb16_⟩
      have B316 := Aside0.mk (below_step B315.out hb16_)
      clear hb16_ HH S15 B315
      go_wp2_with fail
      go_ret
      exact ⟨rfl, (B3.out).trans (B316.out.mono B3.out.size)⟩
    · cases hFin
def laws_FnExactSharedKeys.Pure : Prop := ∀ (l0 : List ByteArray), l0.length ≤ maxLen → l0.length * 16 ≤ 140737488351232 → (∀ x ∈ l0, x.size ≤ maxLen) → ∃ k, laws_FnExactSharedKeys.f k l0 = some true
theorem laws_FnExactSharedKeys.walk (P : laws_FnExactSharedKeys.Pure) (a0 : Option Addr) (len0 cap0 : Nat) (z0 : List ByteArray) (w : World) (w0 : (a0 = none ∧ len0 = 0 ∧ cap0 = 0 ∧ z0 = []) ∨ ∃ x, a0 = some x ∧ len0 ≤ cap0 ∧ cap0 ≤ maxLen ∧ z0.length = cap0 ∧ (∀ i, i < z0.length → w.cell? (x.add i) = some (.string (z0.getD i ByteArray.empty))) ∧ ∀ n ∈ z0, n.size ≤ maxLen) (y0 : len0 * 16 ≤ 140737488351232) :
    Calls Tryd.prog 3 #[.slice a0 len0 cap0] w fun e w' => e = .returned (.bool true) ∧ Below w.heap.size w w' := by
  obtain ⟨l0, rfl, hr0, hm0, hw0, hc0⟩ := Go.Proofs.YtcgkpdmejjgopaaDoor.Strs.strs_ofRowC w0
  obtain ⟨k, h⟩ := P l0 hm0 y0 hw0
  refine (laws_FnExactSharedKeys.calls k _ _ l0 true w hr0 hc0 h).mono ?_
  rintro e w' ⟨rfl, hd⟩
  exact ⟨rfl, hd⟩

end Go.Proofs.YtcgkpdmejjgopaaDoor.P

namespace Go.Proofs.YtcgkpdmejjgopaaDoor.Pu
open Go.RowKit Go.Proofs.YtcgkpdmejjgopaaDoorW.PrintWords Go.Proofs.YtcgkpdmejjgopaaDoorW.PrintLast Go.Proofs.YtcgkpdmejjgopaaDoorW.PrintMore

/-! ### rounds -/
theorem ev_succ {α : Type} {g : Nat → Option α} {r : α} (h : Ev (fun k => g (k + 1)) r) : Ev g r := by
  obtain ⟨K, h⟩ := h
  refine ⟨K + 1, fun n hn => ?_⟩
  obtain ⟨m, rfl⟩ : ∃ m, n = m + 1 := ⟨n - 1, by omega⟩
  exact h m (by omega)
theorem ev_from {α : Type} {g : Nat → Option α} {r : α} (K : Nat) (h : ∀ k, K ≤ k → g (k + 1) = some r) : Ev g r := by
  refine ⟨K + 1, fun n hn => ?_⟩
  obtain ⟨m, rfl⟩ : ∃ m, n = m + 1 := ⟨n - 1, by omega⟩
  exact h m (by omega)
theorem ev_const {α : Type} {x : Option α} {r : α} (h : x = some r) : Ev (fun _ => x) r := ⟨0, fun _ _ => h⟩
/-- As Option.bind_some; its proof is no 'rfl', so the kernel is not asked to compare two binds. -/
theorem bsome {α β : Type} (a : α) (f : α → Option β) : (some a).bind f = f a := Option.bind_some a f
theorem ev_at {α : Type} {g : Nat → Option α} {r : α} (h : Ev g r) : ∃ k, g k = some r := h.rounds
theorem ev_both {α β : Type} {g : Nat → Option α} {f : Nat → Option β} {r : α} {q : β} (h : Ev g r) (h' : Ev f q) : ∃ K, ∀ k, K ≤ k → g k = some r ∧ f k = some q := by
  obtain ⟨K, h⟩ := h
  obtain ⟨K', h'⟩ := h'
  exact ⟨K + K', fun k hk => ⟨h k (by omega), h' k (by omega)⟩⟩
theorem ev_eq {α : Type} {g : Nat → Option α} {r r' : α} (h : Ev g r) (e : r = r') : Ev g r' := e ▸ h
theorem ev_unique {α : Type} {g : Nat → Option α} {r r' : α} (h : Ev g r) (h' : Ev g r') : r = r' := by
  obtain ⟨K, h⟩ := ev_both h h'
  have := h K (Nat.le_refl _)
  exact Option.some.inj (this.1.symm.trans this.2)

/-! ### numbers -/
theorem wr {x : Int} (h0 : -9223372036854775808 ≤ x) (h1 : x ≤ 9223372036854775807) : wrap64 x = x := by unfold wrap64; omega
theorem wr32 {x : Int} (h0 : -2147483648 ≤ x) (h1 : x ≤ 2147483647) : wrap32 x = x := by unfold wrap32; omega
theorem wf64 {x : Int} (h : (Lit.int .i64 x).wf = true) : -9223372036854775808 ≤ x ∧ x ≤ 9223372036854775807 := by
  simp only [Lit.wf] at h
  rw [Bool.and_eq_true] at h
  have h1 := of_decide_eq_true h.1
  have h2 := of_decide_eq_true h.2
  exact ⟨h1, h2⟩

/-! ### bytes -/
theorem bytes_ext {s t : ByteArray} (h : bytesOf s = bytesOf t) : s = t := by
  have h1 : s.data.toList = t.data.toList := by
    unfold bytesOf at h
    refine List.ext_getElem (by simpa using congrArg List.length h) fun i h1 h2 => ?_
    have := congrArg (fun l => l[i]?) h
    simp only [List.getElem?_map, List.getElem?_eq_getElem h1, List.getElem?_eq_getElem h2, Option.map_some, Option.some.injEq] at this
    exact UInt8.toNat_inj.1 (by omega)
  cases s; cases t
  simp only [ByteArray.mk.injEq]
  exact Array.toList_inj.1 h1
theorem size_bytes (s : ByteArray) : s.size = (bytesOf s).length := (bytesOf_length s).symm
theorem bt_bytes (s : ByteArray) (i : Int) : bt s i = (bytesOf s).getD i.toNat 0 := by rw [← rd_bytesOf]; rfl
theorem bytes_range (s : ByteArray) : ∀ c ∈ bytesOf s, 0 ≤ c ∧ c ≤ 255 := by
  intro c hc
  unfold bytesOf at hc
  obtain ⟨b, _, rfl⟩ := List.mem_map.1 hc
  have := b.toNat_lt
  omega
theorem bytes_nums {L : List Int} (h : ∀ c ∈ L, 0 ≤ c ∧ c ≤ 255) : bytesOf (strOfNums L) = L := by
  unfold bytesOf strOfNums
  simp only [List.map_map]
  conv => rhs; rw [← List.map_id L]
  refine List.map_congr_left fun c hc => ?_
  have := h c hc
  show ((UInt8.ofNat c.toNat).toNat : Int) = c
  rw [UInt8.toNat_ofNat']
  omega
theorem nums_bytes (s : ByteArray) : strOfNums (bytesOf s) = s := bytes_ext (bytes_nums (bytes_range s))
theorem size_nums (L : List Int) : (strOfNums L).size = L.length := by
  unfold strOfNums
  simp [ByteArray.size]
theorem nums_inj {L M : List Int} (h : ∀ c ∈ L, 0 ≤ c ∧ c ≤ 255) (h' : ∀ c ∈ M, 0 ≤ c ∧ c ≤ 255) (e : strOfNums L = strOfNums M) : L = M := by
  rw [← bytes_nums h, ← bytes_nums h', e]
theorem bytes_append (s t : ByteArray) : bytesOf (s ++ t) = bytesOf s ++ bytesOf t := by
  unfold bytesOf
  rw [ByteArray.data_append, Array.toList_append, List.map_append]
theorem bytes_extract (s : ByteArray) (a b : Nat) : bytesOf (s.extract a b) = ((bytesOf s).take b).drop a := by
  unfold bytesOf
  rw [ByteArray.data_extract, Array.toList_extract, List.extract_eq_take_drop, List.map_take, List.map_drop]
  rw [List.drop_take]
theorem numsApp (L M : List Int) : strOfNums (L ++ M) = strOfNums L ++ strOfNums M := by
  unfold strOfNums
  simp only [List.map_append]
  cases h : (ByteArray.mk (L.map fun x => x.toNat.toUInt8).toArray ++ ByteArray.mk (M.map fun x => x.toNat.toUInt8).toArray) with
  | mk d =>
    have := congrArg ByteArray.data h
    rw [ByteArray.data_append] at this
    simp only at this
    rw [← this]
    congr 1
    simp
theorem toList_bytes {s t : ByteArray} : s.toList = t.toList ↔ s = t := by
  rw [Lib.toList_data, Lib.toList_data]
  refine ⟨fun h => bytes_ext (by unfold bytesOf; rw [h]), fun h => by rw [h]⟩
theorem encode_small {c : Int} (h0 : 0 ≤ c) (h1 : c < 128) : Utf8.encode c = strOfNums [c] := by
  unfold Utf8.encode strOfNums
  have hv : Utf8.valid c = true := by unfold Utf8.valid; simp; omega
  have hc : c.toNat < 128 := by omega
  simp only [hv, if_true, hc]
  simp
theorem bytes_all {p : UInt8 → Bool} {q : Int → Bool} (h : ∀ b : UInt8, p b = q b.toNat) (s : ByteArray) : s.data.toList.all p = (bytesOf s).all q := by
  unfold bytesOf
  rw [List.all_map]
  congr 1
  funext b
  exact h b

theorem drop_bytes (s : ByteArray) (i : Nat) (h : i < s.size) : (bytesOf s).drop i = bt s i :: (bytesOf s).drop (i + 1) := by
  have hl : i < (bytesOf s).length := by rw [bytesOf_length]; exact h
  rw [List.drop_eq_getElem_cons hl, bt_bytes, Int.toNat_natCast, List.getD_eq_getElem?_getD, List.getElem?_eq_getElem hl]
  rfl
theorem drop_end (s : ByteArray) : (bytesOf s).drop s.size = [] := List.drop_eq_nil_of_le (by rw [bytesOf_length]; exact Nat.le_refl _)

theorem bt_mem (s : ByteArray) (i : Nat) (h : i < s.size) : bt s i ∈ bytesOf s := by
  have hd := drop_bytes s i h
  have : bt s i ∈ (bytesOf s).drop i := by rw [hd]; exact List.mem_cons_self
  exact List.mem_of_mem_drop this

/-! ### Trim against a list of signs -/
theorem dropWhile_nil_all {α : Type} (p : α → Bool) (l : List α) : l.dropWhile p = [] ↔ l.all p = true := by
  induction l with
  | nil => simp
  | cons a l ih =>
    rw [List.dropWhile_cons, List.all_cons]
    cases h : p a <;> simp [ih]
theorem trimS_nil (l cs : List UInt8) : Lib.trimS l cs = [] ↔ l.all (fun b => cs.contains b) = true := by
  unfold Lib.trimS Lib.trimLeftS Lib.trimRightS
  rw [dropWhile_nil_all]
  constructor
  · intro h
    have hr : ∀ (m : List UInt8), ((m.dropWhile (cs.contains ·)).reverse).all (fun b => cs.contains b) = true → m.all (fun b => cs.contains b) = true := by
      intro m
      induction m with
      | nil => simp
      | cons a m ih =>
        rw [List.dropWhile_cons]
        cases ha : cs.contains a with
        | true => intro h; rw [if_pos rfl] at h; simp only [List.all_cons, ha, Bool.true_and]; exact ih h
        | false => intro h; simp at h; simpa using And.intro h.2 h.1
    have := hr l.reverse h
    simpa using this
  · intro h
    have : l.reverse.dropWhile (cs.contains ·) = [] := (dropWhile_nil_all _ _).2 (by simpa using h)
    rw [this]
    rfl

end Go.Proofs.YtcgkpdmejjgopaaDoor.Pu

namespace Go.Proofs.YtcgkpdmejjgopaaDoor.Pu
open Go.RowKit Go.Proofs.YtcgkpdmejjgopaaDoor.P Go.Proofs.YtcgkpdmejjgopaaDoorW.PrintWords Go.Proofs.YtcgkpdmejjgopaaDoorW.PrintLast Go.Proofs.YtcgkpdmejjgopaaDoorW.PrintMore

theorem in_is (a b c : Int) : impl_in.f a b c = some (decide (b ≤ a) && decide (a ≤ c)) := by
  unfold impl_in.f
  by_cases h : b ≤ a <;> simp [h]
theorem l1In_is (a b c : Int) : spec_l1In.f a b c = some (decide (b ≤ a) && decide (a ≤ c)) := by
  unfold spec_l1In.f
  by_cases h : b ≤ a <;> simp [h]
end Go.Proofs.YtcgkpdmejjgopaaDoor.Pu

namespace Go.Proofs.YtcgkpdmejjgopaaDoor.Pu
open Go.RowKit Go.Proofs.YtcgkpdmejjgopaaDoor.P Go.Proofs.YtcgkpdmejjgopaaDoorW.PrintWords Go.Proofs.YtcgkpdmejjgopaaDoorW.PrintLast Go.Proofs.YtcgkpdmejjgopaaDoorW.PrintMore

/-! ### words -/
def isLow (c : Int) : Bool := decide (97 ≤ c) && decide (c ≤ 122)
def isDig (c : Int) : Bool := decide (50 ≤ c) && decide (c ≤ 57)
def lenB (s : ByteArray) (lo hi : Nat) : Bool := decide (lo ≤ s.size) && decide (s.size ≤ hi)
def wordB (s : ByteArray) : Bool := lenB s 1 40 && (bytesOf s).all isLow
def keysB (s : ByteArray) : Bool := lenB s 1 40 && (bytesOf s).all isDig
theorem wordB_iff {s : ByteArray} : wordB s = true ↔ (1 ≤ s.size ∧ s.size ≤ 40) ∧ ∀ c ∈ bytesOf s, 97 ≤ c ∧ c ≤ 122 := by
  unfold wordB lenB isLow
  simp [List.all_eq_true]
theorem keysB_iff {s : ByteArray} : keysB s = true ↔ (1 ≤ s.size ∧ s.size ≤ 40) ∧ ∀ c ∈ bytesOf s, 50 ≤ c ∧ c ≤ 57 := by
  unfold keysB lenB isDig
  simp [List.all_eq_true]

theorem lenB_int (s : ByteArray) (lo hi : Nat) : (decide ((lo : Int) ≤ (s.size : Int)) && decide ((s.size : Int) ≤ (hi : Int))) = lenB s lo hi := by
  unfold lenB
  rw [decide_eq_decide.2 (Int.ofNat_le (m := lo) (n := s.size)), decide_eq_decide.2 (Int.ofNat_le (m := s.size) (n := hi))]
theorem over_is (s cs : ByteArray) (hs : s.size ≤ 9223372036854775807) (hc : cs.size < 4294967281) (ha : cs.data.toList.all (fun b => decide (b.toNat < 128)) = true) (q : Int → Bool)
    (hq : ∀ b : UInt8, cs.data.toList.contains b = q b.toNat) : impl_over.f s cs = some ((bytesOf s).all q) := by
  unfold impl_over.f strings_Trim.f
  rw [if_pos hs, if_pos hc, if_pos ha]
  simp only [bsome, Option.some.injEq]
  rw [← bytes_all hq, Bool.eq_iff_iff, beq_iff_eq, Lib.toList_data, ← trimS_nil]
theorem low_contains (b : UInt8) : (⟨#[97, 98, 99, 100, 101, 102, 103, 104, 105, 106, 107, 108, 109, 110, 111, 112, 113, 114, 115, 116, 117, 118, 119, 120, 121, 122]⟩ : ByteArray).data.toList.contains b = isLow b.toNat := by
  have key : ∀ n : Fin 256, (⟨#[97, 98, 99, 100, 101, 102, 103, 104, 105, 106, 107, 108, 109, 110, 111, 112, 113, 114, 115, 116, 117, 118, 119, 120, 121, 122]⟩ : ByteArray).data.toList.contains (UInt8.ofNat n.val) = isLow (UInt8.ofNat n.val).toNat := by decide +kernel
  have := key ⟨b.toNat, b.toNat_lt⟩
  simpa using this
theorem dig_contains (b : UInt8) : (⟨#[50, 51, 52, 53, 54, 55, 56, 57]⟩ : ByteArray).data.toList.contains b = isDig b.toNat := by
  have key : ∀ n : Fin 256, (⟨#[50, 51, 52, 53, 54, 55, 56, 57]⟩ : ByteArray).data.toList.contains (UInt8.ofNat n.val) = isDig (UInt8.ofNat n.val).toNat := by decide +kernel
  have := key ⟨b.toNat, b.toNat_lt⟩
  simpa using this
theorem low_over (s : ByteArray) (hs : s.size ≤ 9223372036854775807) : impl_over.f s (⟨#[97, 98, 99, 100, 101, 102, 103, 104, 105, 106, 107, 108, 109, 110, 111, 112, 113, 114, 115, 116, 117, 118, 119, 120, 121, 122]⟩ : ByteArray) = some ((bytesOf s).all isLow) :=
  over_is s _ hs (by decide) (by decide) isLow low_contains
theorem isWord_is (s : ByteArray) (hs : s.size ≤ 140737488351232) : impl_IsWord.f s = some (wordB s) := by
  unfold impl_IsWord.f wordB
  rw [in_is, show (1 : Int) = ((1 : Nat) : Int) from rfl, show (40 : Int) = ((40 : Nat) : Int) from rfl, lenB_int, low_over s (by omega)]
  simp only [bsome]
  cases lenB s 1 40 <;> simp
theorem prWord_l0 (s : ByteArray) (hs : s.size ≤ 140737488351232) : ∀ (d i : Nat), i + d = s.size → Ev (fun k => spec_prWord.l0 k s i) (((bytesOf s).drop i).all isLow)
  | 0, i, h => by
    obtain rfl : i = s.size := by omega
    rw [drop_end]
    refine ev_from 0 fun k _ => ?_
    simp only [spec_prWord.l0]
    rw [if_neg (by omega)]
    rfl
  | d + 1, i, h => by
    obtain ⟨K, ih⟩ := prWord_l0 s hs d (i + 1) (by omega)
    rw [drop_bytes s i (by omega), List.all_cons]
    refine ev_from K fun k hk => ?_
    have e := ih k hk
    rw [show ((i + 1 : Nat) : Int) = (i : Int) + 1 from rfl] at e
    dsimp only at e
    simp only [spec_prWord.l0]
    rw [if_pos (by omega), if_pos (by omega), wr (by omega) (by omega), e]
    unfold isLow
    by_cases h1 : bt s i < 97
    · rw [if_pos h1, decide_eq_false (by omega)]; rfl
    · rw [if_neg h1, decide_eq_true (show 97 ≤ bt s i by omega)]
      by_cases h2 : bt s i > 122
      · rw [if_pos h2, decide_eq_false (by omega)]; rfl
      · rw [if_neg h2, decide_eq_true (by omega)]; rfl
theorem prWord_ev (s : ByteArray) (hs : s.size ≤ 140737488351232) : Ev (fun k => spec_prWord.f k s) (wordB s) := by
  obtain ⟨K, h⟩ := prWord_l0 s hs s.size 0 (by omega)
  refine ⟨K, fun k hk => ?_⟩
  have e := h k hk
  unfold spec_prWord.f wordB
  rw [l1In_is, show (1 : Int) = ((1 : Nat) : Int) from rfl, show (40 : Int) = ((40 : Nat) : Int) from rfl, lenB_int]
  simp only [bsome]
  cases lenB s 1 40
  · rfl
  · rw [if_pos rfl]; exact e

end Go.Proofs.YtcgkpdmejjgopaaDoor.Pu

namespace Go.Proofs.YtcgkpdmejjgopaaDoor.Pu
open Go.RowKit Go.Proofs.YtcgkpdmejjgopaaDoor.P Go.Proofs.YtcgkpdmejjgopaaDoorW.PrintWords Go.Proofs.YtcgkpdmejjgopaaDoorW.PrintLast Go.Proofs.YtcgkpdmejjgopaaDoorW.PrintMore

theorem rds_drop (L : List ByteArray) (i : Nat) (h : i < L.length) : L.drop i = rdOf ByteArray.empty L i :: L.drop (i + 1) := by
  rw [List.drop_eq_getElem_cons h, rdOf, Int.toNat_natCast, List.getD_eq_getElem?_getD, List.getElem?_eq_getElem h]
  rfl
theorem rds_mem (L : List ByteArray) (i : Nat) (h : i < L.length) : rdOf ByteArray.empty L i ∈ L := by
  have : rdOf ByteArray.empty L i ∈ L.drop i := by rw [rds_drop L i h]; exact List.mem_cons_self
  exact List.mem_of_mem_drop this
theorem rds_mid (P : List ByteArray) (v : ByteArray) (R : List ByteArray) : rdOf ByteArray.empty (P ++ v :: R) (P.length : Int) = v := by
  unfold rdOf
  rw [Int.toNat_natCast]
  simp
theorem sets_mid (P : List ByteArray) (r v : ByteArray) (R : List ByteArray) : (P ++ r :: R).set P.length v = (P ++ [v]) ++ R := by
  simp
/-- What the law has measured: too much, or strings that are none of them long. -/
theorem szS_l0 (L : List ByteArray) (hl : L.length ≤ 17592186044416) (hL : ∀ x ∈ L, x.size ≤ 9223372036854775807) : ∀ (d i : Nat) (n : Int), i + d = L.length → 0 ≤ n → n ≤ 1048576 → ∃ r, Ev (fun k => laws_szStringS.l0 k L n i) r ∧ (r < 0 ∨ ∀ x ∈ L.drop i, (x.size : Int) ≤ n)
  | 0, i, n, hi, h0, h1 => by
    obtain rfl : i = L.length := by omega
    refine ⟨n, ev_from 0 fun k _ => ?_, Or.inr (by simp)⟩
    simp only [laws_szStringS.l0]
    rw [if_neg (by omega)]
  | d + 1, i, n, hi, h0, h1 => by
    have hm := hL _ (rds_mem L i (by omega))
    by_cases hn : n - ((rdOf ByteArray.empty L i).size : Int) < 0
    · refine ⟨-1, ev_from 0 fun k _ => ?_, Or.inl (by omega)⟩
      simp only [laws_szStringS.l0]
      rw [if_pos (by omega), if_pos (by omega), wr (x := n - ((rdOf ByteArray.empty L i).size : Int)) (by omega) (by omega), if_pos hn]
    · obtain ⟨r, ⟨K, ih⟩, hr⟩ := szS_l0 L hl hL d (i + 1) (n - ((rdOf ByteArray.empty L i).size : Int)) (by omega) (by omega) (by omega)
      refine ⟨r, ev_from K fun k hk => ?_, ?_⟩
      · have e := ih k hk
        rw [show ((i + 1 : Nat) : Int) = (i : Int) + 1 from rfl] at e
        dsimp only at e
        simp only [laws_szStringS.l0]
        rw [if_pos (by omega), if_pos (by omega), wr (x := n - ((rdOf ByteArray.empty L i).size : Int)) (by omega) (by omega), if_neg hn, wr (by omega) (by omega), e]
      · rcases hr with h | h
        · exact Or.inl h
        · refine Or.inr fun x hx => ?_
          rw [rds_drop L i (by omega)] at hx
          rcases List.mem_cons.1 hx with rfl | hx
          · omega
          · have := h x hx; omega
theorem szS_ev (L : List ByteArray) (hl : L.length ≤ 17592186044416) (hL : ∀ x ∈ L, x.size ≤ 9223372036854775807) : ∃ r, Ev (fun k => laws_szStringS.f k L 1048576) r ∧ (r < 0 ∨ L.length ≤ 1048576 ∧ ∀ x ∈ L, x.size ≤ 1048576) := by
  by_cases hn : (1048576 : Int) - (L.length : Int) < 0
  · refine ⟨-1, ⟨0, fun k _ => ?_⟩, Or.inl (by omega)⟩
    dsimp only
    unfold laws_szStringS.f
    rw [wr (by omega) (by omega), if_pos hn]
  · obtain ⟨r, ⟨K, e⟩, hr⟩ := szS_l0 L hl hL L.length 0 ((1048576 : Int) - (L.length : Int)) (by omega) (by omega) (by omega)
    refine ⟨r, ⟨K, fun k hk => ?_⟩, ?_⟩
    · have e := e k hk
      dsimp only at e ⊢
      unfold laws_szStringS.f
      rw [wr (by omega) (by omega), if_neg hn]
      exact e
    · rcases hr with h | h
      · exact Or.inl h
      · refine Or.inr ⟨by omega, fun x hx => ?_⟩
        have := h x (by simpa using hx)
        omega
theorem toS_l0 (L : List ByteArray) (hl : L.length ≤ 1099511627776) : ∀ (d : Nat) (P S : List ByteArray), S.length = d → L = P ++ S → Ev (fun k => laws_toStringS.l0 k L (P ++ List.replicate d (⟨#[]⟩ : ByteArray)) (P.length : Int)) L
  | 0, P, S, hd, hL => by
    obtain rfl := List.eq_nil_of_length_eq_zero hd
    refine ev_from 0 fun k _ => ?_
    simp only [laws_toStringS.l0]
    rw [if_neg (by rw [hL]; simp)]
    rw [hL]
    simp
  | d + 1, P, S, hd, hL => by
    match S, hd, hL with
    | s :: S, hd, hL =>
      have hd : S.length = d := by simpa using hd
      have hlen : L.length = P.length + (d + 1) := by rw [hL, List.length_append, List.length_cons, hd]
      have hr : rdOf ByteArray.empty L (P.length : Int) = s := by rw [hL]; exact rds_mid P s S
      obtain ⟨K, ih⟩ := toS_l0 L hl d (P ++ [s]) S hd (by rw [hL]; simp)
      refine ev_from K fun k hk => ?_
      have e := ih k hk
      rw [List.length_append, List.length_singleton, show ((P.length + 1 : Nat) : Int) = (P.length : Int) + 1 from rfl] at e
      dsimp only at e
      simp only [laws_toStringS.l0]
      rw [if_pos (by omega), if_pos (by omega), if_pos (by rw [List.length_append, List.length_replicate]; omega), Int.toNat_natCast, List.replicate_succ, sets_mid, hr, wr (by omega) (by omega), e]
theorem toS_ev (L : List ByteArray) (hl : L.length ≤ 1048576) : Ev (fun k => laws_toStringS.f k L) L := by
  obtain ⟨K, e⟩ := toS_l0 L (by omega) L.length [] L rfl rfl
  refine ⟨K, fun k hk => ?_⟩
  have e := e k hk
  dsimp only at e ⊢
  unfold laws_toStringS.f
  rw [if_pos (by omega), if_pos (by omega), Int.toNat_natCast]
  exact e
theorem eqS_l0 : ∀ (d : Nat) (P R : List ByteArray), R.length = d → P.length + d < 9223372036854775807 → Ev (fun k => laws_eqStringS.l0 k (P ++ R) (P ++ R) (P.length : Int)) true
  | 0, P, R, hd, h2 => by
    obtain rfl := List.eq_nil_of_length_eq_zero hd
    refine ev_from 0 fun k _ => ?_
    simp only [laws_eqStringS.l0]
    rw [if_neg (by simp)]
  | d + 1, P, R, hd, h2 => by
    match R, hd with
    | r :: R, hd =>
      have hd : R.length = d := by simpa using hd
      obtain ⟨K, ih⟩ := eqS_l0 d (P ++ [r]) R hd (by rw [List.length_append, List.length_singleton]; omega)
      refine ev_from K fun k hk => ?_
      have e := ih k hk
      dsimp only at e
      rw [List.length_append, List.length_singleton, show ((P.length + 1 : Nat) : Int) = (P.length : Int) + 1 from rfl, List.append_assoc, List.singleton_append] at e
      simp only [laws_eqStringS.l0]
      rw [if_pos (by simp only [List.length_append, List.length_cons]; omega), if_pos (by omega), if_pos (by simp only [List.length_append, List.length_cons]; omega), if_pos trivial, wr (by omega) (by omega), e]
theorem eqS_ev (L : List ByteArray) (hl : L.length ≤ 1099511627776) : Ev (fun k => laws_eqStringS.f k L L) true := by
  obtain ⟨K, e⟩ := eqS_l0 L.length [] L rfl (by simp; omega)
  exact ⟨K, fun k hk => by have e := e k hk; dsimp only at e ⊢; unfold laws_eqStringS.f; rw [if_pos rfl]; simpa using e⟩
end Go.Proofs.YtcgkpdmejjgopaaDoor.Pu

namespace Go.Proofs.YtcgkpdmejjgopaaDoor.Pu
open Go.RowKit Go.Proofs.YtcgkpdmejjgopaaDoor.P Go.Proofs.YtcgkpdmejjgopaaDoorW.PrintWords Go.Proofs.YtcgkpdmejjgopaaDoorW.PrintLast Go.Proofs.YtcgkpdmejjgopaaDoorW.PrintMore

def shortB (s : ByteArray) : Bool := wordB s && decide (s.size ≤ 10)
theorem short_is (s : ByteArray) (hs : s.size ≤ 140737488351232) : impl_short.f s = some (shortB s) := by
  unfold impl_short.f shortB
  rw [isWord_is s hs, bsome]
  cases wordB s with
  | false => rfl
  | true => rw [if_pos rfl, Bool.true_and, decide_eq_decide.2 (show (s.size : Int) ≤ 10 ↔ s.size ≤ 10 by omega)]
theorem wdWord_ev (s : ByteArray) (hs : s.size ≤ 140737488351232) : Ev (fun k => spec_wdWord.f k s) (shortB s) := by
  obtain ⟨K, e⟩ := prWord_ev s hs
  refine ⟨K, fun k hk => ?_⟩
  have e := e k hk
  dsimp only at e ⊢
  unfold spec_wdWord.f shortB
  rw [e, bsome]
  cases wordB s with
  | false => rfl
  | true => rw [if_pos rfl, Bool.true_and, decide_eq_decide.2 (show (s.size : Int) ≤ 10 ↔ s.size ≤ 10 by omega)]
def lessB (s t : ByteArray) : Bool := Op.bytesLess s.toList t.toList
/-- Words of few letters, from one place on each behind the one before. -/
def goodN (L : List ByteArray) : Nat → Nat → Bool
  | 0, _ => true
  | d + 1, i => shortB (rdOf ByteArray.empty L i) && ((decide (i = 0) || lessB (rdOf ByteArray.empty L ((i : Int) - 1)) (rdOf ByteArray.empty L i)) && goodN L d (i + 1))
def lenL (L : List ByteArray) : Bool := decide (1 ≤ (L.length : Int)) && decide ((L.length : Int) ≤ 12)
theorem wdGood_l0 (L : List ByteArray) (hl : L.length ≤ 1099511627776) (hL : ∀ x ∈ L, x.size ≤ 140737488351232) : ∀ (d i : Nat), i + d = L.length → Ev (fun k => spec_wdGood.l0 k L L L.length i) (goodN L d i)
  | 0, i, hi => by
    obtain rfl : i = L.length := by omega
    refine ev_from 0 fun k _ => ?_
    simp only [spec_wdGood.l0]
    rw [if_neg (by omega)]
    rfl
  | d + 1, i, hi => by
    obtain ⟨K0, e0⟩ := wdWord_ev _ (hL _ (rds_mem L i (by omega)))
    obtain ⟨K, ih⟩ := wdGood_l0 L hl hL d (i + 1) (by omega)
    refine ev_from (K0 + K) fun k hk => ?_
    have e := ih k (by omega)
    have e0 := e0 k (by omega)
    rw [show ((i + 1 : Nat) : Int) = (i : Int) + 1 from rfl] at e
    dsimp only at e e0
    simp only [spec_wdGood.l0, goodN]
    rw [if_pos (by omega), if_pos (by omega), if_pos (by omega), e0, bsome, wr (x := (i : Int) + 1) (by omega) (by omega), wr (x := (i : Int) - 1) (by omega) (by omega)]
    cases hs : shortB (rdOf ByteArray.empty L i) with
    | false => rw [Bool.false_and]; rfl
    | true =>
      rw [if_pos rfl, Bool.true_and]
      by_cases h0 : i = 0
      · rw [if_neg (by omega), decide_eq_true h0, Bool.true_or, Bool.true_and, e]
      · rw [if_pos (by omega), if_pos (by omega), if_pos (by omega), decide_eq_false h0, Bool.false_or]
        unfold lessB
        cases Op.bytesLess (rdOf ByteArray.empty L ((i : Int) - 1)).toList (rdOf ByteArray.empty L i).toList with
        | false => rfl
        | true => rw [if_pos rfl, Bool.true_and, e]
theorem isDict_l0 (L : List ByteArray) (hl : L.length ≤ 1099511627776) (hL : ∀ x ∈ L, x.size ≤ 140737488351232) : ∀ (d i : Nat), i + d = L.length → Ev (fun k => impl_IsDictionary.l0 k L L L.length i) (goodN L d i && lenL L)
  | 0, i, hi => by
    obtain rfl : i = L.length := by omega
    refine ev_from 0 fun k _ => ?_
    simp only [impl_IsDictionary.l0]
    rw [if_neg (by omega), in_is, bsome]
    rfl
  | d + 1, i, hi => by
    have hs0 := hL _ (rds_mem L i (by omega))
    obtain ⟨K, ih⟩ := isDict_l0 L hl hL d (i + 1) (by omega)
    refine ev_from K fun k hk => ?_
    have e := ih k (by omega)
    rw [show ((i + 1 : Nat) : Int) = (i : Int) + 1 from rfl] at e
    dsimp only at e
    simp only [impl_IsDictionary.l0, goodN]
    rw [if_pos (by omega), if_pos (by omega), if_pos (by omega), short_is _ hs0, bsome, wr (x := (i : Int) + 1) (by omega) (by omega), wr (x := (i : Int) - 1) (by omega) (by omega)]
    cases hs : shortB (rdOf ByteArray.empty L i) with
    | false => rw [Bool.false_and, Bool.false_and]; rfl
    | true =>
      rw [if_pos rfl, Bool.true_and]
      by_cases h0 : i = 0
      · rw [if_neg (by omega), decide_eq_true h0, Bool.true_or, Bool.true_and, e]
      · rw [if_pos (by omega), if_pos (by omega), if_pos (by omega), decide_eq_false h0, Bool.false_or]
        unfold lessB
        cases Op.bytesLess (rdOf ByteArray.empty L ((i : Int) - 1)).toList (rdOf ByteArray.empty L i).toList with
        | false => rfl
        | true => rw [if_pos rfl, Bool.true_and, e]
def dictB (L : List ByteArray) : Bool := lenL L && goodN L L.length 0
theorem wdGood_ev (L : List ByteArray) (hl : L.length ≤ 1099511627776) (hL : ∀ x ∈ L, x.size ≤ 140737488351232) : Ev (fun k => spec_wdGood.f k L) (dictB L) := by
  obtain ⟨K, e⟩ := wdGood_l0 L hl hL L.length 0 (by omega)
  refine ⟨K, fun k hk => ?_⟩
  have e := e k hk
  dsimp only at e ⊢
  unfold spec_wdGood.f dictB
  rw [l1In_is, bsome]
  show (if lenL L = true then _ else _) = _
  cases lenL L with
  | false => rfl
  | true => rw [if_pos rfl, Bool.true_and]; exact e
theorem isDict_ev (L : List ByteArray) (hl : L.length ≤ 1099511627776) (hL : ∀ x ∈ L, x.size ≤ 140737488351232) : Ev (fun k => impl_IsDictionary.f k L) (dictB L) := by
  obtain ⟨K, e⟩ := isDict_l0 L hl hL L.length 0 (by omega)
  refine ⟨K, fun k hk => ?_⟩
  have e := e k hk
  dsimp only at e ⊢
  unfold impl_IsDictionary.f dictB
  rw [Bool.and_comm]
  exact e
end Go.Proofs.YtcgkpdmejjgopaaDoor.Pu

namespace Go.Proofs.YtcgkpdmejjgopaaDoor.Pu
open Go.RowKit Go.Proofs.YtcgkpdmejjgopaaDoor.P Go.Proofs.YtcgkpdmejjgopaaDoorW.PrintWords Go.Proofs.YtcgkpdmejjgopaaDoorW.PrintLast Go.Proofs.YtcgkpdmejjgopaaDoorW.PrintMore

/-- The key of a letter. -/
def keyN (c : Int) : Int := if c ≤ 99 then 50 else if c ≤ 102 then 51 else if c ≤ 105 then 52 else if c ≤ 108 then 53 else if c ≤ 111 then 54 else if c ≤ 115 then 55 else if c ≤ 118 then 56 else 57
/-- A letter's place on its key, from 0 on. -/
def posN (c : Int) : Int := if c ≤ 99 then c - 97 else if c ≤ 102 then c - 100 else if c ≤ 105 then c - 103 else if c ≤ 108 then c - 106 else if c ≤ 111 then c - 109 else if c ≤ 115 then c - 112 else if c ≤ 118 then c - 116 else c - 119
theorem keyN_range (c : Int) : 50 ≤ keyN c ∧ keyN c ≤ 57 := by unfold keyN; omega
theorem posN_range (c : Int) (h : 97 ≤ c ∧ c ≤ 122) : 0 ≤ posN c ∧ posN c ≤ 3 := by unfold posN; omega

theorem onPad_ev (c : Int) (h : 97 ≤ c ∧ c ≤ 122) : Ev (fun k => impl_onPad.f k c) (keyN c - 50, posN c) := by
  have key : ∀ n : Fin 26, impl_onPad.f 12 (97 + (n.val : Int)) = some (keyN (97 + (n.val : Int)) - 50, posN (97 + (n.val : Int))) := by decide +kernel
  have e := key ⟨(c - 97).toNat, by omega⟩
  rw [show (97 : Int) + (((c - 97).toNat : Nat) : Int) = c by omega] at e
  exact Ev.of (impl_onPad.mono c) e
theorem prKey_ev (c : Int) (h : 97 ≤ c ∧ c ≤ 122) : Ev (fun k => spec_prKey.f k c) (keyN c, posN c + 1) := by
  have key : ∀ n : Fin 26, spec_prKey.f 60 (97 + (n.val : Int)) = some (keyN (97 + (n.val : Int)), posN (97 + (n.val : Int)) + 1) := by decide +kernel
  have e := key ⟨(c - 97).toNat, by omega⟩
  rw [show (97 : Int) + (((c - 97).toNat : Nat) : Int) = c by omega] at e
  exact Ev.of (spec_prKey.mono c) e
end Go.Proofs.YtcgkpdmejjgopaaDoor.Pu

namespace Go.Proofs.YtcgkpdmejjgopaaDoor.Pu
open Go.RowKit Go.Proofs.YtcgkpdmejjgopaaDoor.P Go.Proofs.YtcgkpdmejjgopaaDoorW.PrintWords Go.Proofs.YtcgkpdmejjgopaaDoorW.PrintLast Go.Proofs.YtcgkpdmejjgopaaDoorW.PrintMore

theorem keyOf_ev (c : Int) (h : 97 ≤ c ∧ c ≤ 122) : Ev (fun k => impl_keyOf.f k c) (keyN c) := by
  obtain ⟨K, e⟩ := onPad_ev c h
  have hp := keyN_range c
  refine ⟨K, fun k hk => ?_⟩
  have e := e k hk
  dsimp only at e
  dsimp only
  unfold impl_keyOf.f
  rw [e]
  simp only [bsome, Option.some.injEq]
  omega

end Go.Proofs.YtcgkpdmejjgopaaDoor.Pu

namespace Go.Proofs.YtcgkpdmejjgopaaDoor.Pu
open Go.RowKit Go.Proofs.YtcgkpdmejjgopaaDoor.P Go.Proofs.YtcgkpdmejjgopaaDoorW.PrintWords Go.Proofs.YtcgkpdmejjgopaaDoorW.PrintLast Go.Proofs.YtcgkpdmejjgopaaDoorW.PrintMore

/-! ### keys of a text of letters -/
def keysN (s : ByteArray) : ByteArray := strOfNums ((bytesOf s).map keyN)
theorem keysN_bytes (s : ByteArray) : bytesOf (keysN s) = (bytesOf s).map keyN := by
  refine bytes_nums fun c hc => ?_
  obtain ⟨b, _, rfl⟩ := List.mem_map.1 hc
  have := keyN_range b
  omega
theorem keysN_size (s : ByteArray) : (keysN s).size = s.size := by rw [keysN, size_nums, List.length_map, bytesOf_length]
theorem keysOf_l0 (s : ByteArray) (hs : s.size ≤ 1000000) (hl : ∀ c ∈ bytesOf s, 97 ≤ c ∧ c ≤ 122) : ∀ (d i : Nat) (A : List Int), i + d = s.size → A.length ≤ i →
    Ev (fun k => impl_keysOf.l0 k s A s.size i) (strOfNums (A ++ ((bytesOf s).drop i).map keyN))
  | 0, i, A, h, hA => by
    obtain rfl : i = s.size := by omega
    rw [drop_end]
    refine ev_from 0 fun k _ => ?_
    simp only [impl_keysOf.l0]
    rw [if_neg (by omega)]
    simp
  | d + 1, i, A, h, hA => by
    obtain ⟨K, ih⟩ := keysOf_l0 s hs hl d (i + 1) (A ++ [keyN (bt s i)]) (by omega) (by simp; omega)
    obtain ⟨K', ek⟩ := keyOf_ev (bt s i) (hl _ (bt_mem s i (by omega)))
    rw [drop_bytes s i (by omega)]
    refine ev_from (K + K') fun k hk => ?_
    have e := ih k (by omega)
    have e' := ek k (by omega)
    rw [show ((i + 1 : Nat) : Int) = (i : Int) + 1 from rfl] at e
    dsimp only at e e'
    simp only [impl_keysOf.l0]
    rw [if_pos (by omega), if_pos (by omega), if_pos (by omega), e']
    simp only [bsome]
    rw [if_pos (by omega), wr (by omega) (by omega), e]
    simp
theorem keysOf_ev (s : ByteArray) (hs : s.size ≤ 1000000) (hl : ∀ c ∈ bytesOf s, 97 ≤ c ∧ c ≤ 122) : Ev (fun k => impl_keysOf.f k s) (keysN s) := by
  obtain ⟨K, e⟩ := keysOf_l0 s hs hl s.size 0 [] (by omega) (by simp)
  exact ⟨K, fun k hk => by have e := e k hk; dsimp only at e; unfold impl_keysOf.f; simpa [keysN] using e⟩

theorem prKeys_l0 (s : ByteArray) (hs : s.size ≤ 1000000) (hl : ∀ c ∈ bytesOf s, 97 ≤ c ∧ c ≤ 122) : ∀ (d i : Nat) (A : List Int), i + d = s.size → A.length ≤ i →
    Ev (fun k => spec_prKeys.l0 k s (strOfNums A) i) (strOfNums (A ++ ((bytesOf s).drop i).map keyN))
  | 0, i, A, h, hA => by
    obtain rfl : i = s.size := by omega
    rw [drop_end]
    refine ev_from 0 fun k _ => ?_
    simp only [spec_prKeys.l0]
    rw [if_neg (by omega)]
    simp
  | d + 1, i, A, h, hA => by
    obtain ⟨K, ih⟩ := prKeys_l0 s hs hl d (i + 1) (A ++ [keyN (bt s i)]) (by omega) (by simp; omega)
    obtain ⟨K', ek⟩ := prKey_ev (bt s i) (hl _ (bt_mem s i (by omega)))
    have hk := keyN_range (bt s i)
    rw [drop_bytes s i (by omega)]
    refine ev_from (K + K') fun k hk' => ?_
    have e := ih k (by omega)
    have e' := ek k (by omega)
    rw [show ((i + 1 : Nat) : Int) = (i : Int) + 1 from rfl] at e
    dsimp only at e e'
    simp only [spec_prKeys.l0]
    rw [if_pos (by omega), if_pos (by omega), e']
    simp only [bsome]
    rw [wr32 (by omega) (by omega), encode_small (by omega) (by omega), if_pos (by rw [size_nums, size_nums]; simp; omega), wr (by omega) (by omega), ← numsApp, e]
    simp
theorem prKeys_ev (s : ByteArray) (hs : s.size ≤ 1000000) (hl : ∀ c ∈ bytesOf s, 97 ≤ c ∧ c ≤ 122) : Ev (fun k => spec_prKeys.f k s) (keysN s) := by
  obtain ⟨K, e⟩ := prKeys_l0 s hs hl s.size 0 [] (by omega) (by simp)
  exact ⟨K, fun k hk => by have e := e k hk; dsimp only at e; unfold spec_prKeys.f; rw [show strOfNums [] = (⟨#[]⟩ : ByteArray) from rfl] at e; simpa [keysN] using e⟩

end Go.Proofs.YtcgkpdmejjgopaaDoor.Pu

namespace Go.Proofs.YtcgkpdmejjgopaaDoor.Pu
open Go.RowKit Go.Proofs.YtcgkpdmejjgopaaDoor.P Go.Proofs.YtcgkpdmejjgopaaDoorW.PrintWords Go.Proofs.YtcgkpdmejjgopaaDoorW.PrintLast Go.Proofs.YtcgkpdmejjgopaaDoorW.PrintMore Go.Proofs.YtcgkpdmejjgopaaDoor.Pick

theorem goodN_short (L : List ByteArray) : ∀ (d i : Nat), i + d = L.length → goodN L d i = true → ∀ x ∈ L.drop i, shortB x = true
  | 0, i, h, _ => by
    obtain rfl : i = L.length := by omega
    simp
  | d + 1, i, h, hg => by
    rw [goodN, Bool.and_eq_true, Bool.and_eq_true] at hg
    intro x hx
    rw [rds_drop L i (by omega)] at hx
    rcases List.mem_cons.1 hx with rfl | hx
    · exact hg.1
    · exact goodN_short L d (i + 1) (by omega) hg.2.2 x hx
theorem dict_short {L : List ByteArray} (h : dictB L = true) : ∀ x ∈ L, shortB x = true := by
  unfold dictB at h
  rw [Bool.and_eq_true] at h
  have := goodN_short L L.length 0 (by omega) h.2
  rwa [List.drop_zero] at this
theorem dict_length {L : List ByteArray} (h : dictB L = true) : 1 ≤ L.length ∧ L.length ≤ 12 := by
  unfold dictB lenL at h
  simp only [Bool.and_eq_true, decide_eq_true_eq] at h
  omega
theorem short_size {x : ByteArray} (h : shortB x = true) : 1 ≤ x.size ∧ x.size ≤ 10 := by
  unfold shortB at h
  rw [Bool.and_eq_true, decide_eq_true_eq] at h
  exact ⟨(wordB_iff.1 h.1).1.1, h.2⟩
theorem short_low {x : ByteArray} (h : shortB x = true) : ∀ c ∈ bytesOf x, 97 ≤ c ∧ c ≤ 122 := by
  unfold shortB at h
  rw [Bool.and_eq_true] at h
  exact (wordB_iff.1 h.1).2
theorem ev_true {α : Type} {g : Nat → Option α} {r : α} (h : Ev g r) : Ev (fun k => g k) r := h
theorem pickO_ev (q : Nat → ByteArray → Option Bool) (p : ByteArray → Bool) : ∀ (L : List ByteArray), (∀ x ∈ L, Ev (fun k => q k x) (p x)) → Ev (fun k => pickO (q k) L) (L.filter p)
  | [], _ => ⟨0, fun _ _ => rfl⟩
  | x :: L, h => by
    obtain ⟨K1, e1⟩ := h x List.mem_cons_self
    obtain ⟨K2, e2⟩ := pickO_ev q p L (fun y hy => h y (List.mem_cons_of_mem x hy))
    refine ⟨K1 + K2, fun k hk => ?_⟩
    have e1 := e1 k (by omega)
    have e2 := e2 k (by omega)
    dsimp only at e1 e2 ⊢
    rw [pickO, e1, bsome, e2, bsome, List.filter_cons]
def justP (keys x : ByteArray) : Bool := (keysN x).toList == keys.toList
def headP (keys x : ByteArray) : Bool := Lib.hasPrefix (keysN x).data.toList keys.data.toList
theorem wordsFor_ev (L : List ByteArray) (hd : dictB L = true) (keys : ByteArray) : Ev (fun k => impl_wordsFor.f k L keys) (L.filter (justP keys)) := by
  have hl := dict_length hd
  obtain ⟨K, e⟩ := pickO_ev (fun k x => (impl_keysOf.f k x).bind fun y => some (y.toList == keys.toList)) (justP keys) L (fun x hx => by
    have hs := dict_short hd x hx
    obtain ⟨K, e⟩ := keysOf_ev x (by have := short_size hs; omega) (short_low hs)
    refine ⟨K, fun k hk => ?_⟩
    have e := e k hk
    dsimp only at e ⊢
    rw [e, bsome]
    rfl)
  refine ⟨K, fun k hk => ?_⟩
  have e := e k hk
  dsimp only at e ⊢
  unfold impl_wordsFor.f
  rw [if_pos (by omega), if_pos (by omega)]
  exact e
theorem isPrefix_take {α : Type} [BEq α] [LawfulBEq α] : ∀ (p l : List α), p.isPrefixOf l = (decide (p.length ≤ l.length) && (l.take p.length == p))
  | [], l => by simp
  | a :: p, [] => by simp
  | a :: p, b :: l => by
    rw [List.isPrefixOf, isPrefix_take p l]
    rw [Bool.eq_iff_iff]
    simp only [Bool.and_eq_true, beq_iff_eq, decide_eq_true_eq, List.length_cons, List.take_succ_cons, List.cons.injEq]
    constructor
    · rintro ⟨rfl, h1, h2⟩; exact ⟨by omega, rfl, h2⟩
    · rintro ⟨h1, rfl, h2⟩; exact ⟨rfl, by omega, h2⟩
theorem size_data (s : ByteArray) : s.data.toList.length = s.size := by rw [Array.length_toList]; rfl
theorem headP_is (keys x : ByteArray) : headP keys x = (justP keys x || (decide ((keysN x).size > keys.size) && (((keysN x).extract 0 keys.size).toList == keys.toList))) := by
  unfold headP justP Lib.hasPrefix
  generalize keysN x = y
  rw [isPrefix_take, size_data, size_data, Lib.toList_data, Lib.toList_data, Lib.toList_data, ByteArray.data_extract, Array.toList_extract, List.extract_eq_take_drop]
  rw [Bool.eq_iff_iff]
  simp only [Bool.and_eq_true, Bool.or_eq_true, beq_iff_eq, decide_eq_true_eq, List.drop_zero, Nat.sub_zero]
  constructor
  · rintro ⟨h1, h2⟩
    by_cases h : y.size = keys.size
    · left
      rw [← h2, ← h, ← size_data, List.take_length]
    · exact Or.inr ⟨by omega, h2⟩
  · rintro (h | ⟨h1, h2⟩)
    · have hs : y.size = keys.size := by rw [← size_data, ← size_data, h]
      exact ⟨by omega, by rw [← hs, ← size_data, List.take_length, h]⟩
    · exact ⟨by omega, h2⟩
def begP (just : Bool) (keys x : ByteArray) : Bool := if just = true then justP keys x else headP keys x
theorem wdBegins_l0 (L : List ByteArray) (hd : dictB L = true) (keys : ByteArray) (hk : keys.size ≤ 140737488351232) (j : Bool) : ∀ (d i : Nat) (A : List ByteArray), i + d = L.length → A.length ≤ i → Ev (fun k => spec_wdBegins.l0 k keys j A L L.length i) (A ++ (L.drop i).filter (begP j keys))
  | 0, i, A, hi, hA => by
    obtain rfl : i = L.length := by omega
    rw [List.drop_length]
    refine ev_from 0 fun k _ => ?_
    simp only [spec_wdBegins.l0]
    rw [if_neg (by omega)]
    simp
  | d + 1, i, A, hi, hA => by
    have hl := dict_length hd
    have hs := dict_short hd _ (rds_mem L i (by omega))
    have hz := short_size hs
    obtain ⟨K0, e0⟩ := prKeys_ev (rdOf ByteArray.empty L i) (by omega) (short_low hs)
    obtain ⟨K1, ih1⟩ := wdBegins_l0 L hd keys hk j d (i + 1) (A ++ [rdOf ByteArray.empty L i]) (by omega) (by rw [List.length_append, List.length_singleton]; omega)
    obtain ⟨K2, ih2⟩ := wdBegins_l0 L hd keys hk j d (i + 1) A (by omega) (by omega)
    have ksz := keysN_size (rdOf ByteArray.empty L i)
    rw [rds_drop L i (by omega), List.filter_cons]
    refine ev_from (K0 + K1 + K2) fun k hk => ?_
    have e1 := ih1 k (by omega)
    have e2 := ih2 k (by omega)
    have e0 := e0 k (by omega)
    rw [show ((i + 1 : Nat) : Int) = (i : Int) + 1 from rfl] at e1 e2
    dsimp only at e0 e1 e2
    simp only [spec_wdBegins.l0]
    rw [if_pos (by omega), if_pos (by omega), if_pos (by omega), e0, bsome, wr (x := (i : Int) + 1) (by omega) (by omega), e1]
    rw [List.append_assoc, List.singleton_append]
    by_cases h1 : (keysN (rdOf ByteArray.empty L i)).toList = keys.toList
    · have hb : begP j keys (rdOf ByteArray.empty L i) = true := by
        unfold begP
        have hj : justP keys (rdOf ByteArray.empty L i) = true := beq_iff_eq.2 h1
        rw [headP_is, hj]
        cases j <;> rfl
      rw [if_pos h1, if_pos (by omega), hb, if_pos rfl]
    · have hj : justP keys (rdOf ByteArray.empty L i) = false := beq_eq_false_iff_ne.2 h1
      rw [if_neg h1]
      cases j with
      | true =>
        rw [if_pos rfl]
        unfold begP at e2 ⊢
        rw [if_pos rfl, hj, if_neg (by simp)]
        exact e2
      | false =>
        rw [if_neg (by simp)]
        have hb0 : begP false keys (rdOf ByteArray.empty L i) = headP keys (rdOf ByteArray.empty L i) := rfl
        rw [hb0, headP_is, hj, Bool.false_or]
        by_cases h2 : (keysN (rdOf ByteArray.empty L i)).size > keys.size
        · rw [if_pos (by omega), if_pos (by omega), if_pos (by omega), decide_eq_true h2, Bool.true_and, Int.toNat_natCast]
          by_cases h3 : ((keysN (rdOf ByteArray.empty L i)).extract 0 keys.size).toList = keys.toList
          · rw [if_pos h3, if_pos (by omega), beq_iff_eq.2 h3, if_pos rfl]
          · rw [if_neg h3, beq_eq_false_iff_ne.2 h3, if_neg (by simp)]
            exact e2
        · rw [if_neg (by omega), decide_eq_false h2, Bool.false_and, if_neg (by simp)]
          exact e2
theorem wdBegins_ev (L : List ByteArray) (hd : dictB L = true) (keys : ByteArray) (hk : keys.size ≤ 140737488351232) (j : Bool) : Ev (fun k => spec_wdBegins.f k L keys j) (L.filter (begP j keys)) := by
  obtain ⟨K, e⟩ := wdBegins_l0 L hd keys hk j L.length 0 [] (by omega) (by simp)
  exact ⟨K, fun k hk => by have e := e k hk; dsimp only at e; unfold spec_wdBegins.f; simpa using e⟩
end Go.Proofs.YtcgkpdmejjgopaaDoor.Pu

namespace Go.Proofs.YtcgkpdmejjgopaaDoor.Pu
open Go.RowKit Go.Proofs.YtcgkpdmejjgopaaDoor.P Go.Proofs.YtcgkpdmejjgopaaDoorW.PrintWords Go.Proofs.YtcgkpdmejjgopaaDoorW.PrintLast Go.Proofs.YtcgkpdmejjgopaaDoorW.PrintMore

def txtN : Nat → Int → ByteArray → ByteArray
  | 0, _, A => A
  | n + 1, x, A => if x > 0 then txtN n (wrap64 (Int.tdiv x 10)) (strOfNums [(wrap64 (48 + (Int.tmod x 10))) % 256] ++ A) else (⟨#[109]⟩ : ByteArray) ++ A
def txt (v : Int) : ByteArray := if v ≤ 0 then (⟨#[109, 48]⟩ : ByteArray) else txtN (v.toNat + 1) v ⟨#[]⟩
theorem txtN_ev : ∀ (n : Nat) (x : Int) (A : ByteArray), x.toNat < n → 0 ≤ x → x ≤ 1099511627776 → A.size + x.toNat ≤ 1125899906842624 → Ev (fun k => laws_markText.l0 k x A) (txtN n x A)
  | 0, _, _, h, _, _, _ => absurd h (Nat.not_lt_zero _)
  | n + 1, x, A, h, h0, h1, h2 => by
    by_cases hx : x > 0
    · have hd : wrap64 (Int.tdiv x 10) = x / 10 := by
        rw [Int.tdiv_eq_ediv_of_nonneg h0]
        exact wr (by omega) (by omega)
      obtain ⟨K, e⟩ := txtN_ev n (wrap64 (Int.tdiv x 10)) (strOfNums [(wrap64 (48 + (Int.tmod x 10))) % 256] ++ A) (by rw [hd]; omega) (by rw [hd]; omega) (by rw [hd]; omega) (by
        rw [hd, ByteArray.size_append, size_nums, List.length_singleton]
        omega)
      refine ev_from K fun k hk => ?_
      have e := e k hk
      dsimp only at e
      simp only [laws_markText.l0, txtN]
      rw [if_pos hx, if_pos hx, bsome, if_pos (by rw [size_nums, List.length_singleton]; omega)]
      exact e
    · refine ev_from 0 fun k _ => ?_
      simp only [laws_markText.l0, txtN]
      rw [if_neg hx, if_neg hx, if_pos (by omega)]
theorem txt_ev (v : Int) (h : 0 ≤ v ∧ v ≤ 4194304) : Ev (fun k => laws_markText.f k v) (txt v) := by
  unfold txt
  by_cases hv : v ≤ 0
  · refine ⟨0, fun k _ => ?_⟩
    dsimp only
    unfold laws_markText.f
    rw [if_pos hv, if_pos hv]
  · obtain ⟨K, e⟩ := txtN_ev (v.toNat + 1) v ⟨#[]⟩ (by omega) h.1 (by omega) (by
      show 0 + v.toNat ≤ 1125899906842624
      omega)
    refine ⟨K, fun k hk => ?_⟩
    have e := e k hk
    dsimp only at e ⊢
    unfold laws_markText.f
    rw [if_neg hv, if_neg hv]
    exact e
def upT : Int → Nat → List ByteArray
  | _, 0 => []
  | v, n + 1 => txt v :: upT (v + 1) n
theorem markS_l0 : ∀ (d : Nat) (P R : List ByteArray) (v : Int), R.length = d → 0 ≤ v → v + d ≤ 4194304 → P.length + d ≤ 4194304 → Ev (fun k => laws_markStringS.l0 k (P ++ R) v (P.length : Int)) (v + d, P ++ upT v d)
  | 0, P, R, v, hd, h0, h1, h2 => by
    obtain rfl := List.eq_nil_of_length_eq_zero hd
    refine ev_from 0 fun k _ => ?_
    simp only [laws_markStringS.l0]
    rw [if_neg (by simp)]
    simp [upT]
  | d + 1, P, R, v, hd, h0, h1, h2 => by
    match R, hd with
    | r :: R, hd =>
      have hd : R.length = d := by simpa using hd
      obtain ⟨K0, e0⟩ := txt_ev v (by omega)
      obtain ⟨K, ih⟩ := markS_l0 d (P ++ [txt v]) R (v + 1) hd (by omega) (by omega) (by rw [List.length_append, List.length_singleton]; omega)
      refine ev_from (K0 + K) fun k hk => ?_
      have e := ih k (by omega)
      have e0 := e0 k (by omega)
      dsimp only at e e0
      simp only [laws_markStringS.l0]
      rw [if_pos (by simp only [List.length_append, List.length_cons]; omega), e0, bsome, if_pos (by omega), Int.toNat_natCast, sets_mid, wr (by omega) (by omega), wr (by omega) (by omega)]
      rw [List.length_append, List.length_singleton, show ((P.length + 1 : Nat) : Int) = (P.length : Int) + 1 from rfl] at e
      rw [e, upT]
      simp only [List.append_assoc, List.singleton_append]
      rw [show v + 1 + (d : Int) = v + ((d + 1 : Nat) : Int) by omega]
theorem markS_ev (L : List ByteArray) (hl : L.length ≤ 2097152) : Ev (fun k => laws_markStringS.f k L 1) (1 + L.length, upT 1 L.length) := by
  obtain ⟨K, e⟩ := markS_l0 L.length [] L 1 rfl (by omega) (by omega) (by simp; omega)
  exact ⟨K, fun k hk => by have e := e k hk; dsimp only at e; unfold laws_markStringS.f; simpa using e⟩
theorem heldS_l0 : ∀ (d : Nat) (P : List ByteArray) (v : Int), 0 ≤ v → v + d ≤ 4194304 → P.length + d ≤ 4194304 → Ev (fun k => laws_heldStringS.l0 k (P ++ upT v d) v (P.length : Int)) (v + d)
  | 0, P, v, h0, h1, h2 => by
    refine ev_from 0 fun k _ => ?_
    simp only [laws_heldStringS.l0]
    rw [if_neg (by simp [upT])]
    simp
  | d + 1, P, v, h0, h1, h2 => by
    obtain ⟨K0, e0⟩ := txt_ev v (by omega)
    obtain ⟨K, ih⟩ := heldS_l0 d (P ++ [txt v]) (v + 1) (by omega) (by omega) (by rw [List.length_append, List.length_singleton]; omega)
    refine ev_from (K0 + K) fun k hk => ?_
    have e := ih k (by omega)
    have e0 := e0 k (by omega)
    dsimp only at e e0
    rw [List.length_append, List.length_singleton, show ((P.length + 1 : Nat) : Int) = (P.length : Int) + 1 from rfl, List.append_assoc, List.singleton_append] at e
    simp only [laws_heldStringS.l0]
    rw [upT, if_pos (by simp only [List.length_append, List.length_cons]; omega), if_pos (by omega), e0, bsome, rds_mid, if_pos rfl, wr (by omega) (by omega), wr (by omega) (by omega), e]
    rw [show v + 1 + (d : Int) = v + ((d + 1 : Nat) : Int) by omega]
theorem heldS_ev (n : Nat) (hl : n ≤ 2097152) : Ev (fun k => laws_heldStringS.f k (upT 1 n) 1) (1 + n) := by
  obtain ⟨K, e⟩ := heldS_l0 n [] 1 (by omega) (by omega) (by simp; omega)
  exact ⟨K, fun k hk => by have e := e k hk; dsimp only at e; unfold laws_heldStringS.f; simpa using e⟩
end Go.Proofs.YtcgkpdmejjgopaaDoor.Pu

namespace Go.Proofs.YtcgkpdmejjgopaaDoor.Pu
open Go.RowKit Go.Proofs.YtcgkpdmejjgopaaDoor.P Go.Proofs.YtcgkpdmejjgopaaDoorW.PrintWords Go.Proofs.YtcgkpdmejjgopaaDoorW.PrintLast Go.Proofs.YtcgkpdmejjgopaaDoorW.PrintMore

/-! ### rows of rows -/
def totG : List (List ByteArray) → Nat
  | [] => 0
  | x :: G => x.length + totG G
def upG : Int → List (List ByteArray) → List (List ByteArray)
  | _, [] => []
  | v, x :: G => upT v x.length :: upG (v + x.length) G
theorem upT_length : ∀ (n : Nat) (v : Int), (upT v n).length = n
  | 0, _ => rfl
  | n + 1, v => by rw [upT, List.length_cons, upT_length n (v + 1)]
theorem upG_length : ∀ (G : List (List ByteArray)) (v : Int), (upG v G).length = G.length
  | [], _ => rfl
  | x :: G, v => by rw [upG, List.length_cons, List.length_cons, upG_length G]
theorem rdl_mid (P : List (List ByteArray)) (x : List ByteArray) (R : List (List ByteArray)) : rd_L1 (P ++ x :: R) (P.length : Int) = x := by
  unfold rd_L1
  rw [Int.toNat_natCast, List.getD_eq_getElem?_getD, List.getElem?_append_right (Nat.le_refl _), Nat.sub_self]
  rfl
theorem markSS_ev : ∀ (G : List (List ByteArray)) (v : Int), 0 ≤ v → v + totG G ≤ 1000000 → Ev (fun k => laws_markStringSS.mk k G v) (v + totG G, upG v G)
  | [], v, h0, h1 => ⟨0, fun k _ => by simp [laws_markStringSS.mk, totG, upG]⟩
  | x :: G, v, h0, h1 => by
    rw [totG] at h1
    obtain ⟨K0, e0⟩ := markS_l0 x.length [] x v rfl h0 (by omega) (by simp; omega)
    obtain ⟨K, ih⟩ := markSS_ev G (v + x.length) (by omega) (by omega)
    refine ⟨K0 + K, fun k hk => ?_⟩
    have e := ih k (by omega)
    have e0 := e0 k (by omega)
    rw [List.nil_append, List.nil_append, List.length_nil] at e0
    dsimp only at e e0 ⊢
    rw [laws_markStringSS.mk]
    unfold laws_markStringS.f
    rw [show (0 : Int) = ((0 : Nat) : Int) from rfl, e0, bsome, e, bsome, totG, upG]
    rw [show v + (x.length : Int) + (totG G : Int) = v + ((x.length + totG G : Nat) : Int) by omega]
theorem heldSS_l0 : ∀ (G P : List (List ByteArray)) (v : Int), 0 ≤ v → v + totG G ≤ 1000000 → P.length + G.length ≤ 1000000 → Ev (fun k => laws_heldStringSS.l0 k (P ++ upG v G) v (P.length : Int)) (v + totG G)
  | [], P, v, h0, h1, h2 => by
    refine ev_from 0 fun k _ => ?_
    simp only [laws_heldStringSS.l0]
    rw [if_neg (by simp [upG])]
    simp [totG]
  | x :: G, P, v, h0, h1, h2 => by
    rw [totG] at h1
    rw [List.length_cons] at h2
    obtain ⟨K0, e0⟩ := heldS_l0 x.length [] v h0 (by omega) (by simp; omega)
    obtain ⟨K, ih⟩ := heldSS_l0 G (P ++ [upT v x.length]) (v + x.length) (by omega) (by omega) (by rw [List.length_append, List.length_singleton]; omega)
    refine ev_from (K0 + K) fun k hk => ?_
    have e := ih k (by omega)
    have e0 := e0 k (by omega)
    rw [List.nil_append, List.length_nil] at e0
    dsimp only at e e0
    rw [List.length_append, List.length_singleton, show ((P.length + 1 : Nat) : Int) = (P.length : Int) + 1 from rfl, List.append_assoc, List.singleton_append] at e
    simp only [laws_heldStringSS.l0]
    rw [upG, if_pos (by simp only [List.length_append, List.length_cons]; omega), if_pos (by omega), rdl_mid]
    unfold laws_heldStringS.f
    rw [show (0 : Int) = ((0 : Nat) : Int) from rfl, e0, bsome, if_neg (by omega), wr (by omega) (by omega), e, totG]
    rw [show v + (x.length : Int) + (totG G : Int) = v + ((x.length + totG G : Nat) : Int) by omega]
theorem heldSS_ev (G : List (List ByteArray)) (h1 : 1 + totG G ≤ 1000000) (h2 : G.length ≤ 1000000) : Ev (fun k => laws_heldStringSS.f k (upG 1 G) 1) (1 + totG G) := by
  obtain ⟨K, e⟩ := heldSS_l0 G [] 1 (by omega) (by omega) (by simp; omega)
  exact ⟨K, fun k hk => by have e := e k hk; dsimp only at e; unfold laws_heldStringSS.f; simpa using e⟩
theorem eqSS_l0 : ∀ (G P : List (List ByteArray)), (∀ x ∈ G, x.length ≤ 1000000) → P.length + G.length ≤ 1000000 → Ev (fun k => laws_eqStringSS.l0 k (P ++ G) (P ++ G) (P.length : Int)) true
  | [], P, _, h2 => by
    refine ev_from 0 fun k _ => ?_
    simp only [laws_eqStringSS.l0]
    rw [if_neg (by simp)]
  | x :: G, P, hx, h2 => by
    rw [List.length_cons] at h2
    obtain ⟨K0, e0⟩ := eqS_ev x (by have := hx x List.mem_cons_self; omega)
    obtain ⟨K, ih⟩ := eqSS_l0 G (P ++ [x]) (fun y hy => hx y (List.mem_cons_of_mem x hy)) (by rw [List.length_append, List.length_singleton]; omega)
    refine ev_from (K0 + K) fun k hk => ?_
    have e := ih k (by omega)
    have e0 := e0 k (by omega)
    dsimp only at e e0
    rw [List.length_append, List.length_singleton, show ((P.length + 1 : Nat) : Int) = (P.length : Int) + 1 from rfl, List.append_assoc, List.singleton_append] at e
    simp only [laws_eqStringSS.l0]
    rw [if_pos (by simp only [List.length_append, List.length_cons]; omega), if_pos (by omega), if_pos (by simp only [List.length_append, List.length_cons]; omega), rdl_mid, e0, bsome, if_pos rfl, wr (by omega) (by omega), e]
theorem eqSS_ev (G : List (List ByteArray)) (hx : ∀ x ∈ G, x.length ≤ 1000000) (h2 : G.length ≤ 1000000) : Ev (fun k => laws_eqStringSS.f k G G) true := by
  obtain ⟨K, e⟩ := eqSS_l0 G [] hx (by simp; omega)
  exact ⟨K, fun k hk => by have e := e k hk; dsimp only at e ⊢; unfold laws_eqStringSS.f; rw [if_pos rfl]; simpa using e⟩
/-! ### shared keys -/
def sharedN (L : List ByteArray) : List ByteArray → List (List ByteArray)
  | [] => []
  | x :: R => (if 1 < (L.filter (justP (keysN x))).length ∧ (rdOf ByteArray.empty (L.filter (justP (keysN x))) 0).toList = x.toList then [L.filter (justP (keysN x))] else []) ++ sharedN L R
theorem shared_length (L : List ByteArray) : ∀ R, (sharedN L R).length ≤ R.length
  | [] => Nat.le_refl _
  | x :: R => by
    have := shared_length L R
    rw [sharedN, List.length_append, List.length_cons]
    split <;> simp <;> omega
theorem shared_mem (L : List ByteArray) : ∀ R, ∀ y ∈ sharedN L R, y.length ≤ L.length
  | [], y, h => by cases h
  | x :: R, y, h => by
    rw [sharedN, List.mem_append] at h
    rcases h with h | h
    · split at h
      · rw [List.mem_singleton] at h
        rw [h]
        exact List.length_filter_le _ _
      · cases h
    · exact shared_mem L R y h
theorem tot_le (n : Nat) : ∀ G : List (List ByteArray), (∀ x ∈ G, x.length ≤ n) → totG G ≤ n * G.length
  | [], _ => by simp [totG]
  | x :: G, h => by
    have h1 := h x List.mem_cons_self
    have h2 := tot_le n G (fun y hy => h y (List.mem_cons_of_mem x hy))
    rw [totG, List.length_cons, Nat.mul_succ]
    omega
theorem sharedI_l0 (L : List ByteArray) (hd : dictB L = true) : ∀ (d i : Nat) (A : List (List ByteArray)), i + d = L.length → A.length ≤ i → Ev (fun k => impl_SharedKeys.l0 k L A L L.length i) (A ++ sharedN L (L.drop i), true)
  | 0, i, A, hi, hA => by
    obtain rfl : i = L.length := by omega
    rw [List.drop_length]
    refine ev_from 0 fun k _ => ?_
    simp only [impl_SharedKeys.l0]
    rw [if_neg (by omega)]
    simp [sharedN]
  | d + 1, i, A, hi, hA => by
    have hlen := dict_length hd
    have hs := dict_short hd _ (rds_mem L i (by omega))
    rw [rds_drop L i (by omega), sharedN]
    obtain ⟨x, hx⟩ : ∃ x, rdOf ByteArray.empty L (i : Int) = x := ⟨_, rfl⟩
    rw [hx] at hs ⊢
    have hsz := short_size hs
    obtain ⟨K0, e0⟩ := keysOf_ev x (by omega) (short_low hs)
    obtain ⟨K1, e1⟩ := wordsFor_ev L hd (keysN x)
    generalize L.filter (justP (keysN x)) = F at *
    by_cases h1 : 1 < F.length
    · by_cases h2 : (rdOf ByteArray.empty F 0).toList = x.toList
      · rw [if_pos ⟨h1, h2⟩, ← List.append_assoc]
        obtain ⟨K, ih⟩ := sharedI_l0 L hd d (i + 1) (A ++ [F]) (by omega) (by rw [List.length_append, List.length_singleton]; omega)
        refine ev_from (K0 + K1 + K) fun k hk => ?_
        have e := ih k (by omega)
        have e0 := e0 k (by omega)
        have e1 := e1 k (by omega)
        rw [show ((i + 1 : Nat) : Int) = (i : Int) + 1 from rfl] at e
        dsimp only at e e0 e1
        simp only [impl_SharedKeys.l0]
        rw [hx, if_pos (by omega), if_pos (by omega), if_pos (by omega), e0, bsome, e1, bsome]
        rw [if_pos (by omega), if_pos (by omega), if_pos h2, if_pos (by omega), wr (by omega) (by omega), e]
      · rw [if_neg (fun h => h2 h.2), List.nil_append]
        obtain ⟨K, ih⟩ := sharedI_l0 L hd d (i + 1) A (by omega) (by omega)
        refine ev_from (K0 + K1 + K) fun k hk => ?_
        have e := ih k (by omega)
        have e0 := e0 k (by omega)
        have e1 := e1 k (by omega)
        rw [show ((i + 1 : Nat) : Int) = (i : Int) + 1 from rfl] at e
        dsimp only at e e0 e1
        simp only [impl_SharedKeys.l0]
        rw [hx, if_pos (by omega), if_pos (by omega), if_pos (by omega), e0, bsome, e1, bsome]
        rw [if_pos (by omega), if_pos (by omega), if_neg h2, wr (by omega) (by omega), e]
    · rw [if_neg (fun h => h1 h.1), List.nil_append]
      obtain ⟨K, ih⟩ := sharedI_l0 L hd d (i + 1) A (by omega) (by omega)
      refine ev_from (K0 + K1 + K) fun k hk => ?_
      have e := ih k (by omega)
      have e0 := e0 k (by omega)
      have e1 := e1 k (by omega)
      rw [show ((i + 1 : Nat) : Int) = (i : Int) + 1 from rfl] at e
      dsimp only at e e0 e1
      simp only [impl_SharedKeys.l0]
      rw [hx, if_pos (by omega), if_pos (by omega), if_pos (by omega), e0, bsome, e1, bsome]
      rw [if_neg (by omega), wr (by omega) (by omega), e]
theorem sharedS_l0 (L : List ByteArray) (hd : dictB L = true) : ∀ (d i : Nat) (A : List (List ByteArray)), i + d = L.length → A.length ≤ i → Ev (fun k => spec_SharedKeys.l0 k L A L L.length i) (A ++ sharedN L (L.drop i), true)
  | 0, i, A, hi, hA => by
    obtain rfl : i = L.length := by omega
    rw [List.drop_length]
    refine ev_from 0 fun k _ => ?_
    simp only [spec_SharedKeys.l0]
    rw [if_neg (by omega)]
    simp [sharedN]
  | d + 1, i, A, hi, hA => by
    have hlen := dict_length hd
    have hs := dict_short hd _ (rds_mem L i (by omega))
    rw [rds_drop L i (by omega), sharedN]
    obtain ⟨x, hx⟩ : ∃ x, rdOf ByteArray.empty L (i : Int) = x := ⟨_, rfl⟩
    rw [hx] at hs ⊢
    have hsz := short_size hs
    obtain ⟨K0, e0⟩ := prKeys_ev x (by omega) (short_low hs)
    obtain ⟨K1, e1⟩ : Ev (fun k => spec_wdBegins.f k L (keysN x) true) (L.filter (justP (keysN x))) := wdBegins_ev L hd (keysN x) (by rw [keysN_size]; omega) true
    generalize L.filter (justP (keysN x)) = F at *
    by_cases h1 : 1 < F.length
    · by_cases h2 : (rdOf ByteArray.empty F 0).toList = x.toList
      · rw [if_pos ⟨h1, h2⟩, ← List.append_assoc]
        obtain ⟨K, ih⟩ := sharedS_l0 L hd d (i + 1) (A ++ [F]) (by omega) (by rw [List.length_append, List.length_singleton]; omega)
        refine ev_from (K0 + K1 + K) fun k hk => ?_
        have e := ih k (by omega)
        have e0 := e0 k (by omega)
        have e1 := e1 k (by omega)
        rw [show ((i + 1 : Nat) : Int) = (i : Int) + 1 from rfl] at e
        dsimp only at e e0 e1
        simp only [spec_SharedKeys.l0]
        rw [hx, if_pos (by omega), if_pos (by omega), if_pos (by omega), e0, bsome, e1, bsome]
        rw [if_pos (by omega), if_pos (by omega), if_pos h2, if_pos (by omega), wr (by omega) (by omega), e]
      · rw [if_neg (fun h => h2 h.2), List.nil_append]
        obtain ⟨K, ih⟩ := sharedS_l0 L hd d (i + 1) A (by omega) (by omega)
        refine ev_from (K0 + K1 + K) fun k hk => ?_
        have e := ih k (by omega)
        have e0 := e0 k (by omega)
        have e1 := e1 k (by omega)
        rw [show ((i + 1 : Nat) : Int) = (i : Int) + 1 from rfl] at e
        dsimp only at e e0 e1
        simp only [spec_SharedKeys.l0]
        rw [hx, if_pos (by omega), if_pos (by omega), if_pos (by omega), e0, bsome, e1, bsome]
        rw [if_pos (by omega), if_pos (by omega), if_neg h2, wr (by omega) (by omega), e]
    · rw [if_neg (fun h => h1 h.1), List.nil_append]
      obtain ⟨K, ih⟩ := sharedS_l0 L hd d (i + 1) A (by omega) (by omega)
      refine ev_from (K0 + K1 + K) fun k hk => ?_
      have e := ih k (by omega)
      have e0 := e0 k (by omega)
      have e1 := e1 k (by omega)
      rw [show ((i + 1 : Nat) : Int) = (i : Int) + 1 from rfl] at e
      dsimp only at e e0 e1
      simp only [spec_SharedKeys.l0]
      rw [hx, if_pos (by omega), if_pos (by omega), if_pos (by omega), e0, bsome, e1, bsome]
      rw [if_neg (by omega), wr (by omega) (by omega), e]
def shT (L : List ByteArray) : List (List ByteArray) × Bool := if dictB L = true then (sharedN L L, true) else ([], false)
theorem sharedI_ev (L : List ByteArray) (hl : L.length ≤ 1048576) (hL : ∀ x ∈ L, x.size ≤ 140737488351232) : Ev (fun k => impl_SharedKeys.f k L) (shT L) := by
  obtain ⟨K0, e0⟩ := isDict_ev L (by omega) hL
  unfold shT
  cases hd : dictB L with
  | false =>
    refine ⟨K0, fun k hk => ?_⟩
    have e0 := e0 k hk
    rw [hd] at e0
    dsimp only at e0 ⊢
    unfold impl_SharedKeys.f
    rw [e0, bsome, if_neg (by simp), if_neg (by simp)]
  | true =>
    obtain ⟨K, e⟩ := sharedI_l0 L hd L.length 0 [] (by omega) (by simp)
    refine ⟨K0 + K, fun k hk => ?_⟩
    have e0 := e0 k (by omega)
    have e := e k (by omega)
    rw [hd] at e0
    rw [List.drop_zero, List.nil_append] at e
    dsimp only at e0 e ⊢
    unfold impl_SharedKeys.f
    rw [e0, bsome, if_pos rfl, if_pos rfl]
    exact e
theorem sharedS_ev (L : List ByteArray) (hl : L.length ≤ 1048576) (hL : ∀ x ∈ L, x.size ≤ 140737488351232) : Ev (fun k => spec_SharedKeys.f k L) (shT L) := by
  obtain ⟨K0, e0⟩ := wdGood_ev L (by omega) hL
  unfold shT
  cases hd : dictB L with
  | false =>
    refine ⟨K0, fun k hk => ?_⟩
    have e0 := e0 k hk
    rw [hd] at e0
    dsimp only at e0 ⊢
    unfold spec_SharedKeys.f
    rw [e0, bsome, if_neg (by simp), if_neg (by simp)]
  | true =>
    obtain ⟨K, e⟩ := sharedS_l0 L hd L.length 0 [] (by omega) (by simp)
    refine ⟨K0 + K, fun k hk => ?_⟩
    have e0 := e0 k (by omega)
    have e := e k (by omega)
    rw [hd] at e0
    rw [List.drop_zero, List.nil_append] at e
    dsimp only at e0 e ⊢
    unfold spec_SharedKeys.f
    rw [e0, bsome, if_pos rfl, if_pos rfl]
    exact e
theorem shT_small (L : List ByteArray) : (shT L).1.length ≤ 12 ∧ ∀ x ∈ (shT L).1, x.length ≤ 12 := by
  unfold shT
  split
  · rename_i hd
    have hlen := dict_length hd
    exact ⟨Nat.le_trans (shared_length L L) hlen.2, fun x hx => Nat.le_trans (shared_mem L L x hx) hlen.2⟩
  · simp
end Go.Proofs.YtcgkpdmejjgopaaDoor.Pu

namespace Go.Proofs.YtcgkpdmejjgopaaDoor.Pure
open Go.RowKit Go.Proofs.YtcgkpdmejjgopaaDoor.P Go.Proofs.YtcgkpdmejjgopaaDoor.Pu Go.Proofs.YtcgkpdmejjgopaaDoorW.PrintWords Go.Proofs.YtcgkpdmejjgopaaDoorW.PrintLast

theorem FnExactSharedKeys : laws_FnExactSharedKeys.Pure := by
  intro L _ hl hL
  obtain ⟨r, ⟨K1, h1⟩, hr⟩ := szS_ev L (by omega) hL
  rcases hr with hr | ⟨hn, hx⟩
  · refine ⟨K1, ?_⟩
    have e1 := h1 K1 (Nat.le_refl _)
    dsimp only at e1
    unfold laws_FnExactSharedKeys.f
    rw [e1, bsome, if_pos hr]
  · have hx' : ∀ x ∈ L, x.size ≤ 140737488351232 := fun x h => by have := hx x h; omega
    obtain ⟨ht1, ht2⟩ := shT_small L
    have htot := tot_le 12 (shT L).1 ht2
    have htot2 : totG (shT L).1 ≤ 144 := Nat.le_trans htot (Nat.mul_le_mul_left 12 ht1)
    obtain ⟨K2, h2⟩ := toS_ev L hn
    obtain ⟨K3, h3⟩ := sharedS_ev L hn hx'
    obtain ⟨K4, h4⟩ := sharedI_ev L hn hx'
    obtain ⟨K5, h5⟩ := eqSS_ev (shT L).1 (fun x hx => by have := ht2 x hx; omega) (by omega)
    obtain ⟨K6, h6⟩ := eqS_ev L (by omega)
    obtain ⟨K7, h7⟩ := markS_ev L (by omega)
    obtain ⟨K8, h8⟩ := markSS_ev (shT L).1 1 (by omega) (by omega)
    obtain ⟨K9, h9⟩ := heldSS_ev (shT L).1 (by omega) (by omega)
    refine ⟨K1 + K2 + K3 + K4 + K5 + K6 + K7 + K8 + K9, ?_⟩
    have e1 := h1 (K1 + K2 + K3 + K4 + K5 + K6 + K7 + K8 + K9) (by omega)
    have e2 := h2 (K1 + K2 + K3 + K4 + K5 + K6 + K7 + K8 + K9) (by omega)
    have e3 := h3 (K1 + K2 + K3 + K4 + K5 + K6 + K7 + K8 + K9) (by omega)
    have e4 := h4 (K1 + K2 + K3 + K4 + K5 + K6 + K7 + K8 + K9) (by omega)
    have e5 := h5 (K1 + K2 + K3 + K4 + K5 + K6 + K7 + K8 + K9) (by omega)
    have e6 := h6 (K1 + K2 + K3 + K4 + K5 + K6 + K7 + K8 + K9) (by omega)
    have e7 := h7 (K1 + K2 + K3 + K4 + K5 + K6 + K7 + K8 + K9) (by omega)
    have e8 := h8 (K1 + K2 + K3 + K4 + K5 + K6 + K7 + K8 + K9) (by omega)
    have e9 := h9 (K1 + K2 + K3 + K4 + K5 + K6 + K7 + K8 + K9) (by omega)
    dsimp only at e1 e2 e3 e4 e5 e6 e7 e8 e9
    unfold laws_FnExactSharedKeys.f laws_markStringSS.f
    rw [e1, bsome]
    by_cases h0 : r < 0
    · rw [if_pos h0]
    · rw [if_neg h0, e2, bsome, e3, bsome, e4, bsome, e5, bsome, e6, bsome, e7, bsome, e8, bsome, e9, bsome, if_pos ⟨rfl, rfl, rfl, by omega, rfl, by omega⟩]
end Go.Proofs.YtcgkpdmejjgopaaDoor.Pure

