/- Parts of the proof (printed walks, lemmas of our own, contracts of the library laid for this program), merged into one text by wip/mclaim.py. Conditions: each theorem's own. -/
import Derived.Test.YtehoilmedejjlaaDoorM0
namespace Go.Proofs.YtehoilmedejjlaaDoor.Pu
open Go.RowKit Go.Proofs.YtehoilmedejjlaaDoor.P Go.Proofs.YtehoilmedejjlaaDoorW.PrintWords Go.Proofs.YtehoilmedejjlaaDoorW.PrintLast Go.Proofs.YtehoilmedejjlaaDoorW.PrintMore

/-! ### words -/
def isLow (c : Int) : Bool := decide (97 ≤ c) && decide (c ≤ 122)
def isDig (c : Int) : Bool := decide (50 ≤ c) && decide (c ≤ 57)
def lenB (s : ByteArray) (lo hi : Nat) : Bool := decide (lo ≤ s.size) && decide (s.size ≤ hi)
def wordB (s : ByteArray) : Bool := lenB s 1 40 && (bytesOf s).all isLow
def keysB (s : ByteArray) : Bool := lenB s 1 40 && (bytesOf s).all isDig
theorem wordB_iff {s : ByteArray} : wordB s = true ↔ (1 ≤ s.size ∧ s.size ≤ 40) ∧ ∀ c ∈ bytesOf s, 97 ≤ c ∧ c ≤ 122 := by
  unfold wordB lenB isLow
  simp [List.all_eq_true]
theorem keysB_iff {s : ByteArray} : keysB s = true ↔ (1 ≤ s.size ∧ s.size ≤ 40) ∧ ∀ c ∈ bytesOf s, 50 ≤ c ∧ c ≤ 57 := by
  unfold keysB lenB isDig
  simp [List.all_eq_true]

theorem lenB_int (s : ByteArray) (lo hi : Nat) : (decide ((lo : Int) ≤ (s.size : Int)) && decide ((s.size : Int) ≤ (hi : Int))) = lenB s lo hi := by
  unfold lenB
  rw [decide_eq_decide.2 (Int.ofNat_le (m := lo) (n := s.size)), decide_eq_decide.2 (Int.ofNat_le (m := s.size) (n := hi))]
theorem over_is (s cs : ByteArray) (hs : s.size ≤ 9223372036854775807) (hc : cs.size < 4294967281) (ha : cs.data.toList.all (fun b => decide (b.toNat < 128)) = true) (q : Int → Bool)
    (hq : ∀ b : UInt8, cs.data.toList.contains b = q b.toNat) : impl_over.f s cs = some ((bytesOf s).all q) := by
  unfold impl_over.f strings_Trim.f
  rw [if_pos hs, if_pos hc, if_pos ha]
  simp only [bsome, Option.some.injEq]
  rw [← bytes_all hq, Bool.eq_iff_iff, beq_iff_eq, Lib.toList_data, ← trimS_nil]
theorem low_contains (b : UInt8) : (⟨#[97, 98, 99, 100, 101, 102, 103, 104, 105, 106, 107, 108, 109, 110, 111, 112, 113, 114, 115, 116, 117, 118, 119, 120, 121, 122]⟩ : ByteArray).data.toList.contains b = isLow b.toNat := by
  have key : ∀ n : Fin 256, (⟨#[97, 98, 99, 100, 101, 102, 103, 104, 105, 106, 107, 108, 109, 110, 111, 112, 113, 114, 115, 116, 117, 118, 119, 120, 121, 122]⟩ : ByteArray).data.toList.contains (UInt8.ofNat n.val) = isLow (UInt8.ofNat n.val).toNat := by decide +kernel
  have := key ⟨b.toNat, b.toNat_lt⟩
  simpa using this
theorem dig_contains (b : UInt8) : (⟨#[50, 51, 52, 53, 54, 55, 56, 57]⟩ : ByteArray).data.toList.contains b = isDig b.toNat := by
  have key : ∀ n : Fin 256, (⟨#[50, 51, 52, 53, 54, 55, 56, 57]⟩ : ByteArray).data.toList.contains (UInt8.ofNat n.val) = isDig (UInt8.ofNat n.val).toNat := by decide +kernel
  have := key ⟨b.toNat, b.toNat_lt⟩
  simpa using this
theorem low_over (s : ByteArray) (hs : s.size ≤ 9223372036854775807) : impl_over.f s (⟨#[97, 98, 99, 100, 101, 102, 103, 104, 105, 106, 107, 108, 109, 110, 111, 112, 113, 114, 115, 116, 117, 118, 119, 120, 121, 122]⟩ : ByteArray) = some ((bytesOf s).all isLow) :=
  over_is s _ hs (by decide) (by decide) isLow low_contains
theorem isWord_is (s : ByteArray) (hs : s.size ≤ 140737488351232) : impl_IsWord.f s = some (wordB s) := by
  unfold impl_IsWord.f wordB
  rw [in_is, show (1 : Int) = ((1 : Nat) : Int) from rfl, show (40 : Int) = ((40 : Nat) : Int) from rfl, lenB_int, low_over s (by omega)]
  simp only [bsome]
  cases lenB s 1 40 <;> simp
theorem prWord_l0 (s : ByteArray) (hs : s.size ≤ 140737488351232) : ∀ (d i : Nat), i + d = s.size → Ev (fun k => spec_prWord.l0 k s i) (((bytesOf s).drop i).all isLow)
  | 0, i, h => by
    obtain rfl : i = s.size := by omega
    rw [drop_end]
    refine ev_from 0 fun k _ => ?_
    simp only [spec_prWord.l0]
    rw [if_neg (by omega)]
    rfl
  | d + 1, i, h => by
    obtain ⟨K, ih⟩ := prWord_l0 s hs d (i + 1) (by omega)
    rw [drop_bytes s i (by omega), List.all_cons]
    refine ev_from K fun k hk => ?_
    have e := ih k hk
    rw [show ((i + 1 : Nat) : Int) = (i : Int) + 1 from rfl] at e
    dsimp only at e
    simp only [spec_prWord.l0]
    rw [if_pos (by omega), if_pos (by omega), wr (by omega) (by omega), e]
    unfold isLow
    by_cases h1 : bt s i < 97
    · rw [if_pos h1, decide_eq_false (by omega)]; rfl
    · rw [if_neg h1, decide_eq_true (show 97 ≤ bt s i by omega)]
      by_cases h2 : bt s i > 122
      · rw [if_pos h2, decide_eq_false (by omega)]; rfl
      · rw [if_neg h2, decide_eq_true (by omega)]; rfl
theorem prWord_ev (s : ByteArray) (hs : s.size ≤ 140737488351232) : Ev (fun k => spec_prWord.f k s) (wordB s) := by
  obtain ⟨K, h⟩ := prWord_l0 s hs s.size 0 (by omega)
  refine ⟨K, fun k hk => ?_⟩
  have e := h k hk
  unfold spec_prWord.f wordB
  rw [l1In_is, show (1 : Int) = ((1 : Nat) : Int) from rfl, show (40 : Int) = ((40 : Nat) : Int) from rfl, lenB_int]
  simp only [bsome]
  cases lenB s 1 40
  · rfl
  · rw [if_pos rfl]; exact e

end Go.Proofs.YtehoilmedejjlaaDoor.Pu

namespace Go.Proofs.YtehoilmedejjlaaDoor.P
open Go.RowKit Go.Proofs.YtehoilmedejjlaaDoorW.PrintWords Go.Proofs.YtehoilmedejjlaaDoorW.PrintLast Go.Proofs.YtehoilmedejjlaaDoorW.PrintMore
attribute [local go_sem] max2_int min2_int max_two min_two max_three min_three max_four min_four   -- for this text's walks alone
set_option linter.unusedVariables false
set_option linter.unusedSimpArgs false

/-! ### spec_prKey: function 34 -/
mutual
def spec_prKey.l0 : Nat → Int → Int → Option (Int × Int)
  | 0, _, _ => none
  | k + 1, x0, x4 => if x4 ≤ 57 then ((spec_prLetters.f x4).bind fun t102 => (spec_prKey.l1 k x0 x4 t102 0)) else (some (0, 0))
def spec_prKey.l1 : Nat → Int → Int → ByteArray → Int → Option (Int × Int)
  | 0, _, _, _, _ => none
  | k + 1, x0, x4, x5, x6 => if x6 < (x5.size : Int) then (if 0 ≤ x6 then (if (bt x5 x6) = x0 then (some (x4, wrap64 (x6 + 1))) else (spec_prKey.l1 k x0 x4 x5 (wrap64 (x6 + 1)))) else (none)) else (spec_prKey.l0 k x0 ((x4 + 1) % 256))
end
def spec_prKey.f (k : Nat) (a0 : Int) : Option (Int × Int) := spec_prKey.l0 k a0 50
theorem spec_prKey.mono_l : ∀ k, (∀ y0 y1, LeO (spec_prKey.l0 k y0 y1) (spec_prKey.l0 (k + 1) y0 y1)) ∧ (∀ y0 y1 y2 y3, LeO (spec_prKey.l1 k y0 y1 y2 y3) (spec_prKey.l1 (k + 1) y0 y1 y2 y3))
  | 0 => ⟨fun _ _ r h => by simp [spec_prKey.l0] at h, fun _ _ _ _ r h => by simp [spec_prKey.l1] at h⟩
  | k + 1 => by
    obtain ⟨ih0, ih1⟩ := spec_prKey.mono_l k
    refine ⟨?_, ?_⟩
    · intro y0 y1
      unfold spec_prKey.l0
      repeat' first
      | (with_reducible exact ih0 _ _)
      | (with_reducible exact ih1 _ _ _ _)
      | (with_reducible exact LeO.refl _)
      | (with_reducible exact LeO.none _)
      | (with_reducible refine LeO.ite ?_ ?_)
      | (with_reducible refine LeO.bind ?_ (fun _ => ?_))
      | exact ih0 _ _
      | exact ih1 _ _ _ _
      | exact LeO.none _
      | refine LeO.ite ?_ ?_
      | refine LeO.bind ?_ (fun _ => ?_)
    · intro y0 y1 y2 y3
      unfold spec_prKey.l1
      repeat' first
      | (with_reducible exact ih0 _ _)
      | (with_reducible exact ih1 _ _ _ _)
      | (with_reducible exact LeO.refl _)
      | (with_reducible exact LeO.none _)
      | (with_reducible refine LeO.ite ?_ ?_)
      | (with_reducible refine LeO.bind ?_ (fun _ => ?_))
      | exact ih0 _ _
      | exact ih1 _ _ _ _
      | exact LeO.none _
      | refine LeO.ite ?_ ?_
      | refine LeO.bind ?_ (fun _ => ?_)
theorem spec_prKey.mono : ∀ a0 k, LeO (spec_prKey.f k a0) (spec_prKey.f (k + 1) a0) := by
  intro a0 k
  obtain ⟨ih0, ih1⟩ := spec_prKey.mono_l k
  unfold spec_prKey.f
  repeat' first
      | (with_reducible exact ih0 _ _)
      | (with_reducible exact ih1 _ _ _ _)
      | (with_reducible exact LeO.refl _)
      | (with_reducible exact LeO.none _)
      | (with_reducible refine LeO.ite ?_ ?_)
      | (with_reducible refine LeO.bind ?_ (fun _ => ?_))
      | exact ih0 _ _
      | exact ih1 _ _ _ _
      | exact LeO.none _
      | refine LeO.ite ?_ ?_
      | refine LeO.bind ?_ (fun _ => ?_)
set_option maxHeartbeats 8000000 in
set_option maxRecDepth 100000 in
theorem spec_prKey.calls (k : Nat) (a0 : Int) (r1 : Int) (r2 : Int) (w : World) (h : spec_prKey.f k a0 = some (r1, r2)) :
    Calls Tryd.prog 34 #[.int .u8 a0] w fun e w' => e = .returned (.tuple #[.int .u8 r1, .int .i64 r2]) ∧ Drawn0 w w' := by
  have H : (spec_prKey.l0 k a0 50) = some (r1, r2) := h
  clear h
  have H' := Aside0.mk H
  clear H
  go_enter Tryd.func34, Tryd.ntmps34
  go_wp2
  go_loopg [4] k (fun kq v4 w' => ∃ (x4_1 : Int), v4 = .int .u8 x4_1 ∧ Aside0 (spec_prKey.l0 kq a0 x4_1 = some (r1, r2)) ∧ Aside0 (kq ≤ k) ∧ Drawn0 w w')
  case atStart => exact ⟨(50), (by first | rfl | (simp; done) | (simp [*]; done)), H', ⟨Nat.le_refl _⟩, by repeat (first | exact Drawn0.refl _ | apply Drawn0.step)⟩
  case round =>
    clear H'
    obtain ⟨x4_1, rfl, HA, HK1, ⟨m1, rfl⟩⟩ := hrel
    cases gk with
    | zero => exact absurd HA.out (by simp [spec_prKey.l0])
    | succ k1 =>
      have H := HA.out
      clear HA
      simp only [spec_prKey.l0] at H
      by_cases c2 : x4_1 ≤ 57
      · rw [if_pos c2] at H
        have c2b0 : decide (x4_1 ≤ 57) = true := decide_eq_true c2
        clear c2
        replace H := Option.bind_eq_some_iff.mp H
        obtain ⟨t102, A30, H⟩ := H
        replace H : (spec_prKey.l1 k1 a0 x4_1 t102 0) = some (r1, r2) := H
        have A3 := Aside0.mk A30
        clear A30
        have H' := Aside0.mk H
        clear H
        go_wp2_with (first | ((with_reducible refine gate_callee (f := 35) rfl ?_); refine goesL_ (some 12) rfl rfl Tryd.func35 (by kernel_rfl) rfl #[.int .u8 x4_1] rfl (by (try simp only [List.map_toArray, List.map_cons, List.map_nil]); first | done | rfl | (simp only [List.length_drop, List.length_take]; rfl)) ?_; (with_reducible refine (spec_prLetters.calls x4_1 t102 _ A3.out).mono ?_); rintro e w' ⟨rfl, ⟨nd, rfl⟩⟩; refine ⟨_, rfl, ?_⟩))
        go_loopg [6] k1 (fun kq v6 w' => ∃ (x6_2 : Int), v6 = .int .i64 x6_2 ∧ Aside0 (spec_prKey.l1 kq a0 x4_1 t102 x6_2 = some (r1, r2)) ∧ Aside0 (kq ≤ k1) ∧ Drawn0 w w')
        case atStart => exact ⟨(0), (by first | rfl | (simp; done) | (simp [*]; done)), H', ⟨Nat.le_refl _⟩, by repeat (first | exact Drawn0.refl _ | apply Drawn0.step)⟩
        case round =>
          clear H'
          try clear c2
          try clear c2b0
          try clear p2
          try clear c3
          obtain ⟨x6_2, rfl, HA, HK2, ⟨m2, rfl⟩⟩ := hrel
          cases gk with
          | zero => exact absurd HA.out (by simp [spec_prKey.l1])
          | succ k2 =>
            have H := HA.out
            clear HA
            simp only [spec_prKey.l1] at H
            by_cases c4 : x6_2 < (t102.size : Int)
            · rw [if_pos c4] at H
              have c4b0 : decide (x6_2 < (t102.size : Int)) = true := decide_eq_true c4
              clear c4
              by_cases c5 : 0 ≤ x6_2
              · rw [if_pos c5] at H
                have c5b0 : decide (0 ≤ x6_2) = true := decide_eq_true c5
                clear c5
                by_cases c7 : (bt t102 x6_2) = a0
                · rw [if_pos c7] at H
                  have c7b0 : ((bt t102 x6_2) == a0) = true := beq_iff_eq.mpr c7
                  have c7b1 : ((bt t102 x6_2) != a0) = false := bne_eq_false_iff_eq.mpr c7
                  clear c7
                  simp only [Option.some.injEq, Prod.mk.injEq] at H
                  obtain ⟨rfl, rfl⟩ := H
                  have p6 : 0 ≤ (x6_2 : Int) := of_decide_eq_true (by first | (with_reducible assumption) | assumption)
                  have q6 : x6_2 < (t102.size : Int) := of_decide_eq_true (by first | (with_reducible assumption) | assumption)
                  have hx6 := bt_at t102 x6_2
                  replace p6 := eq_true p6
                  replace q6 := eq_true q6
                  go_wp2
                  go_ret2
                  exact ⟨by first | rfl | (simp; done) | (simp [*]; done), by repeat (first | exact Drawn0.refl _ | apply Drawn0.step)⟩
                · rw [if_neg c7] at H
                  have c7b0 : ((bt t102 x6_2) == a0) = false := beq_eq_false_iff_ne.mpr c7
                  have c7b1 : ((bt t102 x6_2) != a0) = true := bne_iff_ne.mpr c7
                  have H' := Aside0.mk H
                  clear H
                  have p6 : 0 ≤ (x6_2 : Int) := of_decide_eq_true (by first | (with_reducible assumption) | assumption)
                  have q6 : x6_2 < (t102.size : Int) := of_decide_eq_true (by first | (with_reducible assumption) | assumption)
                  have hx6 := bt_at t102 x6_2
                  replace p6 := eq_true p6
                  replace q6 := eq_true q6
                  go_wp2
                  go_roundg k2
                  case measure => have := HK1.out; have := HK2.out; omega
                  case rel => exact ⟨(wrap64 (x6_2 + 1)), (by first | rfl | (simp; done) | (simp [*]; done)), H', ⟨by have := HK1.out; have := HK2.out; omega⟩, by repeat (first | exact Drawn0.refl _ | apply Drawn0.step)⟩
              · rw [if_neg c5] at H
                exact absurd H (by simp)
            · rw [if_neg c4] at H
              have c4b0 : decide (x6_2 < (t102.size : Int)) = false := decide_eq_false c4
              clear c4
              have H' := Aside0.mk H
              clear H
              go_wp2
              go_roundg k2
              case measure => have := HK1.out; have := HK2.out; omega
              case rel => exact ⟨((x4_1 + 1) % 256), (by first | rfl | (simp; done) | (simp [*]; done)), H', ⟨by have := HK1.out; have := HK2.out; omega⟩, by repeat (first | exact Drawn0.refl _ | apply Drawn0.step)⟩
      · rw [if_neg c2] at H
        have c2b0 : decide (x4_1 ≤ 57) = false := decide_eq_false c2
        clear c2
        simp only [Option.some.injEq, Prod.mk.injEq] at H
        obtain ⟨rfl, rfl⟩ := H
        go_wp2
        go_ret2
        exact ⟨by first | rfl | (simp; done) | (simp [*]; done), by repeat (first | exact Drawn0.refl _ | apply Drawn0.step)⟩

end Go.Proofs.YtehoilmedejjlaaDoor.P

namespace Go.Proofs.YtehoilmedejjlaaDoor.Pu
open Go.RowKit Go.Proofs.YtehoilmedejjlaaDoor.P Go.Proofs.YtehoilmedejjlaaDoorW.PrintWords Go.Proofs.YtehoilmedejjlaaDoorW.PrintLast Go.Proofs.YtehoilmedejjlaaDoorW.PrintMore

/-- The key of a letter. -/
def keyN (c : Int) : Int := if c ≤ 99 then 50 else if c ≤ 102 then 51 else if c ≤ 105 then 52 else if c ≤ 108 then 53 else if c ≤ 111 then 54 else if c ≤ 115 then 55 else if c ≤ 118 then 56 else 57
/-- A letter's place on its key, from 0 on. -/
def posN (c : Int) : Int := if c ≤ 99 then c - 97 else if c ≤ 102 then c - 100 else if c ≤ 105 then c - 103 else if c ≤ 108 then c - 106 else if c ≤ 111 then c - 109 else if c ≤ 115 then c - 112 else if c ≤ 118 then c - 116 else c - 119
theorem keyN_range (c : Int) : 50 ≤ keyN c ∧ keyN c ≤ 57 := by unfold keyN; omega
theorem posN_range (c : Int) (h : 97 ≤ c ∧ c ≤ 122) : 0 ≤ posN c ∧ posN c ≤ 3 := by unfold posN; omega

theorem onPad_ev (c : Int) (h : 97 ≤ c ∧ c ≤ 122) : Ev (fun k => impl_onPad.f k c) (keyN c - 50, posN c) := by
  have key : ∀ n : Fin 26, impl_onPad.f 12 (97 + (n.val : Int)) = some (keyN (97 + (n.val : Int)) - 50, posN (97 + (n.val : Int))) := by decide +kernel
  have e := key ⟨(c - 97).toNat, by omega⟩
  rw [show (97 : Int) + (((c - 97).toNat : Nat) : Int) = c by omega] at e
  exact Ev.of (impl_onPad.mono c) e
theorem prKey_ev (c : Int) (h : 97 ≤ c ∧ c ≤ 122) : Ev (fun k => spec_prKey.f k c) (keyN c, posN c + 1) := by
  have key : ∀ n : Fin 26, spec_prKey.f 60 (97 + (n.val : Int)) = some (keyN (97 + (n.val : Int)), posN (97 + (n.val : Int)) + 1) := by decide +kernel
  have e := key ⟨(c - 97).toNat, by omega⟩
  rw [show (97 : Int) + (((c - 97).toNat : Nat) : Int) = c by omega] at e
  exact Ev.of (spec_prKey.mono c) e
end Go.Proofs.YtehoilmedejjlaaDoor.Pu

namespace Go.Proofs.YtehoilmedejjlaaDoor.Pu
open Go.RowKit Go.Proofs.YtehoilmedejjlaaDoor.P Go.Proofs.YtehoilmedejjlaaDoorW.PrintWords Go.Proofs.YtehoilmedejjlaaDoorW.PrintLast Go.Proofs.YtehoilmedejjlaaDoorW.PrintMore

theorem keyOf_ev (c : Int) (h : 97 ≤ c ∧ c ≤ 122) : Ev (fun k => impl_keyOf.f k c) (keyN c) := by
  obtain ⟨K, e⟩ := onPad_ev c h
  have hp := keyN_range c
  refine ⟨K, fun k hk => ?_⟩
  have e := e k hk
  dsimp only at e
  dsimp only
  unfold impl_keyOf.f
  rw [e]
  simp only [bsome, Option.some.injEq]
  omega

end Go.Proofs.YtehoilmedejjlaaDoor.Pu

namespace Go.Proofs.YtehoilmedejjlaaDoor.Pu
open Go.RowKit Go.Proofs.YtehoilmedejjlaaDoor.P Go.Proofs.YtehoilmedejjlaaDoorW.PrintWords Go.Proofs.YtehoilmedejjlaaDoorW.PrintLast Go.Proofs.YtehoilmedejjlaaDoorW.PrintMore

theorem presses_ev (c : Int) (h : 97 ≤ c ∧ c ≤ 122) : Ev (fun k => impl_presses.f k c) (posN c + 1) := by
  obtain ⟨K, e⟩ := onPad_ev c h
  have hp := posN_range c h
  refine ⟨K, fun k hk => ?_⟩
  have e := e k hk
  dsimp only at e
  dsimp only
  unfold impl_presses.f
  rw [e]
  simp only [bsome]
  rw [wr (by omega) (by omega)]
end Go.Proofs.YtehoilmedejjlaaDoor.Pu

namespace Go.Proofs.YtehoilmedejjlaaDoor.Pu
open Go.RowKit Go.Proofs.YtehoilmedejjlaaDoor.P Go.Proofs.YtehoilmedejjlaaDoorW.PrintWords Go.Proofs.YtehoilmedejjlaaDoorW.PrintLast Go.Proofs.YtehoilmedejjlaaDoorW.PrintMore

/-- The presses of letters behind a last key. -/
def textN : List Int → Int → List Int
  | [], _ => []
  | c :: L, last => (if keyN c = last then [32] else []) ++ List.replicate (posN c + 1).toNat (keyN c) ++ textN L (keyN c)
theorem textN_range : ∀ (L : List Int) (last : Int), ∀ x ∈ textN L last, 0 ≤ x ∧ x ≤ 255
  | [], _, x, h => by simp [textN] at h
  | c :: L, last, x, h => by
    rw [textN, List.append_assoc, List.mem_append, List.mem_append] at h
    have hk := keyN_range c
    rcases h with h | h | h
    · split at h
      · rw [List.mem_singleton] at h; omega
      · cases h
    · have := List.eq_of_mem_replicate h; omega
    · exact textN_range L (keyN c) x h
theorem textN_length : ∀ (L : List Int) (last : Int), (∀ c ∈ L, 97 ≤ c ∧ c ≤ 122) → (textN L last).length ≤ 5 * L.length
  | [], _, _ => by simp [textN]
  | c :: L, last, h => by
    have ih := textN_length L (keyN c) (fun x hx => h x (List.mem_cons_of_mem _ hx))
    have hp := posN_range c (h c List.mem_cons_self)
    rw [textN, List.length_append, List.length_append, List.length_replicate, List.length_cons]
    split
    · rw [List.length_singleton]; omega
    · rw [List.length_nil]; omega
/-! ### the program's -/
theorem pressGo_ev (s : ByteArray) (hs : s.size ≤ 1000) (hl : ∀ c ∈ bytesOf s, 97 ≤ c ∧ c ≤ 122) : ∀ (d i : Nat) (A : List Int) (last : Int), i + d = s.size → (∀ x ∈ A, 0 ≤ x ∧ x ≤ 255) → A.length ≤ 5 * i →
    Ev (fun k => impl_pressText.go k s d i (A.map fun x => x.toNat.toUInt8) last) ((A ++ textN ((bytesOf s).drop i) last).map fun x => x.toNat.toUInt8)
  | 0, i, A, last, h, _, _ => by
    obtain rfl : i = s.size := by omega
    rw [drop_end]
    refine ⟨0, fun k _ => ?_⟩
    simp [impl_pressText.go, textN]
  | d + 1, i, A, last, h, hA, hAl => by
    have hc := hl _ (bt_mem s i (by omega))
    obtain ⟨K1, e1⟩ := keyOf_ev (bt s i) hc
    obtain ⟨K2, e2⟩ := presses_ev (bt s i) hc
    have hk := keyN_range (bt s i)
    have hp := posN_range (bt s i) hc
    obtain ⟨K3, e3⟩ := pressGo_ev s hs hl d (i + 1) ((if keyN (bt s i) = last then A ++ [32] else A) ++ List.replicate (posN (bt s i) + 1).toNat (keyN (bt s i))) (keyN (bt s i)) (by omega)
      (by
        intro x hx
        rw [List.mem_append] at hx
        rcases hx with hx | hx
        · split at hx
          · rw [List.mem_append, List.mem_singleton] at hx
            rcases hx with hx | hx
            · exact hA x hx
            · omega
          · exact hA x hx
        · have := List.eq_of_mem_replicate hx; omega)
      (by
        rw [List.length_append, List.length_replicate]
        split
        · rw [List.length_append, List.length_singleton]; omega
        · omega)
    rw [drop_bytes s i (by omega)]
    refine ⟨K1 + K2 + K3, fun k hk' => ?_⟩
    have e1 := e1 k (by omega)
    have e2 := e2 k (by omega)
    have e3 := e3 k (by omega)
    dsimp only at e1 e2 e3 ⊢
    rw [impl_pressText.go, e1, bsome, e2, bsome, if_pos (by omega), if_pos (by omega), if_pos (by rw [List.length_map]; omega)]
    rw [textN]
    by_cases hkl : keyN (bt s i) = last
    · rw [if_pos hkl] at e3 ⊢
      rw [if_pos hkl]
      simp only [List.map_append, List.map_replicate, List.map_cons, List.map_nil, List.append_assoc] at e3 ⊢
      exact e3
    · rw [if_neg hkl] at e3 ⊢
      rw [if_neg hkl]
      simp only [List.map_append, List.map_replicate, List.append_assoc, List.nil_append] at e3 ⊢
      exact e3
def pressS (s : ByteArray) : ByteArray := strOfNums (textN (bytesOf s) 0)
theorem pressText_ev (s : ByteArray) (hs : s.size ≤ 1000) (hl : ∀ c ∈ bytesOf s, 97 ≤ c ∧ c ≤ 122) : Ev (fun k => impl_pressText.f k s) (pressS s) := by
  obtain ⟨K, e⟩ := pressGo_ev s hs hl s.size 0 [] 0 (by omega) (by simp) (by simp)
  refine ⟨K, fun k hk => ?_⟩
  have e := e k hk
  dsimp only at e ⊢
  rw [List.map_nil, List.nil_append, List.drop_zero] at e
  unfold impl_pressText.f
  rw [if_pos (by omega), e, bsome]
  rfl
/-! ### the reference's -/
end Go.Proofs.YtehoilmedejjlaaDoor.Pu

namespace Go.Proofs.YtehoilmedejjlaaDoor.Pu
open Go.RowKit Go.Proofs.YtehoilmedejjlaaDoor.P Go.Proofs.YtehoilmedejjlaaDoorW.PrintWords Go.Proofs.YtehoilmedejjlaaDoorW.PrintLast Go.Proofs.YtehoilmedejjlaaDoorW.PrintMore

/-! ### letters by presses -/
def letN (c n : Int) : Int := 97 + 3 * (c - 50) + (if 56 ≤ c then 1 else 0) + (n - 1)
def capN (c : Int) : Int := if c = 55 ∨ c = 57 then 4 else 3
theorem let_key {c n : Int} (hc : 50 ≤ c ∧ c ≤ 57) (hn : 1 ≤ n ∧ n ≤ capN c) : keyN (letN c n) = c ∧ posN (letN c n) = n - 1 ∧ 97 ≤ letN c n ∧ letN c n ≤ 122 := by
  have key : ∀ (i : Fin 8) (j : Fin 4), (j.val : Int) + 1 ≤ capN (50 + (i.val : Int)) → keyN (letN (50 + (i.val : Int)) ((j.val : Int) + 1)) = 50 + (i.val : Int) ∧ posN (letN (50 + (i.val : Int)) ((j.val : Int) + 1)) = (j.val : Int) + 1 - 1 ∧ 97 ≤ letN (50 + (i.val : Int)) ((j.val : Int) + 1) ∧ letN (50 + (i.val : Int)) ((j.val : Int) + 1) ≤ 122 := by decide +kernel
  have h4 : capN c ≤ 4 := by unfold capN; split <;> omega
  have := key ⟨(c - 50).toNat, by omega⟩ ⟨(n - 1).toNat, by omega⟩
  rw [show (50 : Int) + (((c - 50).toNat : Nat) : Int) = c by omega, show (((n - 1).toNat : Nat) : Int) + 1 = n by omega] at this
  exact this hn.2
theorem key_let {x : Int} (hx : 97 ≤ x ∧ x ≤ 122) : letN (keyN x) (posN x + 1) = x ∧ posN x + 1 ≤ capN (keyN x) := by
  have key : ∀ i : Fin 26, letN (keyN (97 + (i.val : Int))) (posN (97 + (i.val : Int)) + 1) = 97 + (i.val : Int) ∧ posN (97 + (i.val : Int)) + 1 ≤ capN (keyN (97 + (i.val : Int))) := by decide +kernel
  have := key ⟨(x - 97).toNat, by omega⟩
  rwa [show (97 : Int) + (((x - 97).toNat : Nat) : Int) = x by omega] at this
/-! ### runs -/
def runL (c : Int) (l : List Int) : Nat := (l.takeWhile (· == c)).length
theorem run_rep (c : Int) (t : List Int) (ht : t.head? ≠ some c) : ∀ m, runL c (List.replicate m c ++ t) = m
  | 0 => by
    cases t with
    | nil => rfl
    | cons x t =>
      have hx : (x == c) = false := beq_eq_false_iff_ne.2 (fun e => ht (by rw [e]; rfl))
      simp [runL, hx]
  | m + 1 => by
    have ih := run_rep c t ht m
    unfold runL at ih ⊢
    rw [List.replicate_succ, List.cons_append, List.takeWhile_cons, beq_self_eq_true, if_pos rfl, List.length_cons, ih]
theorem run_split (c : Int) : ∀ l : List Int, l = List.replicate (runL c l) c ++ l.drop (runL c l) ∧ (l.drop (runL c l)).head? ≠ some c
  | [] => by simp [runL]
  | x :: l => by
    by_cases h : x = c
    · subst h
      have ih := run_split x l
      have e : runL x (x :: l) = runL x l + 1 := by unfold runL; rw [List.takeWhile_cons, beq_self_eq_true, if_pos rfl, List.length_cons]
      rw [e, List.replicate_succ, List.cons_append, List.drop_succ_cons]
      exact ⟨congrArg (x :: ·) ih.1, ih.2⟩
    · have hb : (x == c) = false := beq_eq_false_iff_ne.2 h
      have e : runL c (x :: l) = 0 := by unfold runL; rw [List.takeWhile_cons, hb]; rfl
      rw [e]
      exact ⟨rfl, by simpa using h⟩
/-! ### words of presses -/
def decS : Nat → List Int → Option (List Int)
  | _, [] => some []
  | 0, _ :: _ => none
  | d + 1, c :: l => if (50 ≤ c ∧ c ≤ 57) ∧ (runL c l : Int) + 1 ≤ capN c then
      (match l.drop (runL c l) with
      | [] => some [letN c (runL c l + 1)]
      | x :: r => if x = 32 then (match r with
          | [] => none
          | y :: r' => if y = c then (decS d (y :: r')).map (letN c (runL c l + 1) :: ·) else none)
        else (decS d (x :: r)).map (letN c (runL c l + 1) :: ·)) else none
def decI : Nat → List Int → Option (List Int)
  | _, [] => some []
  | 0, _ :: _ => none
  | d + 1, c :: l => if c = 32 then decI d l else (if (50 ≤ c ∧ c ≤ 57) ∧ (runL c l : Int) + 1 ≤ capN c then (decI d (l.drop (runL c l))).map (letN c (runL c l + 1) :: ·) else none)
theorem textN_cons (x : Int) (W : List Int) (last : Int) (hx : 97 ≤ x ∧ x ≤ 122) : textN (x :: W) last = (if keyN x = last then [32] else []) ++ keyN x :: (List.replicate (posN x).toNat (keyN x) ++ textN W (keyN x)) := by
  have hp := posN_range x hx
  rw [textN, show (posN x + 1).toNat = (posN x).toNat + 1 by omega, List.replicate_succ, List.append_assoc]
  rfl
theorem textN_head (W : List Int) (c : Int) (hW : ∀ x ∈ W, 97 ≤ x ∧ x ≤ 122) (hc : c ≠ 32) : (textN W c).head? ≠ some c := by
  cases W with
  | nil => simp [textN]
  | cons x W =>
    rw [textN_cons x W c (hW x List.mem_cons_self)]
    by_cases h : keyN x = c
    · rw [if_pos h]
      simp only [List.cons_append, List.head?_cons, ne_eq, Option.some.injEq]
      omega
    · rw [if_neg h]
      simpa using h
theorem textN_zero (x : Int) (W : List Int) (hx : 97 ≤ x ∧ x ≤ 122) : textN (x :: W) 0 = keyN x :: (List.replicate (posN x).toNat (keyN x) ++ textN W (keyN x)) := by
  have hk := keyN_range x
  rw [textN_cons x W 0 hx, if_neg (by omega)]
  rfl
theorem textN_shift (W : List Int) (c : Int) (hW : ∀ x ∈ W, 97 ≤ x ∧ x ≤ 122) : textN W c = if (textN W 0).head? = some c then 32 :: textN W 0 else textN W 0 := by
  cases W with
  | nil => simp [textN]
  | cons x W =>
    have hx := hW x List.mem_cons_self
    rw [textN_zero x W hx, textN_cons x W c hx]
    by_cases h : keyN x = c
    · rw [if_pos h, List.head?_cons, if_pos (by rw [h])]
      rfl
    · rw [if_neg h, List.head?_cons, if_neg (by simpa using h)]
      rfl
theorem decS_sound : ∀ (d : Nat) (l W : List Int), decS d l = some W → l = textN W 0 ∧ ∀ x ∈ W, 97 ≤ x ∧ x ≤ 122
  | d, [], W, h => by
    have : W = [] := by cases d <;> exact (Option.some.inj h).symm
    subst this
    simp [textN]
  | 0, c :: l, W, h => by cases h
  | d + 1, c :: l, W, h => by
    rw [decS] at h
    obtain ⟨hs1, hs2⟩ := run_split c l
    split at h
    · rename_i hc
      obtain ⟨hk, hp, hl1, hl2⟩ := let_key (n := (runL c l : Int) + 1) hc.1 ⟨by omega, hc.2⟩
      have hpn : (posN (letN c (runL c l + 1))).toNat = runL c l := by omega
      -- what stands behind the run
      have step : ∀ W' : List Int, W = letN c (runL c l + 1) :: W' → (∀ x ∈ W', 97 ≤ x ∧ x ≤ 122) → l.drop (runL c l) = textN W' c → c :: l = textN W 0 ∧ ∀ x ∈ W, 97 ≤ x ∧ x ≤ 122 := by
        intro W' hW' hall hd
        subst hW'
        refine ⟨?_, fun x hx => ?_⟩
        · rw [textN_zero _ _ ⟨hl1, hl2⟩, hk, hpn, ← hd, ← hs1]
        · rcases List.mem_cons.1 hx with rfl | hx
          · exact ⟨hl1, hl2⟩
          · exact hall x hx
      split at h
      · rename_i hnil
        exact step [] (Option.some.inj h).symm (by simp) (by rw [hnil]; rfl)
      · rename_i x r hcons
        split at h
        · rename_i hx
          split at h
          · cases h
          · rename_i y r'
            split at h
            · rename_i hy
              obtain ⟨W', hW', e⟩ := Option.map_eq_some_iff.1 h
              obtain ⟨h1, h2⟩ := decS_sound d _ W' hW'
              refine step W' e.symm h2 ?_
              rw [hcons, textN_shift W' c h2, ← h1, List.head?_cons, if_pos (by rw [hy]), hx]
            · cases h
        · rename_i hx
          obtain ⟨W', hW', e⟩ := Option.map_eq_some_iff.1 h
          obtain ⟨h1, h2⟩ := decS_sound d _ W' hW'
          refine step W' e.symm h2 ?_
          rw [hcons] at hs2
          rw [hcons, textN_shift W' c h2, ← h1, if_neg hs2]
    · cases h
theorem decS_complete : ∀ (W : List Int) (d : Nat), (∀ x ∈ W, 97 ≤ x ∧ x ≤ 122) → (textN W 0).length ≤ d → decS d (textN W 0) = some W
  | [], d, _, _ => by cases d <;> rfl
  | x :: W, d, hW, hd => by
    have hx := hW x List.mem_cons_self
    have hW' : ∀ y ∈ W, 97 ≤ y ∧ y ≤ 122 := fun y hy => hW y (List.mem_cons_of_mem x hy)
    have hk := keyN_range x
    have hp := posN_range x hx
    obtain ⟨kl1, kl2⟩ := key_let hx
    rw [textN_zero x W hx] at hd ⊢
    rw [List.length_cons, List.length_append] at hd
    obtain ⟨d, rfl⟩ : ∃ e, d = e + 1 := ⟨d - 1, by omega⟩
    have hr := run_rep (keyN x) (textN W (keyN x)) (textN_head W (keyN x) hW' (by omega)) (posN x).toNat
    rw [decS, hr, show (((posN x).toNat : Nat) : Int) = posN x by omega, if_pos ⟨hk, kl2⟩, List.drop_left' (by rw [List.length_replicate]), kl1]
    rw [textN_shift W (keyN x) hW'] at hd ⊢
    cases W with
    | nil => simp [textN]
    | cons y W =>
      have hy := hW' y List.mem_cons_self
      have ih := decS_complete (y :: W) d hW'
      rw [textN_zero y W hy] at ih hd ⊢
      rw [List.head?_cons] at hd ⊢
      by_cases hyk : keyN y = keyN x
      · rw [if_pos (by rw [hyk])] at hd ⊢
        rw [List.length_cons] at hd
        dsimp only
        rw [if_pos rfl, if_pos hyk, ih (by omega)]
        rfl
      · rw [if_neg (by simpa using hyk)] at hd ⊢
        have hk2 := keyN_range y
        dsimp only
        rw [if_neg (by omega), ih (by omega)]
        rfl
theorem decI_complete : ∀ (W : List Int) (last : Int) (d : Nat), (∀ x ∈ W, 97 ≤ x ∧ x ≤ 122) → (textN W last).length ≤ d → decI d (textN W last) = some W
  | [], _, d, _, _ => by cases d <;> rfl
  | x :: W, last, d, hW, hd => by
    have hx := hW x List.mem_cons_self
    have hW' : ∀ y ∈ W, 97 ≤ y ∧ y ≤ 122 := fun y hy => hW y (List.mem_cons_of_mem x hy)
    have hk := keyN_range x
    have hp := posN_range x hx
    obtain ⟨kl1, kl2⟩ := key_let hx
    have hr := run_rep (keyN x) (textN W (keyN x)) (textN_head W (keyN x) hW' (by omega)) (posN x).toNat
    have core : ∀ e, (textN W (keyN x)).length ≤ e → decI (e + 1) (keyN x :: (List.replicate (posN x).toNat (keyN x) ++ textN W (keyN x))) = some (x :: W) := by
      intro e he
      rw [decI, if_neg (by omega), hr, show (((posN x).toNat : Nat) : Int) = posN x by omega, if_pos ⟨hk, kl2⟩, List.drop_left' (by rw [List.length_replicate]), kl1, decI_complete W (keyN x) e hW' he]
      rfl
    rw [textN_cons x W last hx] at hd ⊢
    rw [List.length_append, List.length_cons, List.length_append] at hd
    by_cases h : keyN x = last
    · rw [if_pos h] at hd ⊢
      rw [List.length_singleton] at hd
      obtain ⟨d, rfl⟩ : ∃ e, d = e + 2 := ⟨d - 2, by omega⟩
      rw [List.cons_append, List.nil_append, decI, if_pos rfl]
      exact core d (by omega)
    · rw [if_neg h] at hd ⊢
      rw [List.length_nil] at hd
      obtain ⟨d, rfl⟩ : ∃ e, d = e + 1 := ⟨d - 1, by omega⟩
      rw [List.nil_append]
      exact core d (by omega)
theorem decI_letters : ∀ (d : Nat) (l W : List Int), decI d l = some W → ∀ x ∈ W, 97 ≤ x ∧ x ≤ 122
  | d, [], W, h => by
    have : W = [] := by cases d <;> exact (Option.some.inj h).symm
    subst this
    simp
  | 0, c :: l, W, h => by cases h
  | d + 1, c :: l, W, h => by
    rw [decI] at h
    split at h
    · exact decI_letters d l W h
    · split at h
      · rename_i hc
        obtain ⟨W', hW', e⟩ := Option.map_eq_some_iff.1 h
        subst e
        intro x hx
        rcases List.mem_cons.1 hx with rfl | hx
        · exact (let_key (n := (runL c l : Int) + 1) hc.1 ⟨by omega, hc.2⟩).2.2
        · exact decI_letters d _ W' hW' x hx
      · cases h
theorem textN_signs : ∀ (W : List Int) (last : Int), (∀ x ∈ W, 97 ≤ x ∧ x ≤ 122) → ∀ c ∈ textN W last, c = 32 ∨ (50 ≤ c ∧ c ≤ 57)
  | [], _, _, c, h => by simp [textN] at h
  | x :: W, last, hW, c, h => by
    have hk := keyN_range x
    rw [textN, List.append_assoc, List.mem_append, List.mem_append] at h
    rcases h with h | h | h
    · split at h
      · rw [List.mem_singleton] at h; exact .inl h
      · cases h
    · have := List.eq_of_mem_replicate h; omega
    · exact textN_signs W (keyN x) (fun y hy => hW y (List.mem_cons_of_mem x hy)) c h

/-! ### texts of letters -/
theorem run_at (s : ByteArray) (i : Nat) (hi : i < s.size) : (bytesOf s).drop i = bt s i :: (bytesOf s).drop (i + 1) := drop_bytes s i hi
theorem run_le (c : Int) (l : List Int) : runL c l ≤ l.length := by
  unfold runL
  exact List.IsPrefix.length_le (List.takeWhile_prefix _)
theorem runs_in (s : ByteArray) (i : Nat) (hi : i < s.size) : i + 1 + runL (bt s i) ((bytesOf s).drop (i + 1)) ≤ s.size := by
  have h := run_le (bt s i) ((bytesOf s).drop (i + 1))
  rw [List.length_drop, bytesOf_length] at h
  omega
theorem run_last (s : ByteArray) (i : Nat) (hi : i < s.size) : bt s ((i + runL (bt s i) ((bytesOf s).drop (i + 1)) : Nat) : Int) = bt s i := by
  have hin := runs_in s i hi
  obtain ⟨h1, _⟩ := run_split (bt s i) ((bytesOf s).drop (i + 1))
  generalize runL (bt s i) ((bytesOf s).drop (i + 1)) = n at *
  have h2 : (bytesOf s).drop i = List.replicate (n + 1) (bt s i) ++ ((bytesOf s).drop (i + 1)).drop n := by
    rw [run_at s i hi, List.replicate_succ, List.cons_append, ← h1]
  have h3 := congrArg (fun l => l[n]?) h2
  simp only [List.getElem?_drop] at h3
  rw [List.getElem?_append_left (by rw [List.length_replicate]; omega), List.getElem?_replicate, if_pos (by omega)] at h3
  rw [bt_bytes, Int.toNat_natCast, List.getD_eq_getElem?_getD, h3]
  rfl
theorem letters_is {c : Int} (hc : 50 ≤ c ∧ c ≤ 57) : ∃ L, spec_prLetters.f c = some L ∧ (L.size : Int) = capN c ∧ ∀ n : Nat, (n : Int) + 1 ≤ capN c → L.extract n (n + 1) = strOfNums [letN c (n + 1)] := by
  have key : ∀ i : Fin 8, (spec_prLetters.f (50 + (i.val : Int))).map (fun L => (L.size : Int)) = some (capN (50 + (i.val : Int))) ∧ ∀ j : Fin 4, (j.val : Int) + 1 ≤ capN (50 + (i.val : Int)) → (spec_prLetters.f (50 + (i.val : Int))).map (fun L => (L.extract j.val (j.val + 1)).data.toList) = some ((strOfNums [letN (50 + (i.val : Int)) ((j.val : Int) + 1)]).data.toList) := by decide +kernel
  have h := key ⟨(c - 50).toNat, by omega⟩
  rw [show (50 : Int) + (((c - 50).toNat : Nat) : Int) = c by omega] at h
  obtain ⟨h1, h2⟩ := h
  obtain ⟨L, hL, hs⟩ := Option.map_eq_some_iff.1 h1
  refine ⟨L, hL, hs, fun n hn => ?_⟩
  have h4 : capN c ≤ 4 := by unfold capN; split <;> omega
  have h3 := h2 ⟨n, by omega⟩ hn
  rw [hL] at h3
  have h5 := Option.some.inj h3
  exact bytes_ext (by unfold bytesOf; rw [show (L.extract n (n + 1)).data.toList = _ from h5])
theorem letters_not {c : Int} (hc : ¬ (50 ≤ c ∧ c ≤ 57)) : spec_prLetters.f c = some (⟨#[]⟩ : ByteArray) := by
  unfold spec_prLetters.f
  rw [if_neg (by omega), if_neg (by omega), if_neg (by omega), if_neg (by omega), if_neg (by omega), if_neg (by omega), if_neg (by omega), if_neg (by omega)]
theorem group_is {c : Int} (hc : 50 ≤ c ∧ c ≤ 57) : ∃ L, impl_group.f c = some L ∧ (L.size : Int) = capN c ∧ ∀ n : Nat, (n : Int) + 1 ≤ capN c → bt L n = letN c (n + 1) := by
  have key : ∀ i : Fin 8, (impl_group.f (50 + (i.val : Int))).map (fun L => (L.size : Int)) = some (capN (50 + (i.val : Int))) ∧ ∀ j : Fin 4, (j.val : Int) + 1 ≤ capN (50 + (i.val : Int)) → (impl_group.f (50 + (i.val : Int))).map (fun L => bt L (j.val : Int)) = some (letN (50 + (i.val : Int)) ((j.val : Int) + 1)) := by decide +kernel
  have h := key ⟨(c - 50).toNat, by omega⟩
  rw [show (50 : Int) + (((c - 50).toNat : Nat) : Int) = c by omega] at h
  obtain ⟨h1, h2⟩ := h
  obtain ⟨L, hL, hs⟩ := Option.map_eq_some_iff.1 h1
  refine ⟨L, hL, hs, fun n hn => ?_⟩
  have h4 : capN c ≤ 4 := by unfold capN; split <;> omega
  have h3 := h2 ⟨n, by omega⟩ hn
  rw [hL] at h3
  exact Option.some.inj h3
/-! ### the reference's scan -/
theorem prRead_l1 (s x : ByteArray) (hs : s.size ≤ 1000) (i : Nat) (hi : i < s.size) (r : ByteArray × Bool) : ∀ (d j : Nat), j + d = s.size → i ≤ j →
    Ev (fun k => spec_prRead.j2 k s x i ((j + runL (bt s i) ((bytesOf s).drop j) : Nat) : Int)) r → Ev (fun k => spec_prRead.l1 k s x i j) r
  | 0, j, hj, hij, h => by
    obtain rfl : j = s.size := by omega
    rw [drop_end] at h
    obtain ⟨K, e⟩ := h
    refine ev_from K fun k hk => ?_
    have e := e k hk
    dsimp only [runL, List.takeWhile_nil, List.length_nil, Nat.add_zero] at e
    simp only [spec_prRead.l1]
    rw [if_neg (by omega), e]
  | d + 1, j, hj, hij, h => by
    rw [drop_bytes s j (by omega)] at h
    by_cases hc : bt s j = bt s i
    · have er : runL (bt s i) (bt s j :: (bytesOf s).drop (j + 1)) = runL (bt s i) ((bytesOf s).drop (j + 1)) + 1 := by
        unfold runL
        rw [List.takeWhile_cons, hc, beq_self_eq_true, if_pos rfl, List.length_cons]
      rw [er, show j + (runL (bt s i) ((bytesOf s).drop (j + 1)) + 1) = j + 1 + runL (bt s i) ((bytesOf s).drop (j + 1)) by omega] at h
      obtain ⟨K, e⟩ := prRead_l1 s x hs i hi r d (j + 1) (by omega) (by omega) h
      refine ev_from K fun k hk => ?_
      have e := e k hk
      rw [show ((j + 1 : Nat) : Int) = (j : Int) + 1 from rfl] at e
      dsimp only at e
      simp only [spec_prRead.l1]
      rw [if_pos (by omega), if_pos (by omega), if_pos (by omega), if_pos (by omega), if_pos hc, wr (by omega) (by omega), e]
    · have hb : (bt s j == bt s i) = false := beq_eq_false_iff_ne.2 hc
      have er : runL (bt s i) (bt s j :: (bytesOf s).drop (j + 1)) = 0 := by
        unfold runL
        rw [List.takeWhile_cons, hb]
        rfl
      rw [er, Nat.add_zero] at h
      obtain ⟨K, e⟩ := h
      refine ev_from K fun k hk => ?_
      have e := e k hk
      dsimp only at e
      simp only [spec_prRead.l1]
      rw [if_pos (by omega), if_pos (by omega), if_pos (by omega), if_pos (by omega), if_neg hc, e]
def finS (A : List Int) : Option (List Int) → ByteArray × Bool
  | some W => (strOfNums (A ++ W), wordB (strOfNums (A ++ W)))
  | none => ((⟨#[]⟩ : ByteArray), false)
theorem finS_map (A : List Int) (x : Int) (o : Option (List Int)) : finS A (o.map (x :: ·)) = finS (A ++ [x]) o := by
  cases o with
  | none => rfl
  | some W => simp [finS]
theorem prRead_l0 (s : ByteArray) (hs : s.size ≤ 1000) : ∀ (d i : Nat) (A : List Int), i ≤ s.size → s.size ≤ i + d → A.length ≤ i → Ev (fun k => spec_prRead.l0 k s (strOfNums A) i) (finS A (decS d ((bytesOf s).drop i)))
  | d, i, A, hi, hd, hA => by
    by_cases hlt : i < s.size
    · obtain ⟨d, rfl⟩ : ∃ e, d = e + 1 := ⟨d - 1, by omega⟩
      have hin := runs_in s i hlt
      have hlast := run_last s i hlt
      have hl1 := prRead_l1 s (strOfNums A) hs i hlt (finS A (decS (d + 1) ((bytesOf s).drop i))) (s.size - i) i (by omega) (Nat.le_refl _)
      rw [drop_bytes s i hlt] at hl1 ⊢
      have er : runL (bt s i) (bt s i :: (bytesOf s).drop (i + 1)) = runL (bt s i) ((bytesOf s).drop (i + 1)) + 1 := by
        unfold runL
        rw [List.takeWhile_cons, beq_self_eq_true, if_pos rfl, List.length_cons]
      rw [er] at hl1
      rw [decS] at hl1 ⊢
      rw [List.drop_drop] at hl1 ⊢
      generalize runL (bt s i) ((bytesOf s).drop (i + 1)) = n at *
      suffices hj2 : Ev (fun k => spec_prRead.j2 k s (strOfNums A) i ((i + (n + 1) : Nat) : Int)) _ by
        obtain ⟨K, e⟩ := hl1 hj2
        refine ev_from K fun k hk => ?_
        have e := e k hk
        dsimp only at e
        simp only [spec_prRead.l0]
        rw [if_pos (by omega), e]
      clear hl1
      have hw1 : wrap64 (((i + (n + 1) : Nat) : Int) - (i : Int)) = (n : Int) + 1 := by rw [wr (by omega) (by omega)]; omega
      have hw2 : wrap64 ((n : Int) + 1 - 1) = (n : Int) := by rw [wr (by omega) (by omega)]; omega
      by_cases hc : 50 ≤ bt s i ∧ bt s i ≤ 57
      · obtain ⟨L, hL, hLs, hLe⟩ := letters_is hc
        by_cases hn : (n : Int) + 1 ≤ capN (bt s i)
        · rw [if_pos ⟨hc, hn⟩]
          have hex := hLe n hn
          have hsz : (strOfNums A).size + (strOfNums [letN (bt s i) ((n : Int) + 1)]).size ≤ 9223372036854775807 := by rw [size_nums, size_nums, List.length_singleton]; omega
          by_cases hend : i + (n + 1) < s.size
          · rw [show i + 1 + n = i + (n + 1) by omega, drop_bytes s (i + (n + 1)) hend]
            dsimp only
            by_cases h32 : bt s (i + (n + 1) : Nat) = 32
            · rw [if_pos h32]
              by_cases hl : i + (n + 1) + 1 = s.size
              · rw [show (bytesOf s).drop (i + (n + 1) + 1) = [] by rw [hl, drop_end]]
                refine ev_from 1 fun k hk => ?_
                obtain ⟨k, rfl⟩ : ∃ m, k = m + 1 := ⟨k - 1, by omega⟩
                simp only [spec_prRead.j2]
                rw [if_pos (by omega), if_pos (by omega), hL, bsome, hw1, if_neg (by omega), hw2, if_pos (by omega), if_pos (by omega), if_pos (by omega), Int.toNat_natCast, show ((n : Int) + 1).toNat = n + 1 by omega, hex, if_pos hsz, if_pos (by omega), if_pos (by omega), h32]
                simp only [spec_prRead.j3]
                rw [if_pos (by rfl), wr (by omega) (by omega), if_pos (by omega)]
                rfl
              · rw [drop_bytes s (i + (n + 1) + 1) (by omega)]
                dsimp only
                by_cases hy : bt s (i + (n + 1) + 1 : Nat) = bt s i
                · rw [if_pos hy, finS_map]
                  obtain ⟨K, ih⟩ := prRead_l0 s hs d (i + (n + 1) + 1) (A ++ [letN (bt s i) ((n : Int) + 1)]) (by omega) (by omega) (by rw [List.length_append, List.length_singleton]; omega)
                  rw [drop_bytes s (i + (n + 1) + 1) (by omega)] at ih
                  refine ev_from (K + 1) fun k hk => ?_
                  obtain ⟨k, rfl⟩ : ∃ m, k = m + 1 := ⟨k - 1, by omega⟩
                  have e := ih k (by omega)
                  dsimp only at e
                  simp only [spec_prRead.j2]
                  rw [if_pos (by omega), if_pos (by omega), hL, bsome, hw1, if_neg (by omega), hw2, if_pos (by omega), if_pos (by omega), if_pos (by omega), Int.toNat_natCast, show ((n : Int) + 1).toNat = n + 1 by omega, hex, if_pos hsz, if_pos (by omega), if_pos (by omega), h32]
                  simp only [spec_prRead.j3]
                  rw [if_pos (by rfl), wr (x := ((i + (n + 1) : Nat) : Int) + 1) (by omega) (by omega), if_neg (by omega), if_pos (by omega), if_pos (by omega), wr (x := ((i + (n + 1) : Nat) : Int) + 1 - 2) (by omega) (by omega), if_pos (by omega), if_pos (by omega),
                    show ((i + (n + 1) : Nat) : Int) + 1 - 2 = ((i + n : Nat) : Int) by omega, hlast, show ((i + (n + 1) : Nat) : Int) + 1 = ((i + (n + 1) + 1 : Nat) : Int) by omega, if_pos hy, ← numsApp, e]
                · rw [if_neg hy]
                  refine ev_from 1 fun k hk => ?_
                  obtain ⟨k, rfl⟩ : ∃ m, k = m + 1 := ⟨k - 1, by omega⟩
                  simp only [spec_prRead.j2]
                  rw [if_pos (by omega), if_pos (by omega), hL, bsome, hw1, if_neg (by omega), hw2, if_pos (by omega), if_pos (by omega), if_pos (by omega), Int.toNat_natCast, show ((n : Int) + 1).toNat = n + 1 by omega, hex, if_pos hsz, if_pos (by omega), if_pos (by omega), h32]
                  simp only [spec_prRead.j3]
                  rw [if_pos (by rfl), wr (x := ((i + (n + 1) : Nat) : Int) + 1) (by omega) (by omega), if_neg (by omega), if_pos (by omega), if_pos (by omega), wr (x := ((i + (n + 1) : Nat) : Int) + 1 - 2) (by omega) (by omega), if_pos (by omega), if_pos (by omega),
                    show ((i + (n + 1) : Nat) : Int) + 1 - 2 = ((i + n : Nat) : Int) by omega, hlast, show ((i + (n + 1) : Nat) : Int) + 1 = ((i + (n + 1) + 1 : Nat) : Int) by omega, if_neg hy]
                  rfl
            · rw [if_neg h32, finS_map]
              obtain ⟨K, ih⟩ := prRead_l0 s hs d (i + (n + 1)) (A ++ [letN (bt s i) ((n : Int) + 1)]) (by omega) (by omega) (by rw [List.length_append, List.length_singleton]; omega)
              rw [drop_bytes s (i + (n + 1)) (by omega)] at ih
              have hb : (bt s (i + (n + 1) : Nat) == 32) = false := beq_eq_false_iff_ne.2 h32
              refine ev_from (K + 1) fun k hk => ?_
              obtain ⟨k, rfl⟩ : ∃ m, k = m + 1 := ⟨k - 1, by omega⟩
              have e := ih k (by omega)
              dsimp only at e
              simp only [spec_prRead.j2]
              rw [if_pos (by omega), if_pos (by omega), hL, bsome, hw1, if_neg (by omega), hw2, if_pos (by omega), if_pos (by omega), if_pos (by omega), Int.toNat_natCast, show ((n : Int) + 1).toNat = n + 1 by omega, hex, if_pos hsz, if_pos (by omega), if_pos (by omega), hb]
              simp only [spec_prRead.j3]
              rw [if_neg (by simp), ← numsApp, e]
          · have hnil : (bytesOf s).drop (i + 1 + n) = [] := by rw [show i + 1 + n = s.size by omega, drop_end]
            rw [hnil]
            dsimp only
            obtain ⟨K, ih⟩ := prRead_l0 s hs d (i + (n + 1)) (A ++ [letN (bt s i) ((n : Int) + 1)]) (by omega) (by omega) (by rw [List.length_append, List.length_singleton]; omega)
            rw [show (bytesOf s).drop (i + (n + 1)) = [] by rw [show i + (n + 1) = s.size by omega, drop_end]] at ih
            have hdn : decS d ([] : List Int) = some [] := by cases d <;> rfl
            rw [hdn] at ih
            refine ev_from (K + 1) fun k hk => ?_
            obtain ⟨k, rfl⟩ : ∃ m, k = m + 1 := ⟨k - 1, by omega⟩
            have e := ih k (by omega)
            dsimp only at e
            simp only [spec_prRead.j2]
            rw [if_pos (by omega), if_pos (by omega), hL, bsome, hw1, if_neg (by omega), hw2, if_pos (by omega), if_pos (by omega), if_pos (by omega), Int.toNat_natCast, show ((n : Int) + 1).toNat = n + 1 by omega, hex, if_pos hsz, if_neg (by omega)]
            simp only [spec_prRead.j3]
            rw [if_neg (by simp), ← numsApp, e]
            simp [finS]
        · rw [if_neg (fun h => hn h.2)]
          refine ev_from 0 fun k _ => ?_
          simp only [spec_prRead.j2]
          rw [if_pos (by omega), if_pos (by omega), hL, bsome, hw1, if_pos (by omega)]
          rfl
      · rw [if_neg (fun h => hc h.1)]
        refine ev_from 0 fun k _ => ?_
        simp only [spec_prRead.j2]
        rw [if_pos (by omega), if_pos (by omega), letters_not hc, bsome, hw1, if_pos (by show (n : Int) + 1 > ((0 : Nat) : Int); omega)]
        rfl
    · obtain rfl : i = s.size := by omega
      rw [drop_end]
      have hdn : decS d ([] : List Int) = some [] := by cases d <;> rfl
      rw [hdn]
      obtain ⟨K, e⟩ := prWord_ev (strOfNums A) (by rw [size_nums]; omega)
      refine ev_from K fun k hk => ?_
      have e := e k hk
      dsimp only at e
      simp only [spec_prRead.l0]
      rw [if_neg (by omega), e, bsome]
      simp [finS]
termination_by d => d
/-! ### the program's way -/
def finI (s : ByteArray) (A : List Int) : Option (List Int) → ByteArray × Bool
  | some W => if wordB (strOfNums (A ++ W)) = true ∧ textN (A ++ W) 0 = bytesOf s then (strOfNums (A ++ W), true) else ((⟨#[]⟩ : ByteArray), false)
  | none => ((⟨#[]⟩ : ByteArray), false)
theorem finI_map (s : ByteArray) (A : List Int) (x : Int) (o : Option (List Int)) : finI s A (o.map (x :: ·)) = finI s (A ++ [x]) o := by
  cases o with
  | none => rfl
  | some W => simp [finI]
def stepI (s : ByteArray) (A : List Int) (k : Nat) (i m : Int) : Option (ByteArray × Bool) :=
  (impl_group.f (bt s i)).bind fun t161 => (if m > (t161.size : Int) then (some ((⟨#[]⟩ : ByteArray), false)) else (if 0 ≤ (wrap64 (m - 1)) then (if (wrap64 (m - 1)) < (t161.size : Int) then (if A.length < 140737488355328 then (impl_ReadPresses.l0 k s (A ++ [bt t161 (wrap64 (m - 1))]) (wrap64 (i + m))) else (none)) else (none)) else (none)))
theorem readI_l1 (s : ByteArray) (A : List Int) (hs : s.size ≤ 1000) (i : Nat) (hi : i < s.size) (r : ByteArray × Bool) : ∀ (d m : Nat), i + m + d = s.size → 1 ≤ m →
    Ev (fun k => stepI s A k i ((m + runL (bt s i) ((bytesOf s).drop (i + m)) : Nat) : Int)) r → Ev (fun k => impl_ReadPresses.l1 k s A i m) r
  | 0, m, hm, h1, h => by
    rw [show i + m = s.size by omega, drop_end] at h
    obtain ⟨K, e⟩ := h
    refine ev_from K fun k hk => ?_
    have e := e k hk
    dsimp only [runL, List.takeWhile_nil, List.length_nil, Nat.add_zero, stepI] at e
    simp only [impl_ReadPresses.l1]
    rw [wr (x := (i : Int) + (m : Int)) (by omega) (by omega), if_neg (by omega), if_pos (by omega), if_pos (by omega)]
    rw [wr (x := (i : Int) + (m : Int)) (by omega) (by omega)] at e
    exact e
  | d + 1, m, hm, h1, h => by
    rw [drop_bytes s (i + m) (by omega)] at h
    by_cases hc : bt s (i + m : Nat) = bt s i
    · have er : runL (bt s i) (bt s (i + m : Nat) :: (bytesOf s).drop (i + m + 1)) = runL (bt s i) ((bytesOf s).drop (i + m + 1)) + 1 := by
        unfold runL
        rw [List.takeWhile_cons, hc, beq_self_eq_true, if_pos rfl, List.length_cons]
      rw [er, show m + (runL (bt s i) ((bytesOf s).drop (i + m + 1)) + 1) = m + 1 + runL (bt s i) ((bytesOf s).drop (i + (m + 1))) by rw [Nat.add_assoc i m 1]; omega] at h
      obtain ⟨K, e⟩ := readI_l1 s A hs i hi r d (m + 1) (by omega) (by omega) h
      refine ev_from K fun k hk => ?_
      have e := e k hk
      rw [show ((m + 1 : Nat) : Int) = (m : Int) + 1 from rfl] at e
      dsimp only at e
      simp only [impl_ReadPresses.l1]
      rw [wr (x := (i : Int) + (m : Int)) (by omega) (by omega), if_pos (by omega), if_pos (by omega), if_pos (by omega), if_pos (by omega), show (i : Int) + (m : Int) = ((i + m : Nat) : Int) by omega, if_pos hc, wr (by omega) (by omega), e]
    · have hb : (bt s (i + m : Nat) == bt s i) = false := beq_eq_false_iff_ne.2 hc
      have er : runL (bt s i) (bt s (i + m : Nat) :: (bytesOf s).drop (i + m + 1)) = 0 := by
        unfold runL
        rw [List.takeWhile_cons, hb]
        rfl
      rw [er, Nat.add_zero] at h
      obtain ⟨K, e⟩ := h
      refine ev_from K fun k hk => ?_
      have e := e k hk
      dsimp only [stepI] at e
      simp only [impl_ReadPresses.l1]
      rw [wr (x := (i : Int) + (m : Int)) (by omega) (by omega), if_pos (by omega), if_pos (by omega), if_pos (by omega), if_pos (by omega), show (i : Int) + (m : Int) = ((i + m : Nat) : Int) by omega, if_neg hc]
      rw [wr (x := (i : Int) + (m : Int)) (by omega) (by omega), show (i : Int) + (m : Int) = ((i + m : Nat) : Int) by omega] at e
      exact e
theorem readI_l0 (s : ByteArray) (hs : s.size ≤ 200) (hall : ∀ c ∈ bytesOf s, c = 32 ∨ (50 ≤ c ∧ c ≤ 57)) : ∀ (d i : Nat) (A : List Int), i ≤ s.size → s.size ≤ i + d → A.length ≤ i → (∀ x ∈ A, 97 ≤ x ∧ x ≤ 122) →
    Ev (fun k => impl_ReadPresses.l0 k s A i) (finI s A (decI d ((bytesOf s).drop i)))
  | d, i, A, hi, hd, hA, hAl => by
    by_cases hlt : i < s.size
    · obtain ⟨d, rfl⟩ : ∃ e, d = e + 1 := ⟨d - 1, by omega⟩
      have hin := runs_in s i hlt
      have hcc := hall _ (bt_mem s i hlt)
      rw [drop_bytes s i hlt, decI]
      by_cases h32 : bt s i = 32
      · rw [if_pos h32]
        obtain ⟨K, ih⟩ := readI_l0 s hs hall d (i + 1) A (by omega) (by omega) (by omega) hAl
        refine ev_from K fun k hk => ?_
        have e := ih k hk
        rw [show ((i + 1 : Nat) : Int) = (i : Int) + 1 from rfl] at e
        dsimp only at e
        simp only [impl_ReadPresses.l0]
        rw [if_pos (by omega), if_pos (by omega), if_pos h32, wr (by omega) (by omega), e]
      · rw [if_neg h32]
        have hc : 50 ≤ bt s i ∧ bt s i ≤ 57 := by omega
        obtain ⟨L, hL, hLs, hLe⟩ := group_is hc
        have hl1 := readI_l1 s A (by omega) i hlt (finI s A (if (50 ≤ bt s i ∧ bt s i ≤ 57) ∧ (runL (bt s i) ((bytesOf s).drop (i + 1)) : Int) + 1 ≤ capN (bt s i) then (decI d (((bytesOf s).drop (i + 1)).drop (runL (bt s i) ((bytesOf s).drop (i + 1))))).map (letN (bt s i) (runL (bt s i) ((bytesOf s).drop (i + 1)) + 1) :: ·) else none)) (s.size - (i + 1)) 1 (by omega) (Nat.le_refl _)
        generalize runL (bt s i) ((bytesOf s).drop (i + 1)) = n at *
        rw [List.drop_drop] at hl1 ⊢
        suffices hst : Ev (fun k => stepI s A k i ((1 + n : Nat) : Int)) _ by
          obtain ⟨K, e⟩ := hl1 hst
          refine ev_from K fun k hk => ?_
          have e := e k hk
          dsimp only at e
          simp only [impl_ReadPresses.l0]
          rw [if_pos (by omega), if_pos (by omega), if_neg h32]
          exact e
        clear hl1
        have hw1 : wrap64 (((1 + n : Nat) : Int) - 1) = (n : Int) := by rw [wr (by omega) (by omega)]; omega
        by_cases hn : (n : Int) + 1 ≤ capN (bt s i)
        · rw [if_pos ⟨hc, hn⟩, finI_map]
          have hlk := let_key hc (n := (n : Int) + 1) ⟨by omega, hn⟩
          obtain ⟨K, ih⟩ := readI_l0 s hs hall d (i + (1 + n)) (A ++ [letN (bt s i) ((n : Int) + 1)]) (by omega) (by omega) (by rw [List.length_append, List.length_singleton]; omega)
            (fun x hx => by
              rcases List.mem_append.1 hx with hx | hx
              · exact hAl x hx
              · rw [List.mem_singleton] at hx; rw [hx]; exact hlk.2.2)
          rw [show i + 1 + n = i + (1 + n) by omega]
          refine ⟨K, fun k hk => ?_⟩
          have e := ih k hk
          dsimp only [stepI] at e ⊢
          rw [hL, bsome, if_neg (by omega), hw1, if_pos (by omega), if_pos (by omega), if_pos (by omega), hLe n hn, wr (by omega) (by omega), show (i : Int) + ((1 + n : Nat) : Int) = ((i + (1 + n) : Nat) : Int) by omega, e]
        · rw [if_neg (fun h => hn h.2)]
          refine ⟨0, fun k _ => ?_⟩
          dsimp only [stepI]
          rw [hL, bsome, if_pos (by omega)]
          rfl
    · obtain rfl : i = s.size := by omega
      rw [drop_end]
      have hdn : decI d ([] : List Int) = some [] := by cases d <;> rfl
      rw [hdn]
      have hb : bytesOf (strOfNums A) = A := bytes_nums fun x hx => by have := hAl x hx; omega
      obtain ⟨K, e⟩ := pressText_ev (strOfNums A) (by rw [size_nums]; omega) (by rw [hb]; exact hAl)
      have hw := isWord_is (strOfNums A) (by rw [size_nums]; omega)
      have hp : pressS (strOfNums A) = strOfNums (textN A 0) := by unfold pressS; rw [hb]
      refine ev_from K fun k hk => ?_
      have e := e k hk
      dsimp only at e
      simp only [impl_ReadPresses.l0]
      rw [if_neg (by omega), hw, bsome]
      unfold finI
      dsimp only
      rw [List.append_nil]
      cases hwb : wordB (strOfNums A) with
      | false => rw [if_neg (by simp), if_neg (by simp)]
      | true =>
        rw [if_pos rfl, e, bsome, hp]
        by_cases ht : textN A 0 = bytesOf s
        · rw [ht, nums_bytes, if_pos rfl, if_pos ⟨rfl, rfl⟩]
        · have hno : ¬ (strOfNums (textN A 0)).toList = s.toList := fun h => ht (by
            have h2 := toList_bytes.1 h
            rw [← h2, bytes_nums (textN_range A 0)])
          have hno2 : ¬ (true = true ∧ textN A 0 = bytesOf s) := fun h => ht h.2
          rw [if_neg hno, if_neg hno2]
termination_by d => d
/-! ### one answer -/
theorem finS_ok (o : Option (List Int)) : (if (finS [] o).2 = true then (some ((finS [] o).1, true)) else (some ((⟨#[]⟩ : ByteArray), false)) : Option (ByteArray × Bool)) = some (if (finS [] o).2 = true then ((finS [] o).1, true) else ((⟨#[]⟩ : ByteArray), false)) := by split <;> rfl
def readU (s : ByteArray) : ByteArray × Bool := if s.size ≤ 200 then (if (finS [] (decS s.size (bytesOf s))).2 = true then ((finS [] (decS s.size (bytesOf s))).1, true) else ((⟨#[]⟩ : ByteArray), false)) else ((⟨#[]⟩ : ByteArray), false)
theorem readS_ev (s : ByteArray) : Ev (fun k => spec_ReadPresses.f k s) (readU s) := by
  unfold readU
  by_cases hz : s.size ≤ 200
  · obtain ⟨K, e⟩ := prRead_l0 s (by omega) s.size 0 [] (by omega) (by omega) (by simp)
    rw [if_pos hz]
    refine ⟨K, fun k hk => ?_⟩
    have e := e k hk
    rw [List.drop_zero] at e
    dsimp only at e ⊢
    unfold spec_ReadPresses.f spec_prRead.f
    rw [if_neg (by omega)]
    rw [show (⟨#[]⟩ : ByteArray) = strOfNums [] from rfl, show (0 : Int) = ((0 : Nat) : Int) from rfl, e, bsome]
    exact finS_ok _
  · rw [if_neg hz]
    refine ⟨0, fun k _ => ?_⟩
    dsimp only
    unfold spec_ReadPresses.f
    rw [if_pos (by omega)]
def isSign (c : Int) : Bool := (decide (50 ≤ c) && decide (c ≤ 57)) || c == 32
theorem isSign_iff {c : Int} : isSign c = true ↔ c = 32 ∨ (50 ≤ c ∧ c ≤ 57) := by
  unfold isSign
  simp only [Bool.or_eq_true, Bool.and_eq_true, decide_eq_true_eq, beq_iff_eq]
  omega
theorem sign_contains (b : UInt8) : (⟨#[50, 51, 52, 53, 54, 55, 56, 57, 32]⟩ : ByteArray).data.toList.contains b = isSign b.toNat := by
  have key : ∀ n : Fin 256, (⟨#[50, 51, 52, 53, 54, 55, 56, 57, 32]⟩ : ByteArray).data.toList.contains (UInt8.ofNat n.val) = isSign (UInt8.ofNat n.val).toNat := by decide +kernel
  have := key ⟨b.toNat, b.toNat_lt⟩
  simpa using this
theorem read_same (s : ByteArray) (hall : ∀ c ∈ bytesOf s, c = 32 ∨ (50 ≤ c ∧ c ≤ 57)) : finI s [] (decI s.size (bytesOf s)) = if (finS [] (decS s.size (bytesOf s))).2 = true then ((finS [] (decS s.size (bytesOf s))).1, true) else ((⟨#[]⟩ : ByteArray), false) := by
  have hlen : (bytesOf s).length ≤ s.size := by rw [bytesOf_length]; exact Nat.le_refl _
  cases hS : decS s.size (bytesOf s) with
  | none =>
    rw [show finS [] (none : Option (List Int)) = ((⟨#[]⟩ : ByteArray), false) from rfl, if_neg (by simp)]
    cases hI : decI s.size (bytesOf s) with
    | none => rfl
    | some W =>
      unfold finI
      dsimp only
      rw [List.nil_append]
      split
      · rename_i h
        exfalso
        have hW : ∀ x ∈ W, 97 ≤ x ∧ x ≤ 122 := decI_letters _ _ _ hI
        have := decS_complete W s.size hW (by rw [h.2]; exact hlen)
        rw [h.2, hS] at this
        cases this
      · rfl
  | some W =>
    obtain ⟨h1, h2⟩ := decS_sound _ _ _ hS
    have hI := decI_complete W 0 s.size h2 (by rw [← h1]; exact hlen)
    rw [← h1] at hI
    rw [hI]
    have f1 : finI s [] (some W) = if wordB (strOfNums W) = true ∧ textN W 0 = bytesOf s then (strOfNums W, true) else ((⟨#[]⟩ : ByteArray), false) := rfl
    have f2 : finS [] (some W) = (strOfNums W, wordB (strOfNums W)) := rfl
    rw [f1, f2]
    cases hw : wordB (strOfNums W) with
    | false => rw [if_neg (by simp), if_neg (by simp)]
    | true => rw [if_pos ⟨rfl, h1.symm⟩, if_pos rfl]
theorem readI_ev (s : ByteArray) (hs : s.size ≤ 140737488351232) : Ev (fun k => impl_ReadPresses.f k s) (readU s) := by
  unfold readU
  by_cases hz : s.size ≤ 200
  · rw [if_pos hz]
    have ho := over_is s (⟨#[50, 51, 52, 53, 54, 55, 56, 57, 32]⟩ : ByteArray) (by omega) (by decide) (by decide) isSign sign_contains
    cases hA : (bytesOf s).all isSign with
    | true =>
      have hall : ∀ c ∈ bytesOf s, c = 32 ∨ (50 ≤ c ∧ c ≤ 57) := fun c hc => isSign_iff.1 (List.all_eq_true.1 hA c hc)
      obtain ⟨K, e⟩ := readI_l0 s hz hall s.size 0 [] (by omega) (by omega) (by simp) (by simp)
      rw [List.drop_zero, read_same s hall] at e
      refine ⟨K + 1, fun k hk => ?_⟩
      obtain ⟨k, rfl⟩ : ∃ m, k = m + 1 := ⟨k - 1, by omega⟩
      have e := e k (by omega)
      dsimp only at e ⊢
      unfold impl_ReadPresses.f
      rw [if_neg (by omega), ho, hA, bsome]
      simp only [impl_ReadPresses.j0, Bool.not_true]
      rw [if_neg (by simp)]
      exact e
    | false =>
      have hno : (finS [] (decS s.size (bytesOf s))).2 = false := by
        cases hS : decS s.size (bytesOf s) with
        | none => rfl
        | some W =>
          obtain ⟨h1, h2⟩ := decS_sound _ _ _ hS
          exfalso
          have : (bytesOf s).all isSign = true := by
            rw [h1]
            exact List.all_eq_true.2 fun c hc => isSign_iff.2 (textN_signs W 0 h2 c hc)
          rw [hA] at this
          cases this
      refine ⟨1, fun k hk => ?_⟩
      obtain ⟨k, rfl⟩ : ∃ m, k = m + 1 := ⟨k - 1, by omega⟩
      dsimp only
      unfold impl_ReadPresses.f
      rw [if_neg (by omega), ho, hA, bsome, hno]
      simp [impl_ReadPresses.j0]
  · rw [if_neg hz]
    refine ⟨1, fun k hk => ?_⟩
    obtain ⟨k, rfl⟩ : ∃ m, k = m + 1 := ⟨k - 1, by omega⟩
    dsimp only
    unfold impl_ReadPresses.f
    rw [if_pos (by omega)]
    simp [impl_ReadPresses.j0]
end Go.Proofs.YtehoilmedejjlaaDoor.Pu

namespace Go.Proofs.YtehoilmedejjlaaDoor.Pure
open Go.RowKit Go.Proofs.YtehoilmedejjlaaDoor.P Go.Proofs.YtehoilmedejjlaaDoor.Pu Go.Proofs.YtehoilmedejjlaaDoorW.PrintWords Go.Proofs.YtehoilmedejjlaaDoorW.PrintLast

theorem FnExactReadPresses : laws_FnExactReadPresses.Pure := by
  intro s hs
  obtain ⟨K, h⟩ := ev_both (readS_ev s) (readI_ev s hs)
  obtain ⟨e1, e2⟩ := h K (Nat.le_refl _)
  refine ⟨K, ?_⟩
  unfold laws_FnExactReadPresses.f
  rw [e1, e2]
  simp
end Go.Proofs.YtehoilmedejjlaaDoor.Pure

