/- Parts of the proof (printed walks, lemmas of our own, contracts of the library laid for this program), merged into one text by wip/mclaim.py. Conditions: each theorem's own. -/
import Derived.Test.YtmbnchgfjijobaaGreatDoorM0
import Derived.Test.YtmbnchgfjijobaaGreatDoorM1
import Derived.Test.YtmbnchgfjijobaaGreatDoorM2
import Derived.Lib.SlTrimSet
import Derived.Laws.BitsLemmas
section
namespace Go.Proofs.YtmbnchgfjijobaaGreatDoor.P
open Go.RowKit Go.Proofs.YtmbnchgfjijobaaGreatDoorW.PrintWords Go.Proofs.YtmbnchgfjijobaaGreatDoorW.PrintLast Go.Proofs.YtmbnchgfjijobaaGreatDoorW.PrintMore
attribute [local go_sem] max2_int min2_int max_two min_two max_three min_three max_four min_four   -- for this text's walks alone
set_option linter.unusedVariables false
set_option linter.unusedSimpArgs false
def laws_FnPressesTold.lp (k : Nat) (wd ks : ByteArray) : Nat → Nat → Int → Int → Option (Int × Int)
  | 0, _, sum, st => some (sum, st)
  | d + 1, i, sum, st => (impl_KeyOf.f k (wd.extract i (i + 1))).bind fun x => (impl_PressesFor.f k (wd.extract i (i + 1))).bind fun y => if x = (ks.extract i (i + 1), true) ∧ y.2 = true ∧ 1 ≤ y.1 ∧ y.1 ≤ 4 then laws_FnPressesTold.lp k wd ks d (i + 1) (wrap64 (sum + y.1)) (if 0 < i ∧ bt ks ((i : Int) - 1) = bt ks (i : Int) then wrap64 (st + 1) else st) else none
def laws_FnPressesTold.asc (s : ByteArray) : Prop := ∀ (i : Nat) (hi : i < s.size), (s[i]'hi) < 128
structure laws_FnPressesTold.GB (k : Nat) (wd tx ks : ByteArray) (ct wt : Int) : Prop where
  b1 : (tx.size : Int) = wrap64 (ct + wt)
  b2 : ks.size = wd.size
  b3 : tx.size ≤ 200 → impl_ReadPresses.f k tx = some (wd, true)
  b4 : laws_FnPressesTold.asc wd
  b5 : wd.size ≤ 1000
  b6 : laws_FnPressesTold.lp k wd ks wd.size 0 0 0 = some (ct, wt)
structure laws_FnPressesTold.GA (k : Nat) (l0 : List Int) (wd tx ks : ByteArray) (ct wt : Int) (ok : Bool) : Prop where
  g1 : spec_DrawPressText.f k l0 = some wd
  g2 : impl_PressText.f k wd = some (tx, ok)
  g3 : spec_PressText.f k wd = some (tx, ok)
  g4 : impl_KeysOf.f k wd = some (ks, ok)
  g5 : spec_KeysOf.f k wd = some (ks, ok)
  g6 : impl_CountPresses.f k wd = some (ct, ok)
  g7 : spec_CountPresses.f k wd = some (ct, ok)
  g8 : impl_WaitsIn.f k wd = some (wt, ok)
  g9 : spec_WaitsIn.f k wd = some (wt, ok)
  g10 : impl_IsWord.f wd = some ok
  g11 : spec_IsWord.f k wd = some ok
  hB : ok = true → laws_FnPressesTold.GB k wd tx ks ct wt
structure laws_FnPressesTold.GG (k : Nat) (l1 : List Int) (w2 : ByteArray) (ps wa ti : Int) (seven : Bool) (lt ke : ByteArray) (pn : Int) (nine : Bool) (pr rd_ : ByteArray) (th : Bool) (mn le : Int) (lo : ByteArray) (ff : Bool) : Prop where
  h1 : spec_DrawTimeFor.f k l1 = some (w2, ps, wa)
  h2 : impl_TimeFor.f k w2 ps wa = some (ti, seven)
  h3 : spec_TimeFor.f k w2 ps wa = some (ti, seven)
  h4 : spec_DrawKeyOf.f k l1 = some lt
  h5 : impl_KeyOf.f k lt = some (ke, nine)
  h6 : spec_KeyOf.f k lt = some (ke, nine)
  h7 : impl_PressesFor.f k lt = some (pn, nine)
  h8 : spec_PressesFor.f k lt = some (pn, nine)
  h9 : spec_DrawReadPresses.f k l1 = some pr
  h10 : impl_ReadPresses.f k pr = some (rd_, th)
  h11 : spec_ReadPresses.f k pr = some (rd_, th)
  h12 : spec_DrawLongestPressed.f k l1 = some (mn, le)
  h13 : impl_LongestPressed.f k mn le = some (lo, ff)
  h14 : spec_LongestPressed.f k mn le = some (lo, ff)
  f7 : seven = true → ∃ ca cb, impl_CountPresses.f k w2 = some (ca, true) ∧ impl_WaitsIn.f k w2 = some (cb, true) ∧ ti = wrap64 (wrap64 (ca * ps) + wrap64 (cb * wa))
  f13 : th = true → impl_PressText.f k rd_ = some (pr, true)
  f15 : ff = true → impl_CountPresses.f k lo = some (mn, true) ∧ (lo.size : Int) = le
def laws_FnPressesTold.Good (k : Nat) (l0 l1 : List Int) : Prop := laws_big.f l0 l1 = some true ∨ (laws_big.f l0 l1 = some false ∧ (∃ wd tx ks ct wt ok, laws_FnPressesTold.GA k l0 wd tx ks ct wt ok) ∧ ∃ w2 ps wa ti seven lt ke pn nine pr rd_ th mn le lo ff, laws_FnPressesTold.GG k l1 w2 ps wa ti seven lt ke pn nine pr rd_ th mn le lo ff)
set_option maxHeartbeats 16000000 in
set_option maxRecDepth 100000 in
theorem laws_FnPressesTold.calls (k : Nat) (A0 : Option Addr) (c0 : Nat) (l0 : List Int) (A1 : Option Addr) (c1 : Nat) (l1 : List Int) (w : World) (hr0 : Kd.C (Kd.int .u8) w A0 l0.length l0) (hc0 : l0.length ≤ c0) (hr1 : Kd.C (Kd.int .u8) w A1 l1.length l1) (hc1 : l1.length ≤ c1) (h : laws_FnPressesTold.Good k l0 l1) :
    Calls Tryz.prog 3 #[.slice A0 l0.length c0, .slice A1 l1.length c1] w fun e w' => e = .returned (.bool true) ∧ Below w.heap.size w w' := by
  rcases h with hb | ⟨hb, ⟨wd, tx, ks, ct, wt, ok, hA⟩, ⟨w2, ps, wa, ti, seven, lt, ke, pn, nine, pr, rd_, th, mn, le, lo, ff, hG⟩⟩
  · have HBig := Aside0.mk (laws_big.calls A0 c0 l0 A1 c1 l1 true w hr0 hc0 hr1 hc1 hb)
    go_enter Tryz.func3, Tryz.ntmps3
    go_wp2_with fail
    refine HBig.out.mono ?_
    rintro e w1 ⟨rfl, hd1⟩
    go_wp2_with fail
    go_ret
    exact ⟨rfl, hd1.below⟩
  · have HBig := Aside0.mk (laws_big.calls A0 c0 l0 A1 c1 l1 false w hr0 hc0 hr1 hc1 hb)
    obtain ⟨g1, g2, g3, g4, g5, g6, g7, g8, g9, g10, g11, hB⟩ := hA
    have C0 := Aside0.mk hr0
    have C1 := Aside0.mk hr1
    have HB := Aside0.mk hB
    have HG := Aside0.mk hG
    have B0_ := Aside0.mk (Below.refl w.heap.size w)
    have G1 := Aside0.mk g1
    have G2 := Aside0.mk g2
    have G3 := Aside0.mk g3
    have G4 := Aside0.mk g4
    have G5 := Aside0.mk g5
    have G6 := Aside0.mk g6
    have G7 := Aside0.mk g7
    have G8 := Aside0.mk g8
    have G9 := Aside0.mk g9
    have G10 := Aside0.mk g10
    have G11 := Aside0.mk g11
    clear g1 g2 g3 g4 g5 g6 g7 g8 g9 g10 g11 hr0 hr1 hb hB hG
    go_enter Tryz.func3, Tryz.ntmps3
    go_upto_region 12 with (first | (go_at_call 4; with_reducible refine (HBig.out).mono ?_; rintro e w1_ ⟨rfl, hd_⟩; have hb := hd_.below; have B1_ := Aside0.mk (below_step B0_.out hb); clear hb B0_ hd_) | (go_at_call 5; with_reducible refine (spec_DrawPressText.calls k A0 c0 l0 wd _ (Kd.C_below C0.out B1_.out) hc0 G1.out).mono ?_; rintro e w2_ ⟨rfl, hb⟩; have B2_ := Aside0.mk (below_step B1_.out hb); clear hb B1_) | (go_at_call 6; with_reducible refine (impl_PressText.calls k wd tx ok _ G2.out).mono ?_; rintro e w3_ ⟨rfl, hb⟩; have B3_ := Aside0.mk (below_step B2_.out hb); clear hb B2_) | (go_at_call 7; with_reducible refine (spec_PressText.calls k wd tx ok _ G3.out).mono ?_; rintro e w4_ ⟨rfl, hd_⟩; have hb := hd_.below; have B4_ := Aside0.mk (below_step B3_.out hb); clear hb B3_ hd_) | (go_at_call 8; with_reducible refine (impl_KeysOf.calls k wd ks ok _ G4.out).mono ?_; rintro e w5_ ⟨rfl, hb⟩; have B5_ := Aside0.mk (below_step B4_.out hb); clear hb B4_) | (go_at_call 9; with_reducible refine (spec_KeysOf.calls k wd ks ok _ G5.out).mono ?_; rintro e w6_ ⟨rfl, hd_⟩; have hb := hd_.below; have B6_ := Aside0.mk (below_step B5_.out hb); clear hb B5_ hd_) | (go_at_call 10; with_reducible refine (impl_CountPresses.calls k wd ct ok _ G6.out).mono ?_; rintro e w7_ ⟨rfl, hb⟩; have B7_ := Aside0.mk (below_step B6_.out hb); clear hb B6_) | (go_at_call 11; with_reducible refine (spec_CountPresses.calls k wd ct ok _ G7.out).mono ?_; rintro e w8_ ⟨rfl, hd_⟩; have hb := hd_.below; have B8_ := Aside0.mk (below_step B7_.out hb); clear hb B7_ hd_) | (go_at_call 12; with_reducible refine (impl_WaitsIn.calls k wd wt ok _ G8.out).mono ?_; rintro e w9_ ⟨rfl, hb⟩; have B9_ := Aside0.mk (below_step B8_.out hb); clear hb B8_) | (go_at_call 13; with_reducible refine (spec_WaitsIn.calls k wd wt ok _ G9.out).mono ?_; rintro e w10_ ⟨rfl, hd_⟩; have hb := hd_.below; have B10_ := Aside0.mk (below_step B9_.out hb); clear hb B9_ hd_))
    clear HBig
    go_cut [176] from 111 to 176 (fun s176 wx => s176 = .bool false ∧ Aside0 (Below w.heap.size w wx))
    case first => as_aux_lemma =>
      clear HB HG C0 C1
      try dsimp only [List.append]
      cases ok with
      | false =>
        go_wp2_with (first | (go_at_call 14; with_reducible refine (impl_IsWord.calls wd false _ G10.out).mono ?_; rintro e w11_ ⟨rfl, hb⟩; have B11_ := Aside0.mk (below_step B10_.out hb); clear hb B10_) | (go_at_call 14; with_reducible refine (impl_IsWord.calls wd false _ G10.out).mono ?_; rintro e w12_ ⟨rfl, hb⟩; have B12_ := Aside0.mk (below_step B11_.out hb); clear hb B11_) | (go_at_call 15; with_reducible refine (spec_IsWord.calls k wd false _ G11.out).mono ?_; rintro e w13_ ⟨rfl, hd_⟩; have hb := hd_.below; have B13_ := Aside0.mk (below_step B12_.out hb); clear hb B12_ hd_))
        go_meet
        case rel => exact ⟨by simp, B13_⟩
      | true =>
        go_wp2_with (first | (go_at_call 14; with_reducible refine (impl_IsWord.calls wd true _ G10.out).mono ?_; rintro e w11_ ⟨rfl, hb⟩; have B11_ := Aside0.mk (below_step B10_.out hb); clear hb B10_) | (go_at_call 14; with_reducible refine (impl_IsWord.calls wd true _ G10.out).mono ?_; rintro e w12_ ⟨rfl, hb⟩; have B12_ := Aside0.mk (below_step B11_.out hb); clear hb B11_) | (go_at_call 15; with_reducible refine (spec_IsWord.calls k wd true _ G11.out).mono ?_; rintro e w13_ ⟨rfl, hd_⟩; have hb := hd_.below; have B13_ := Aside0.mk (below_step B12_.out hb); clear hb B12_ hd_))
        go_meet
        case rel => exact ⟨by simp, B13_⟩
    case rest => as_aux_lemma =>
      obtain ⟨rfl, B12⟩ := hcut
      clear B10_ G10 G11
      go_upto_if 177 with fail
      go_cut [] from 178 to 276 (fun wx => Aside0 (Below w.heap.size w wx))
      case first => as_aux_lemma =>
        clear HG C0 C1
        cases ok with
        | false =>
          go_wp2_with fail
          go_meet
          case rel => exact B12
        | true =>
          obtain ⟨b1, b2, b3, b4, b5, b6⟩ := HB.out rfl
          have HAs := Aside0.mk b4
          have HLP := Aside0.mk b6
          have B3 := Aside0.mk b3
          have q1 : ((tx.size : Int) != wrap64 (ct + wt)) = false := bne_eq_false_iff_eq.2 b1
          have q2 : ((ks.size : Int) != (wd.size : Int)) = false := bne_eq_false_iff_eq.2 (by omega)
          clear b1 b3 b4 b6 HB
          go_upto_if 193 with fail
          clear q1 q2
          go_cut [] from 193 to 205 (fun wx => Aside0 (Below w.heap.size w wx))
          case first => as_aux_lemma =>
            clear HLP HAs
            have B20 := Aside0.mk B12.out
            clear B12
            by_cases h200 : tx.size ≤ 200
            · have q1 : decide (tx.size ≤ 200) = true := decide_eq_true h200
              have G12 := Aside0.mk (B3.out h200)
              clear B3
              go_wp2_with (first | (go_at_call 16; with_reducible refine (impl_ReadPresses.calls k tx wd true _ G12.out).mono ?_; rintro e w21_ ⟨rfl, hb⟩; have B21_ := Aside0.mk (below_step B20.out hb); clear hb B20))
              go_meet
              case rel => exact B21_
            · have q1 : decide (tx.size ≤ 200) = false := decide_eq_false h200
              clear B3
              go_wp2_with fail
              go_meet
              case rel => exact B20
          case rest => as_aux_lemma =>
            have B30 := Aside0.mk hcut.out
            clear hcut B12 B3
            go_wp2
            obtain ⟨it, hit⟩ : ∃ it, it = wc.heap.size := ⟨_, rfl⟩
            have hwi : w.heap.size ≤ it := by rw [hit]; exact B30.out.size
            have HIt0 : Aside0 ((wc.alloc (.stringIter wd 0)).heap[it]? = some (.stringIter wd 0)) := ⟨by rw [hit]; exact World.iter_heap wc wd 0⟩
            have HB0 : Aside0 (Below w.heap.size w (wc.alloc (.stringIter wd 0))) := ⟨below_alloc B30.out _⟩
            simp only [← hit]
            clear hit B30
            go_loopg [24, 25] wd.size (fun gg v24 v25 wr => ∃ (i : Nat) (sum st : Int), v24 = .int .i64 sum ∧ v25 = .int .i64 st ∧ i + gg = wd.size ∧ Aside0 (laws_FnPressesTold.lp k wd ks gg i sum st = some (ct, wt)) ∧ Aside0 (Below w.heap.size w wr) ∧ Aside0 (wr.heap[it]? = some (.stringIter wd i)))
            case atStart => exact ⟨0, 0, 0, rfl, rfl, by omega, HLP, HB0, HIt0⟩
            case round =>
              clear HIt0 HB0 HLP
              obtain ⟨i, sum, st, rfl, rfl, hi, HL, HB, HIt⟩ := hrel
              by_cases hlt : i < wd.size
              · obtain ⟨d, rfl⟩ : ∃ d, gk = d + 1 := ⟨gk - 1, by omega⟩
                have hl := HL.out
                rw [laws_FnPressesTold.lp] at hl
                obtain ⟨⟨kx, kb⟩, k5, hl2⟩ := Option.bind_eq_some_iff.1 hl
                obtain ⟨⟨n, nb⟩, k6, hl3⟩ := Option.bind_eq_some_iff.1 hl2
                split at hl3
                · rename_i hc
                  dsimp only at hc
                  obtain ⟨hc1, rfl, hn1, hn4⟩ := hc
                  obtain ⟨rfl, rfl⟩ := Prod.mk.inj hc1
                  have K5 := Aside0.mk k5
                  have K6 := Aside0.mk k6
                  have HL2 := Aside0.mk hl3
                  have hnx : ∀ ty, (Instr.next (.pointer (some ⟨it, 0, none⟩)) true ty).run Tryz.prog wr = .ok (.tuple #[.bool true, .int .i64 i, .int .i32 (wd[i]'hlt).toNat]) (wr.iterAt it wd (i + 1)) := fun ty => Go.Lib.run_next_ascii_at wr it wd i ty HIt.out hlt (HAs.out i hlt)
                  have HB2 : Aside0 (Below w.heap.size w (wr.iterAt it wd (i + 1))) := ⟨Go.Lib.below_iterAt HB.out hwi _ _⟩
                  have HIt2 : Aside0 ((wr.iterAt it wd (i + 1)).heap[it]? = some (.stringIter wd (i + 1))) := ⟨Go.Lib.iterAt_heap _ _ _ _ _ HIt.out⟩
                  generalize (wd[i]'hlt).toNat = ch at hnx
                  generalize wr.iterAt it wd (i + 1) = W2 at *
                  clear HB HIt HL hl k5 k6 hl2 hl3 hc1
                  go_upto_region 24 with fail
                  clear hnx
                  have s1 : (0 : Int) ≤ (i : Int) := by omega
                  have s2_ : (i : Int) ≤ (i : Int) + 1 := by omega
                  have s3 : (i : Int) + 1 ≤ (wd.size : Int) := by omega
                  have s3' : (i : Int) + 1 ≤ (ks.size : Int) := by omega
                  have s4 : ((i : Int) + 1).toNat = i + 1 := by omega
                  have s5 : (0 : Int) ≤ (i : Int) + 1 := by omega
                  have q1 : decide (n < 1) = false := decide_eq_false (by omega)
                  have q2 : decide (4 < n) = false := decide_eq_false (by omega)
                  go_upto_region 30 with (first | (go_at_call 17; refine (impl_KeyOf.calls k (wd.extract i (i + 1)) _ true _ K5.out).mono ?_; rintro e w6 ⟨rfl, hb⟩; have hB6 := below_step HB2.out hb; have hIt6 := blk_below HIt2.out hb; clear hb) | (go_at_call 18; refine (impl_PressesFor.calls k (wd.extract i (i + 1)) n true _ K6.out).mono ?_; rintro e w7 ⟨rfl, hb⟩; have hB7 := below_step hB6 hb; have hIt7 := blk_below hIt6 hb; clear hb))
                  by_cases hi0 : 0 < i
                  · obtain ⟨j, rfl⟩ : ∃ j, i = j + 1 := ⟨i - 1, by omega⟩
                    have hz : decide ((0 : Int) < (j : Int) + 1) = true := decide_eq_true (by omega)
                    have x1 : (0 : Int) ≤ (j : Int) := by omega
                    have x2 : (j : Int) < (ks.size : Int) := by omega
                    have x3 : (j : Int) + 1 < (ks.size : Int) := by omega
                    have x4 : j < ks.size := by omega
                    have x5 : (0 : Int) ≤ (j : Int) + 1 := by omega
                    have x6 : ((j : Int) + 1).toNat = j + 1 := by omega
                    have x7 : j + 1 < ks.size := by omega
                    have hb1 : ∀ h : j < ks.size, ((ks[j]'h).toNat : Int) = bt ks (j : Int) := fun h => bt_at ks (j : Int) (by simpa using h)
                    have hb2 : ∀ h : j + 1 < ks.size, ((ks[j + 1]'h).toNat : Int) = bt ks ((j + 1 : Nat) : Int) := fun h => bt_at ks ((j + 1 : Nat) : Int) (by simpa using h)
                    have e1 : ((j + 1 : Nat) : Int) - 1 = (j : Int) := by omega
                    have e2 : ((j + 1 : Nat) : Int) = (j : Int) + 1 := by omega
                    by_cases he : bt ks (j : Int) = bt ks ((j : Int) + 1)
                    · have hst : (if 0 < j + 1 ∧ bt ks (((j + 1 : Nat) : Int) - 1) = bt ks ((j + 1 : Nat) : Int) then wrap64 (st + 1) else st) = wrap64 (st + 1) := if_pos ⟨by omega, by rw [e1, e2]; exact he⟩
                      rw [hst] at HL2
                      have hq : (bt ks (j : Int) == bt ks ((j : Int) + 1)) = true := by rw [he]; simp
                      clear hst he e1 e2
                      go_quiet (fail)
                      go_wp2
                      go_roundg d
                      case measure => omega
                      case rel => exact ⟨j + 1 + 1, wrap64 (sum + n), wrap64 (st + 1), rfl, rfl, by omega, HL2, ⟨pw_below_drewN hB7 _⟩, ⟨blk_drewN hIt7 _⟩⟩
                    · have hst : (if 0 < j + 1 ∧ bt ks (((j + 1 : Nat) : Int) - 1) = bt ks ((j + 1 : Nat) : Int) then wrap64 (st + 1) else st) = st := if_neg (fun h => he (by have h := h.2; rw [e1, e2] at h; exact h))
                      rw [hst] at HL2
                      have hq : (bt ks (j : Int) == bt ks ((j : Int) + 1)) = false := by simpa using he
                      clear hst he e1 e2
                      go_quiet (fail)
                      go_wp2
                      go_roundg d
                      case measure => omega
                      case rel => exact ⟨j + 1 + 1, wrap64 (sum + n), st, rfl, rfl, by omega, HL2, ⟨pw_below_drewN hB7 _⟩, ⟨blk_drewN hIt7 _⟩⟩
                  · have hz : decide ((0 : Int) < (i : Int)) = false := decide_eq_false (by omega)
                    have hst : (if 0 < i ∧ bt ks ((i : Int) - 1) = bt ks (i : Int) then wrap64 (st + 1) else st) = st := if_neg (fun h => hi0 h.1)
                    rw [hst] at HL2
                    clear hst
                    go_quiet (fail)
                    go_wp2
                    go_roundg d
                    case measure => omega
                    case rel => exact ⟨i + 1, wrap64 (sum + n), st, rfl, rfl, by omega, HL2, ⟨pw_below_drewN hB7 _⟩, ⟨blk_drewN hIt7 _⟩⟩
                · cases hl3
              · obtain rfl : gk = 0 := by omega
                have hl := HL.out
                rw [laws_FnPressesTold.lp] at hl
                obtain ⟨rfl, rfl⟩ := Prod.mk.inj (Option.some.inj hl)
                have hnx : ∀ ty, (Instr.next (.pointer (some ⟨it, 0, none⟩)) true ty).run Tryz.prog wr = .ok (.tuple #[.bool false]) wr := fun ty => Go.Lib.run_next_end_at wr it wd i ty HIt.out (by omega)
                clear HL HIt hl
                go_wp2_with fail
                go_meet
                case rel => exact HB
      case rest => as_aux_lemma =>
        have B40 := Aside0.mk hcut.out
        clear hcut B12 HB
        obtain ⟨h1, h2, h3, h4, h5, h6, h7, h8, h9, h10, h11, h12, h13, h14, f7, f13, f15⟩ := HG.out
        have H1 := Aside0.mk h1
        have H2 := Aside0.mk h2
        have H3 := Aside0.mk h3
        have H4 := Aside0.mk h4
        have H5 := Aside0.mk h5
        have H6 := Aside0.mk h6
        have H7 := Aside0.mk h7
        have H8 := Aside0.mk h8
        have H9 := Aside0.mk h9
        have H10 := Aside0.mk h10
        have H11 := Aside0.mk h11
        have H12 := Aside0.mk h12
        have H13 := Aside0.mk h13
        have H14 := Aside0.mk h14
        have F7 := Aside0.mk f7
        have F13 := Aside0.mk f13
        have F15 := Aside0.mk f15
        clear HG h1 h2 h3 h4 h5 h6 h7 h8 h9 h10 h11 h12 h13 h14 f7 f13 f15
        go_upto_region 48 with (first | (go_at_call 19; with_reducible refine (spec_DrawTimeFor.calls k A1 c1 l1 w2 ps wa _ (Kd.C_below C1.out B40.out) hc1 H1.out).mono ?_; rintro e w41_ ⟨rfl, hb⟩; have B41_ := Aside0.mk (below_step B40.out hb); clear hb B40) | (go_at_call 20; with_reducible refine (impl_TimeFor.calls k w2 ps wa ti seven _ H2.out).mono ?_; rintro e w42_ ⟨rfl, hb⟩; have B42_ := Aside0.mk (below_step B41_.out hb); clear hb B41_) | (go_at_call 21; with_reducible refine (spec_TimeFor.calls k w2 ps wa ti seven _ H3.out).mono ?_; rintro e w43_ ⟨rfl, hd_⟩; have hb := hd_.below; have B43_ := Aside0.mk (below_step B42_.out hb); clear hb B42_ hd_) | (go_at_call 22; with_reducible refine (spec_DrawKeyOf.calls k A1 c1 l1 lt _ (Kd.C_below C1.out B43_.out) hc1 H4.out).mono ?_; rintro e w44_ ⟨rfl, hb⟩; have B44_ := Aside0.mk (below_step B43_.out hb); clear hb B43_) | (go_at_call 17; with_reducible refine (impl_KeyOf.calls k lt ke nine _ H5.out).mono ?_; rintro e w45_ ⟨rfl, hb⟩; have B45_ := Aside0.mk (below_step B44_.out hb); clear hb B44_) | (go_at_call 23; with_reducible refine (spec_KeyOf.calls k lt ke nine _ H6.out).mono ?_; rintro e w46_ ⟨rfl, hd_⟩; have hb := hd_.below; have B46_ := Aside0.mk (below_step B45_.out hb); clear hb B45_ hd_) | (go_at_call 18; with_reducible refine (impl_PressesFor.calls k lt pn nine _ H7.out).mono ?_; rintro e w47_ ⟨rfl, hb⟩; have B47_ := Aside0.mk (below_step B46_.out hb); clear hb B46_) | (go_at_call 24; with_reducible refine (spec_PressesFor.calls k lt pn nine _ H8.out).mono ?_; rintro e w48_ ⟨rfl, hd_⟩; have hb := hd_.below; have B48_ := Aside0.mk (below_step B47_.out hb); clear hb B47_ hd_) | (go_at_call 25; with_reducible refine (spec_DrawReadPresses.calls k A1 c1 l1 pr _ (Kd.C_below C1.out B48_.out) hc1 H9.out).mono ?_; rintro e w49_ ⟨rfl, hb⟩; have B49_ := Aside0.mk (below_step B48_.out hb); clear hb B48_) | (go_at_call 16; with_reducible refine (impl_ReadPresses.calls k pr rd_ th _ H10.out).mono ?_; rintro e w50_ ⟨rfl, hb⟩; have B50_ := Aside0.mk (below_step B49_.out hb); clear hb B49_) | (go_at_call 26; with_reducible refine (spec_ReadPresses.calls k pr rd_ th _ H11.out).mono ?_; rintro e w51_ ⟨rfl, hd_⟩; have hb := hd_.below; have B51_ := Aside0.mk (below_step B50_.out hb); clear hb B50_ hd_) | (go_at_call 27; with_reducible refine (spec_DrawLongestPressed.calls k A1 c1 l1 mn le _ (Kd.C_below C1.out B51_.out) hc1 H12.out).mono ?_; rintro e w52_ ⟨rfl, hb⟩; have B52_ := Aside0.mk (below_step B51_.out hb); clear hb B51_) | (go_at_call 28; with_reducible refine (impl_LongestPressed.calls k mn le lo ff _ H13.out).mono ?_; rintro e w53_ ⟨rfl, hb⟩; have B53_ := Aside0.mk (below_step B52_.out hb); clear hb B52_) | (go_at_call 29; with_reducible refine (spec_LongestPressed.calls k mn le lo ff _ H14.out).mono ?_; rintro e w54_ ⟨rfl, hd_⟩; have hb := hd_.below; have B54_ := Aside0.mk (below_step B53_.out hb); clear hb B53_ hd_))
        have B60 := Aside0.mk B54_.out
        clear C0 C1 B54_
        have e7 : (seven != seven) = false := by simp
        have e9 : (nine != nine) = false := by simp
        have e13 : (th != th) = false := by simp
        have e15 : (ff != ff) = false := by simp
        try dsimp only [List.append]
        go_upto_if 401 with fail
        clear e7 e9 e13 e15
        go_cut [] from 402 to 428 (fun wx => Aside0 (Below w.heap.size w wx))
        case first => as_aux_lemma =>
          clear F13 F15
          cases seven with
          | false =>
            go_wp2_with fail
            go_meet
            case rel => exact B60
          | true =>
            obtain ⟨ca, cb, j1, j2, j3⟩ := F7.out rfl
            have J1 := Aside0.mk j1
            have J2 := Aside0.mk j2
            have q1 : (ti != wrap64 (wrap64 (ca * ps) + wrap64 (cb * wa))) = false := bne_eq_false_iff_eq.2 j3
            clear j1 j2 j3 F7
            go_wp2_with (first | (go_at_call 10; with_reducible refine (impl_CountPresses.calls k w2 ca true _ J1.out).mono ?_; rintro e w61_ ⟨rfl, hb⟩; have B61_ := Aside0.mk (below_step B60.out hb); clear hb B60) | (go_at_call 12; with_reducible refine (impl_WaitsIn.calls k w2 cb true _ J2.out).mono ?_; rintro e w62_ ⟨rfl, hb⟩; have B62_ := Aside0.mk (below_step B61_.out hb); clear hb B61_))
            go_meet
            case rel => exact B62_
        case rest => as_aux_lemma =>
          have B70 := Aside0.mk hcut.out
          clear hcut B60 F7
          go_upto_if 429 with fail
          go_cut [] from 430 to 441 (fun wx => Aside0 (Below w.heap.size w wx))
          case first => as_aux_lemma =>
            clear F15
            cases th with
            | false =>
              go_wp2_with fail
              go_meet
              case rel => exact B70
            | true =>
              have J1 := Aside0.mk (F13.out rfl)
              clear F13
              go_wp2_with (first | (go_at_call 6; with_reducible refine (impl_PressText.calls k rd_ pr true _ J1.out).mono ?_; rintro e w71_ ⟨rfl, hb⟩; have B71_ := Aside0.mk (below_step B70.out hb); clear hb B70))
              go_meet
              case rel => exact B71_
          case rest => as_aux_lemma =>
            have B80 := Aside0.mk hcut.out
            clear hcut B70 F13
            cases ff with
            | false =>
              go_wp2_with fail
              go_ret
              exact ⟨rfl, B80.out⟩
            | true =>
              obtain ⟨j1, j2⟩ := F15.out rfl
              have J1 := Aside0.mk j1
              have q1 : ((lo.size : Int) != le) = false := bne_eq_false_iff_eq.2 j2
              clear j1 j2 F15
              go_wp2_with (first | (go_at_call 10; with_reducible refine (impl_CountPresses.calls k lo mn true _ J1.out).mono ?_; rintro e w81_ ⟨rfl, hb⟩; have B81_ := Aside0.mk (below_step B80.out hb); clear hb B80))
              go_ret
              exact ⟨rfl, B81_.out⟩
def laws_FnPressesTold.Pure : Prop := ∀ (l0 l1 : List Int), l0.length ≤ maxLen → l0.length * 1 ≤ 140737488351232 → (∀ x ∈ l0, (Lit.int .u8 x).wf = true) → l1.length ≤ maxLen → l1.length * 1 ≤ 140737488351232 → (∀ x ∈ l1, (Lit.int .u8 x).wf = true) → ∃ k, laws_FnPressesTold.Good k l0 l1
theorem laws_FnPressesTold.walk (P : laws_FnPressesTold.Pure) (a0 : Option Addr) (len0 cap0 : Nat) (z0 : List Int) (a1 : Option Addr) (len1 cap1 : Nat) (z1 : List Int) (w : World) (w0 : (a0 = none ∧ len0 = 0 ∧ cap0 = 0 ∧ z0 = []) ∨ ∃ x, a0 = some x ∧ len0 ≤ cap0 ∧ cap0 ≤ maxLen ∧ z0.length = cap0 ∧ (∀ i, i < z0.length → w.cell? (x.add i) = some (.int .u8 (z0.getD i 0))) ∧ ∀ n ∈ z0, (Lit.int .u8 n).wf = true) (y0 : len0 * 1 ≤ 140737488351232) (w1 : (a1 = none ∧ len1 = 0 ∧ cap1 = 0 ∧ z1 = []) ∨ ∃ x, a1 = some x ∧ len1 ≤ cap1 ∧ cap1 ≤ maxLen ∧ z1.length = cap1 ∧ (∀ i, i < z1.length → w.cell? (x.add i) = some (.int .u8 (z1.getD i 0))) ∧ ∀ n ∈ z1, (Lit.int .u8 n).wf = true) (y1 : len1 * 1 ≤ 140737488351232) :
    Calls Tryz.prog 3 #[.slice a0 len0 cap0, .slice a1 len1 cap1] w fun e w' => e = .returned (.bool true) ∧ Below w.heap.size w w' := by
  obtain ⟨l0, rfl, hr0, hm0, hw0, hc0⟩ := ReadsInt.ofRowC w0
  obtain ⟨l1, rfl, hr1, hm1, hw1, hc1⟩ := ReadsInt.ofRowC w1
  obtain ⟨k, h⟩ := P l0 l1 hm0 y0 hw0 hm1 y1 hw1
  refine (laws_FnPressesTold.calls k _ _ l0 _ _ l1 w (Kd.C_of_reads (d := (0 : Int)) (h1 := fun _ => rfl) hr0) hc0 (Kd.C_of_reads (d := (0 : Int)) (h1 := fun _ => rfl) hr1) hc1 h).mono ?_
  rintro e w' ⟨rfl, hd⟩
  exact ⟨rfl, hd⟩
end Go.Proofs.YtmbnchgfjijobaaGreatDoor.P
end

section
namespace Go.Proofs.YtmbnchgfjijobaaGreatDoor.Pu
open Go.RowKit Go.Proofs.YtmbnchgfjijobaaGreatDoorW.PrintWords Go.Proofs.YtmbnchgfjijobaaGreatDoorW.PrintLast Go.Proofs.YtmbnchgfjijobaaGreatDoorW.PrintMore
theorem ev_from {α : Type} {g : Nat → Option α} {r : α} (K : Nat) (h : ∀ k, K ≤ k → g (k + 1) = some r) : Ev g r := by
  refine ⟨K + 1, fun n hn => ?_⟩
  obtain ⟨m, rfl⟩ : ∃ m, n = m + 1 := ⟨n - 1, by omega⟩
  exact h m (by omega)
theorem bsome {α β : Type} (a : α) (f : α → Option β) : (some a).bind f = f a := Option.bind_some a f
theorem wr {x : Int} (h0 : -9223372036854775808 ≤ x) (h1 : x ≤ 9223372036854775807) : wrap64 x = x := by unfold wrap64; omega
theorem wr32 {x : Int} (h0 : -2147483648 ≤ x) (h1 : x ≤ 2147483647) : wrap32 x = x := by unfold wrap32; omega
theorem bytes_ext {s t : ByteArray} (h : bytesOf s = bytesOf t) : s = t := by
  have h1 : s.data.toList = t.data.toList := by
    unfold bytesOf at h
    refine List.ext_getElem (by simpa using congrArg List.length h) fun i h1 h2 => ?_
    have := congrArg (fun l => l[i]?) h
    simp only [List.getElem?_map, List.getElem?_eq_getElem h1, List.getElem?_eq_getElem h2, Option.map_some, Option.some.injEq] at this
    exact UInt8.toNat_inj.1 (by omega)
  cases s; cases t
  simp only [ByteArray.mk.injEq]
  exact Array.toList_inj.1 h1
theorem size_bytes (s : ByteArray) : s.size = (bytesOf s).length := (bytesOf_length s).symm
theorem bt_bytes (s : ByteArray) (i : Int) : bt s i = (bytesOf s).getD i.toNat 0 := by rw [← rd_bytesOf]; rfl
theorem bytes_range (s : ByteArray) : ∀ c ∈ bytesOf s, 0 ≤ c ∧ c ≤ 255 := by
  intro c hc
  unfold bytesOf at hc
  obtain ⟨b, _, rfl⟩ := List.mem_map.1 hc
  have := b.toNat_lt
  omega
theorem bytes_nums {L : List Int} (h : ∀ c ∈ L, 0 ≤ c ∧ c ≤ 255) : bytesOf (strOfNums L) = L := by
  unfold bytesOf strOfNums
  simp only [List.map_map]
  conv => rhs; rw [← List.map_id L]
  refine List.map_congr_left fun c hc => ?_
  have := h c hc
  show ((UInt8.ofNat c.toNat).toNat : Int) = c
  rw [UInt8.toNat_ofNat']
  omega
theorem nums_bytes (s : ByteArray) : strOfNums (bytesOf s) = s := bytes_ext (bytes_nums (bytes_range s))
theorem size_nums (L : List Int) : (strOfNums L).size = L.length := by
  unfold strOfNums
  simp [ByteArray.size]
theorem bytes_extract (s : ByteArray) (a b : Nat) : bytesOf (s.extract a b) = ((bytesOf s).take b).drop a := by
  unfold bytesOf
  rw [ByteArray.data_extract, Array.toList_extract, List.extract_eq_take_drop, List.map_take, List.map_drop]
  rw [List.drop_take]
theorem numsApp (L M : List Int) : strOfNums (L ++ M) = strOfNums L ++ strOfNums M := by
  unfold strOfNums
  simp only [List.map_append]
  cases h : (ByteArray.mk (L.map fun x => x.toNat.toUInt8).toArray ++ ByteArray.mk (M.map fun x => x.toNat.toUInt8).toArray) with
  | mk d =>
    have := congrArg ByteArray.data h
    rw [ByteArray.data_append] at this
    simp only at this
    rw [← this]
    congr 1
    simp
theorem toList_bytes {s t : ByteArray} : s.toList = t.toList ↔ s = t := by
  rw [Lib.toList_data, Lib.toList_data]
  refine ⟨fun h => bytes_ext (by unfold bytesOf; rw [h]), fun h => by rw [h]⟩
theorem encode_small {c : Int} (h0 : 0 ≤ c) (h1 : c < 128) : Utf8.encode c = strOfNums [c] := by
  unfold Utf8.encode strOfNums
  have hv : Utf8.valid c = true := by unfold Utf8.valid; simp; omega
  have hc : c.toNat < 128 := by omega
  simp only [hv, if_true, hc]
  simp
theorem bytes_all {p : UInt8 → Bool} {q : Int → Bool} (h : ∀ b : UInt8, p b = q b.toNat) (s : ByteArray) : s.data.toList.all p = (bytesOf s).all q := by
  unfold bytesOf
  rw [List.all_map]
  congr 1
  funext b
  exact h b
theorem drop_bytes (s : ByteArray) (i : Nat) (h : i < s.size) : (bytesOf s).drop i = bt s i :: (bytesOf s).drop (i + 1) := by
  have hl : i < (bytesOf s).length := by rw [bytesOf_length]; exact h
  rw [List.drop_eq_getElem_cons hl, bt_bytes, Int.toNat_natCast, List.getD_eq_getElem?_getD, List.getElem?_eq_getElem hl]
  rfl
theorem drop_end (s : ByteArray) : (bytesOf s).drop s.size = [] := List.drop_eq_nil_of_le (by rw [bytesOf_length]; exact Nat.le_refl _)
theorem bt_mem (s : ByteArray) (i : Nat) (h : i < s.size) : bt s i ∈ bytesOf s := by
  have hd := drop_bytes s i h
  have : bt s i ∈ (bytesOf s).drop i := by rw [hd]; exact List.mem_cons_self
  exact List.mem_of_mem_drop this
theorem dropWhile_nil_all {α : Type} (p : α → Bool) (l : List α) : l.dropWhile p = [] ↔ l.all p = true := by
  induction l with
  | nil => simp
  | cons a l ih =>
    rw [List.dropWhile_cons, List.all_cons]
    cases h : p a <;> simp [ih]
theorem trimS_nil (l cs : List UInt8) : Lib.trimS l cs = [] ↔ l.all (fun b => cs.contains b) = true := by
  unfold Lib.trimS Lib.trimLeftS Lib.trimRightS
  rw [dropWhile_nil_all]
  constructor
  · intro h
    have hr : ∀ (m : List UInt8), ((m.dropWhile (cs.contains ·)).reverse).all (fun b => cs.contains b) = true → m.all (fun b => cs.contains b) = true := by
      intro m
      induction m with
      | nil => simp
      | cons a m ih =>
        rw [List.dropWhile_cons]
        cases ha : cs.contains a with
        | true => intro h; rw [if_pos rfl] at h; simp only [List.all_cons, ha, Bool.true_and]; exact ih h
        | false => intro h; simp at h; simpa using And.intro h.2 h.1
    have := hr l.reverse h
    simpa using this
  · intro h
    have : l.reverse.dropWhile (cs.contains ·) = [] := (dropWhile_nil_all _ _).2 (by simpa using h)
    rw [this]
    rfl
end Go.Proofs.YtmbnchgfjijobaaGreatDoor.Pu
end

section
namespace Go.Proofs.YtmbnchgfjijobaaGreatDoor.Pu
open Go.RowKit Go.Proofs.YtmbnchgfjijobaaGreatDoor.P Go.Proofs.YtmbnchgfjijobaaGreatDoorW.PrintWords Go.Proofs.YtmbnchgfjijobaaGreatDoorW.PrintLast Go.Proofs.YtmbnchgfjijobaaGreatDoorW.PrintMore
theorem in_is (a b c : Int) : impl_in.f a b c = some (decide (b ≤ a) && decide (a ≤ c)) := by
  unfold impl_in.f
  by_cases h : b ≤ a <;> simp [h]
theorem l1In_is (a b c : Int) : spec_l1In.f a b c = some (decide (b ≤ a) && decide (a ≤ c)) := by
  unfold spec_l1In.f
  by_cases h : b ≤ a <;> simp [h]
end Go.Proofs.YtmbnchgfjijobaaGreatDoor.Pu
end

section
namespace Go.Proofs.YtmbnchgfjijobaaGreatDoor.Pu
open Go.RowKit Go.Proofs.YtmbnchgfjijobaaGreatDoor.P Go.Proofs.YtmbnchgfjijobaaGreatDoorW.PrintWords Go.Proofs.YtmbnchgfjijobaaGreatDoorW.PrintLast Go.Proofs.YtmbnchgfjijobaaGreatDoorW.PrintMore
def isLow (c : Int) : Bool := decide (97 ≤ c) && decide (c ≤ 122)
def lenB (s : ByteArray) (lo hi : Nat) : Bool := decide (lo ≤ s.size) && decide (s.size ≤ hi)
def wordB (s : ByteArray) : Bool := lenB s 1 40 && (bytesOf s).all isLow
theorem wordB_iff {s : ByteArray} : wordB s = true ↔ (1 ≤ s.size ∧ s.size ≤ 40) ∧ ∀ c ∈ bytesOf s, 97 ≤ c ∧ c ≤ 122 := by
  unfold wordB lenB isLow
  simp [List.all_eq_true]
theorem lenB_int (s : ByteArray) (lo hi : Nat) : (decide ((lo : Int) ≤ (s.size : Int)) && decide ((s.size : Int) ≤ (hi : Int))) = lenB s lo hi := by
  unfold lenB
  rw [decide_eq_decide.2 (Int.ofNat_le (m := lo) (n := s.size)), decide_eq_decide.2 (Int.ofNat_le (m := s.size) (n := hi))]
theorem over_is (s cs : ByteArray) (hs : s.size ≤ 9223372036854775807) (hc : cs.size < 4294967281) (ha : cs.data.toList.all (fun b => decide (b.toNat < 128)) = true) (q : Int → Bool)
    (hq : ∀ b : UInt8, cs.data.toList.contains b = q b.toNat) : impl_over.f s cs = some ((bytesOf s).all q) := by
  unfold impl_over.f strings_Trim.f
  rw [if_pos hs, if_pos hc, if_pos ha]
  simp only [bsome, Option.some.injEq]
  rw [← bytes_all hq, Bool.eq_iff_iff, beq_iff_eq, Lib.toList_data, ← trimS_nil]
theorem low_contains (b : UInt8) : (⟨#[97, 98, 99, 100, 101, 102, 103, 104, 105, 106, 107, 108, 109, 110, 111, 112, 113, 114, 115, 116, 117, 118, 119, 120, 121, 122]⟩ : ByteArray).data.toList.contains b = isLow b.toNat := by
  have key : ∀ n : Fin 256, (⟨#[97, 98, 99, 100, 101, 102, 103, 104, 105, 106, 107, 108, 109, 110, 111, 112, 113, 114, 115, 116, 117, 118, 119, 120, 121, 122]⟩ : ByteArray).data.toList.contains (UInt8.ofNat n.val) = isLow (UInt8.ofNat n.val).toNat := by decide +kernel
  have := key ⟨b.toNat, b.toNat_lt⟩
  simpa using this
theorem low_over (s : ByteArray) (hs : s.size ≤ 9223372036854775807) : impl_over.f s (⟨#[97, 98, 99, 100, 101, 102, 103, 104, 105, 106, 107, 108, 109, 110, 111, 112, 113, 114, 115, 116, 117, 118, 119, 120, 121, 122]⟩ : ByteArray) = some ((bytesOf s).all isLow) :=
  over_is s _ hs (by decide) (by decide) isLow low_contains
theorem isWord_is (s : ByteArray) (hs : s.size ≤ 140737488351232) : impl_IsWord.f s = some (wordB s) := by
  unfold impl_IsWord.f wordB
  rw [in_is, show (1 : Int) = ((1 : Nat) : Int) from rfl, show (40 : Int) = ((40 : Nat) : Int) from rfl, lenB_int, low_over s (by omega)]
  simp only [bsome]
  cases lenB s 1 40 <;> simp
theorem prWord_l0 (s : ByteArray) (hs : s.size ≤ 140737488351232) : ∀ (d i : Nat), i + d = s.size → Ev (fun k => spec_prWord.l0 k s i) (((bytesOf s).drop i).all isLow)
  | 0, i, h => by
    obtain rfl : i = s.size := by omega
    rw [drop_end]
    refine ev_from 0 fun k _ => ?_
    simp only [spec_prWord.l0]
    rw [if_neg (by omega)]
    rfl
  | d + 1, i, h => by
    obtain ⟨K, ih⟩ := prWord_l0 s hs d (i + 1) (by omega)
    rw [drop_bytes s i (by omega), List.all_cons]
    refine ev_from K fun k hk => ?_
    have e := ih k hk
    rw [show ((i + 1 : Nat) : Int) = (i : Int) + 1 from rfl] at e
    dsimp only at e
    simp only [spec_prWord.l0]
    rw [if_pos (by omega), if_pos (by omega), wr (by omega) (by omega), e]
    unfold isLow
    by_cases h1 : bt s i < 97
    · rw [if_pos h1, decide_eq_false (by omega)]; rfl
    · rw [if_neg h1, decide_eq_true (show 97 ≤ bt s i by omega)]
      by_cases h2 : bt s i > 122
      · rw [if_pos h2, decide_eq_false (by omega)]; rfl
      · rw [if_neg h2, decide_eq_true (by omega)]; rfl
theorem prWord_ev (s : ByteArray) (hs : s.size ≤ 140737488351232) : Ev (fun k => spec_prWord.f k s) (wordB s) := by
  obtain ⟨K, h⟩ := prWord_l0 s hs s.size 0 (by omega)
  refine ⟨K, fun k hk => ?_⟩
  have e := h k hk
  unfold spec_prWord.f wordB
  rw [l1In_is, show (1 : Int) = ((1 : Nat) : Int) from rfl, show (40 : Int) = ((40 : Nat) : Int) from rfl, lenB_int]
  simp only [bsome]
  cases lenB s 1 40
  · rfl
  · rw [if_pos rfl]; exact e
end Go.Proofs.YtmbnchgfjijobaaGreatDoor.Pu
end

section
namespace Go.Proofs.YtmbnchgfjijobaaGreatDoor.Pu
open Go.RowKit Go.Proofs.YtmbnchgfjijobaaGreatDoor.P Go.Proofs.YtmbnchgfjijobaaGreatDoorW.PrintWords Go.Proofs.YtmbnchgfjijobaaGreatDoorW.PrintLast Go.Proofs.YtmbnchgfjijobaaGreatDoorW.PrintMore
def keyN (c : Int) : Int := if c ≤ 99 then 50 else if c ≤ 102 then 51 else if c ≤ 105 then 52 else if c ≤ 108 then 53 else if c ≤ 111 then 54 else if c ≤ 115 then 55 else if c ≤ 118 then 56 else 57
def posN (c : Int) : Int := if c ≤ 99 then c - 97 else if c ≤ 102 then c - 100 else if c ≤ 105 then c - 103 else if c ≤ 108 then c - 106 else if c ≤ 111 then c - 109 else if c ≤ 115 then c - 112 else if c ≤ 118 then c - 116 else c - 119
theorem keyN_range (c : Int) : 50 ≤ keyN c ∧ keyN c ≤ 57 := by unfold keyN; omega
theorem posN_range (c : Int) (h : 97 ≤ c ∧ c ≤ 122) : 0 ≤ posN c ∧ posN c ≤ 3 := by unfold posN; omega
theorem onPad_ev (c : Int) (h : 97 ≤ c ∧ c ≤ 122) : Ev (fun k => impl_onPad.f k c) (keyN c - 50, posN c) := by
  have key : ∀ n : Fin 26, impl_onPad.f 12 (97 + (n.val : Int)) = some (keyN (97 + (n.val : Int)) - 50, posN (97 + (n.val : Int))) := by decide +kernel
  have e := key ⟨(c - 97).toNat, by omega⟩
  rw [show (97 : Int) + (((c - 97).toNat : Nat) : Int) = c by omega] at e
  exact Ev.of (impl_onPad.mono c) e
theorem prKey_ev (c : Int) (h : 97 ≤ c ∧ c ≤ 122) : Ev (fun k => spec_prKey.f k c) (keyN c, posN c + 1) := by
  have key : ∀ n : Fin 26, spec_prKey.f 60 (97 + (n.val : Int)) = some (keyN (97 + (n.val : Int)), posN (97 + (n.val : Int)) + 1) := by decide +kernel
  have e := key ⟨(c - 97).toNat, by omega⟩
  rw [show (97 : Int) + (((c - 97).toNat : Nat) : Int) = c by omega] at e
  exact Ev.of (spec_prKey.mono c) e
end Go.Proofs.YtmbnchgfjijobaaGreatDoor.Pu
end

section
namespace Go.Proofs.YtmbnchgfjijobaaGreatDoor.Pu
open Go.RowKit Go.Proofs.YtmbnchgfjijobaaGreatDoor.P Go.Proofs.YtmbnchgfjijobaaGreatDoorW.PrintWords Go.Proofs.YtmbnchgfjijobaaGreatDoorW.PrintLast Go.Proofs.YtmbnchgfjijobaaGreatDoorW.PrintMore
theorem keyOf_ev (c : Int) (h : 97 ≤ c ∧ c ≤ 122) : Ev (fun k => impl_keyOf.f k c) (keyN c) := by
  obtain ⟨K, e⟩ := onPad_ev c h
  have hp := keyN_range c
  refine ⟨K, fun k hk => ?_⟩
  have e := e k hk
  dsimp only at e
  dsimp only
  unfold impl_keyOf.f
  rw [e]
  simp only [bsome, Option.some.injEq]
  omega
end Go.Proofs.YtmbnchgfjijobaaGreatDoor.Pu
end

section
namespace Go.Proofs.YtmbnchgfjijobaaGreatDoor.Pu
open Go.RowKit Go.Proofs.YtmbnchgfjijobaaGreatDoor.P Go.Proofs.YtmbnchgfjijobaaGreatDoorW.PrintWords Go.Proofs.YtmbnchgfjijobaaGreatDoorW.PrintLast Go.Proofs.YtmbnchgfjijobaaGreatDoorW.PrintMore
theorem presses_ev (c : Int) (h : 97 ≤ c ∧ c ≤ 122) : Ev (fun k => impl_presses.f k c) (posN c + 1) := by
  obtain ⟨K, e⟩ := onPad_ev c h
  have hp := posN_range c h
  refine ⟨K, fun k hk => ?_⟩
  have e := e k hk
  dsimp only at e
  dsimp only
  unfold impl_presses.f
  rw [e]
  simp only [bsome]
  rw [wr (by omega) (by omega)]
end Go.Proofs.YtmbnchgfjijobaaGreatDoor.Pu
end

section
namespace Go.Proofs.YtmbnchgfjijobaaGreatDoor.Pu
open Go.RowKit Go.Proofs.YtmbnchgfjijobaaGreatDoor.P Go.Proofs.YtmbnchgfjijobaaGreatDoorW.PrintWords Go.Proofs.YtmbnchgfjijobaaGreatDoorW.PrintLast Go.Proofs.YtmbnchgfjijobaaGreatDoorW.PrintMore
def textN : List Int → Int → List Int
  | [], _ => []
  | c :: L, last => (if keyN c = last then [32] else []) ++ List.replicate (posN c + 1).toNat (keyN c) ++ textN L (keyN c)
theorem textN_range : ∀ (L : List Int) (last : Int), ∀ x ∈ textN L last, 0 ≤ x ∧ x ≤ 255
  | [], _, x, h => by simp [textN] at h
  | c :: L, last, x, h => by
    rw [textN, List.append_assoc, List.mem_append, List.mem_append] at h
    have hk := keyN_range c
    rcases h with h | h | h
    · split at h
      · rw [List.mem_singleton] at h; omega
      · cases h
    · have := List.eq_of_mem_replicate h; omega
    · exact textN_range L (keyN c) x h
theorem textN_length : ∀ (L : List Int) (last : Int), (∀ c ∈ L, 97 ≤ c ∧ c ≤ 122) → (textN L last).length ≤ 5 * L.length
  | [], _, _ => by simp [textN]
  | c :: L, last, h => by
    have ih := textN_length L (keyN c) (fun x hx => h x (List.mem_cons_of_mem _ hx))
    have hp := posN_range c (h c List.mem_cons_self)
    rw [textN, List.length_append, List.length_append, List.length_replicate, List.length_cons]
    split
    · rw [List.length_singleton]; omega
    · rw [List.length_nil]; omega
theorem pressGo_ev (s : ByteArray) (hs : s.size ≤ 1000) (hl : ∀ c ∈ bytesOf s, 97 ≤ c ∧ c ≤ 122) : ∀ (d i : Nat) (A : List Int) (last : Int), i + d = s.size → (∀ x ∈ A, 0 ≤ x ∧ x ≤ 255) → A.length ≤ 5 * i →
    Ev (fun k => impl_pressText.go k s d i (A.map fun x => x.toNat.toUInt8) last) ((A ++ textN ((bytesOf s).drop i) last).map fun x => x.toNat.toUInt8)
  | 0, i, A, last, h, _, _ => by
    obtain rfl : i = s.size := by omega
    rw [drop_end]
    refine ⟨0, fun k _ => ?_⟩
    simp [impl_pressText.go, textN]
  | d + 1, i, A, last, h, hA, hAl => by
    have hc := hl _ (bt_mem s i (by omega))
    obtain ⟨K1, e1⟩ := keyOf_ev (bt s i) hc
    obtain ⟨K2, e2⟩ := presses_ev (bt s i) hc
    have hk := keyN_range (bt s i)
    have hp := posN_range (bt s i) hc
    obtain ⟨K3, e3⟩ := pressGo_ev s hs hl d (i + 1) ((if keyN (bt s i) = last then A ++ [32] else A) ++ List.replicate (posN (bt s i) + 1).toNat (keyN (bt s i))) (keyN (bt s i)) (by omega)
      (by
        intro x hx
        rw [List.mem_append] at hx
        rcases hx with hx | hx
        · split at hx
          · rw [List.mem_append, List.mem_singleton] at hx
            rcases hx with hx | hx
            · exact hA x hx
            · omega
          · exact hA x hx
        · have := List.eq_of_mem_replicate hx; omega)
      (by
        rw [List.length_append, List.length_replicate]
        split
        · rw [List.length_append, List.length_singleton]; omega
        · omega)
    rw [drop_bytes s i (by omega)]
    refine ⟨K1 + K2 + K3, fun k hk' => ?_⟩
    have e1 := e1 k (by omega)
    have e2 := e2 k (by omega)
    have e3 := e3 k (by omega)
    dsimp only at e1 e2 e3 ⊢
    rw [impl_pressText.go, e1, bsome, e2, bsome, if_pos (by omega), if_pos (by omega), if_pos (by rw [List.length_map]; omega)]
    rw [textN]
    by_cases hkl : keyN (bt s i) = last
    · rw [if_pos hkl] at e3 ⊢
      rw [if_pos hkl]
      simp only [List.map_append, List.map_replicate, List.map_cons, List.map_nil, List.append_assoc] at e3 ⊢
      exact e3
    · rw [if_neg hkl] at e3 ⊢
      rw [if_neg hkl]
      simp only [List.map_append, List.map_replicate, List.append_assoc, List.nil_append] at e3 ⊢
      exact e3
def pressS (s : ByteArray) : ByteArray := strOfNums (textN (bytesOf s) 0)
theorem pressText_ev (s : ByteArray) (hs : s.size ≤ 1000) (hl : ∀ c ∈ bytesOf s, 97 ≤ c ∧ c ≤ 122) : Ev (fun k => impl_pressText.f k s) (pressS s) := by
  obtain ⟨K, e⟩ := pressGo_ev s hs hl s.size 0 [] 0 (by omega) (by simp) (by simp)
  refine ⟨K, fun k hk => ?_⟩
  have e := e k hk
  dsimp only at e ⊢
  rw [List.map_nil, List.nil_append, List.drop_zero] at e
  unfold impl_pressText.f
  rw [if_pos (by omega), e, bsome]
  rfl
theorem prText_l1 (s : ByteArray) (i : Int) (key : Int) (hk : 50 ≤ key ∧ key ≤ 57) (r : ByteArray) (X : List Int) (hX : X.length ≤ 100000) (n : Nat) (hn : n ≤ 1000) (h : Ev (fun k => spec_prText.l0 k s (strOfNums (X ++ List.replicate n key)) key (wrap64 (i + 1))) r) : ∀ (m : Nat) (A : List Int), m ≤ n → A = X ++ List.replicate (n - m) key →
    Ev (fun k => spec_prText.l1 k s (strOfNums A) i key (m : Int)) r
  | 0, A, hm, hA => by
    obtain ⟨K, e⟩ := h
    rw [Nat.sub_zero] at hA
    subst hA
    refine ev_from K fun k hk' => ?_
    have e := e k hk'
    dsimp only at e
    simp only [spec_prText.l1]
    rw [if_neg (by omega), e]
  | m + 1, A, hm, hA => by
    have hA' : A ++ [key] = X ++ List.replicate (n - m) key := by
      rw [hA, List.append_assoc, show n - m = (n - (m + 1)) + 1 by omega, List.replicate_succ']
    obtain ⟨K, ih⟩ := prText_l1 s i key hk r X hX n hn h m (A ++ [key]) (by omega) hA'
    have hAl : A.length ≤ 200000 := by rw [hA, List.length_append, List.length_replicate]; omega
    refine ev_from K fun k hk' => ?_
    have e := ih k hk'
    dsimp only at e
    simp only [spec_prText.l1]
    rw [if_pos (by omega), wr32 (by omega) (by omega), encode_small (by omega) (by omega), if_pos (by rw [size_nums, size_nums]; simp; omega), wr (by omega) (by omega), ← numsApp, show ((m + 1 : Nat) : Int) - 1 = (m : Int) by omega, e]
theorem prText_l0 (s : ByteArray) (hs : s.size ≤ 1000) (hl : ∀ c ∈ bytesOf s, 97 ≤ c ∧ c ≤ 122) : ∀ (d i : Nat) (A : List Int) (last : Int), i + d = s.size → A.length ≤ 5 * i →
    Ev (fun k => spec_prText.l0 k s (strOfNums A) last i) (strOfNums (A ++ textN ((bytesOf s).drop i) last))
  | 0, i, A, last, h, hA => by
    obtain rfl : i = s.size := by omega
    rw [drop_end]
    refine ev_from 0 fun k _ => ?_
    simp only [spec_prText.l0]
    rw [if_neg (by omega)]
    simp [textN]
  | d + 1, i, A, last, h, hA => by
    have hc := hl _ (bt_mem s i (by omega))
    obtain ⟨K1, e1⟩ := prKey_ev (bt s i) hc
    have hk := keyN_range (bt s i)
    have hp := posN_range (bt s i) hc
    have hX : (if keyN (bt s i) = last then A ++ [32] else A).length ≤ 5 * i + 1 := by
      split
      · rw [List.length_append, List.length_singleton]; omega
      · omega
    obtain ⟨K2, e2⟩ := prText_l1 s i (keyN (bt s i)) hk _ (if keyN (bt s i) = last then A ++ [32] else A) (by omega) (posN (bt s i) + 1).toNat (by omega)
      (by
        have := prText_l0 s hs hl d (i + 1) ((if keyN (bt s i) = last then A ++ [32] else A) ++ List.replicate (posN (bt s i) + 1).toNat (keyN (bt s i))) (keyN (bt s i)) (by omega) (by rw [List.length_append, List.length_replicate]; omega)
        rw [show ((i + 1 : Nat) : Int) = (i : Int) + 1 from rfl] at this
        rw [wr (by omega) (by omega)]
        exact this) (posN (bt s i) + 1).toNat (if keyN (bt s i) = last then A ++ [32] else A) (Nat.le_refl _) (by rw [Nat.sub_self]; simp)
    rw [drop_bytes s i (by omega)]
    refine ev_from (K1 + K2 + 1) fun k hk' => ?_
    obtain ⟨k, rfl⟩ : ∃ m, k = m + 1 := ⟨k - 1, by omega⟩
    have e1 := e1 (k + 1) (by omega)
    have e2 := e2 k (by omega)
    rw [show (((posN (bt s i) + 1).toNat : Nat) : Int) = posN (bt s i) + 1 by omega] at e2
    dsimp only at e1 e2
    simp only [spec_prText.l0]
    rw [if_pos (by omega), if_pos (by omega), e1, bsome, textN]
    by_cases hkl : keyN (bt s i) = last
    · rw [if_pos hkl] at e2 ⊢
      rw [if_pos hkl, if_pos (by rw [size_nums]; omega), show (⟨#[32]⟩ : ByteArray) = strOfNums [32] from rfl, ← numsApp]
      simp only [spec_prText.j1]
      rw [e2]
      simp only [List.append_assoc]
    · rw [if_neg hkl] at e2 ⊢
      rw [if_neg hkl]
      simp only [spec_prText.j1]
      rw [e2]
      simp only [List.append_assoc, List.nil_append]
theorem prText_ev (s : ByteArray) (hs : s.size ≤ 1000) (hl : ∀ c ∈ bytesOf s, 97 ≤ c ∧ c ≤ 122) : Ev (fun k => spec_prText.f k s) (pressS s) := by
  obtain ⟨K, e⟩ := prText_l0 s hs hl s.size 0 [] 0 (by omega) (by simp)
  refine ⟨K, fun k hk => ?_⟩
  have e := e k hk
  dsimp only at e ⊢
  unfold spec_prText.f pressS
  rw [List.nil_append, List.drop_zero] at e
  exact e
end Go.Proofs.YtmbnchgfjijobaaGreatDoor.Pu
end

section
namespace Go.Proofs.YtmbnchgfjijobaaGreatDoor.Pu
open Go.RowKit Go.Proofs.YtmbnchgfjijobaaGreatDoor.P Go.Proofs.YtmbnchgfjijobaaGreatDoorW.PrintWords Go.Proofs.YtmbnchgfjijobaaGreatDoorW.PrintLast Go.Proofs.YtmbnchgfjijobaaGreatDoorW.PrintMore
def letN (c n : Int) : Int := 97 + 3 * (c - 50) + (if 56 ≤ c then 1 else 0) + (n - 1)
def capN (c : Int) : Int := if c = 55 ∨ c = 57 then 4 else 3
theorem let_key {c n : Int} (hc : 50 ≤ c ∧ c ≤ 57) (hn : 1 ≤ n ∧ n ≤ capN c) : keyN (letN c n) = c ∧ posN (letN c n) = n - 1 ∧ 97 ≤ letN c n ∧ letN c n ≤ 122 := by
  have key : ∀ (i : Fin 8) (j : Fin 4), (j.val : Int) + 1 ≤ capN (50 + (i.val : Int)) → keyN (letN (50 + (i.val : Int)) ((j.val : Int) + 1)) = 50 + (i.val : Int) ∧ posN (letN (50 + (i.val : Int)) ((j.val : Int) + 1)) = (j.val : Int) + 1 - 1 ∧ 97 ≤ letN (50 + (i.val : Int)) ((j.val : Int) + 1) ∧ letN (50 + (i.val : Int)) ((j.val : Int) + 1) ≤ 122 := by decide +kernel
  have h4 : capN c ≤ 4 := by unfold capN; split <;> omega
  have := key ⟨(c - 50).toNat, by omega⟩ ⟨(n - 1).toNat, by omega⟩
  rw [show (50 : Int) + (((c - 50).toNat : Nat) : Int) = c by omega, show (((n - 1).toNat : Nat) : Int) + 1 = n by omega] at this
  exact this hn.2
theorem key_let {x : Int} (hx : 97 ≤ x ∧ x ≤ 122) : letN (keyN x) (posN x + 1) = x ∧ posN x + 1 ≤ capN (keyN x) := by
  have key : ∀ i : Fin 26, letN (keyN (97 + (i.val : Int))) (posN (97 + (i.val : Int)) + 1) = 97 + (i.val : Int) ∧ posN (97 + (i.val : Int)) + 1 ≤ capN (keyN (97 + (i.val : Int))) := by decide +kernel
  have := key ⟨(x - 97).toNat, by omega⟩
  rwa [show (97 : Int) + (((x - 97).toNat : Nat) : Int) = x by omega] at this
def runL (c : Int) (l : List Int) : Nat := (l.takeWhile (· == c)).length
theorem run_rep (c : Int) (t : List Int) (ht : t.head? ≠ some c) : ∀ m, runL c (List.replicate m c ++ t) = m
  | 0 => by
    cases t with
    | nil => rfl
    | cons x t =>
      have hx : (x == c) = false := beq_eq_false_iff_ne.2 (fun e => ht (by rw [e]; rfl))
      simp [runL, hx]
  | m + 1 => by
    have ih := run_rep c t ht m
    unfold runL at ih ⊢
    rw [List.replicate_succ, List.cons_append, List.takeWhile_cons, beq_self_eq_true, if_pos rfl, List.length_cons, ih]
theorem run_split (c : Int) : ∀ l : List Int, l = List.replicate (runL c l) c ++ l.drop (runL c l) ∧ (l.drop (runL c l)).head? ≠ some c
  | [] => by simp [runL]
  | x :: l => by
    by_cases h : x = c
    · subst h
      have ih := run_split x l
      have e : runL x (x :: l) = runL x l + 1 := by unfold runL; rw [List.takeWhile_cons, beq_self_eq_true, if_pos rfl, List.length_cons]
      rw [e, List.replicate_succ, List.cons_append, List.drop_succ_cons]
      exact ⟨congrArg (x :: ·) ih.1, ih.2⟩
    · have hb : (x == c) = false := beq_eq_false_iff_ne.2 h
      have e : runL c (x :: l) = 0 := by unfold runL; rw [List.takeWhile_cons, hb]; rfl
      rw [e]
      exact ⟨rfl, by simpa using h⟩
def decS : Nat → List Int → Option (List Int)
  | _, [] => some []
  | 0, _ :: _ => none
  | d + 1, c :: l => if (50 ≤ c ∧ c ≤ 57) ∧ (runL c l : Int) + 1 ≤ capN c then
      (match l.drop (runL c l) with
      | [] => some [letN c (runL c l + 1)]
      | x :: r => if x = 32 then (match r with
          | [] => none
          | y :: r' => if y = c then (decS d (y :: r')).map (letN c (runL c l + 1) :: ·) else none)
        else (decS d (x :: r)).map (letN c (runL c l + 1) :: ·)) else none
def decI : Nat → List Int → Option (List Int)
  | _, [] => some []
  | 0, _ :: _ => none
  | d + 1, c :: l => if c = 32 then decI d l else (if (50 ≤ c ∧ c ≤ 57) ∧ (runL c l : Int) + 1 ≤ capN c then (decI d (l.drop (runL c l))).map (letN c (runL c l + 1) :: ·) else none)
theorem textN_cons (x : Int) (W : List Int) (last : Int) (hx : 97 ≤ x ∧ x ≤ 122) : textN (x :: W) last = (if keyN x = last then [32] else []) ++ keyN x :: (List.replicate (posN x).toNat (keyN x) ++ textN W (keyN x)) := by
  have hp := posN_range x hx
  rw [textN, show (posN x + 1).toNat = (posN x).toNat + 1 by omega, List.replicate_succ, List.append_assoc]
  rfl
theorem textN_head (W : List Int) (c : Int) (hW : ∀ x ∈ W, 97 ≤ x ∧ x ≤ 122) (hc : c ≠ 32) : (textN W c).head? ≠ some c := by
  cases W with
  | nil => simp [textN]
  | cons x W =>
    rw [textN_cons x W c (hW x List.mem_cons_self)]
    by_cases h : keyN x = c
    · rw [if_pos h]
      simp only [List.cons_append, List.head?_cons, ne_eq, Option.some.injEq]
      omega
    · rw [if_neg h]
      simpa using h
theorem textN_zero (x : Int) (W : List Int) (hx : 97 ≤ x ∧ x ≤ 122) : textN (x :: W) 0 = keyN x :: (List.replicate (posN x).toNat (keyN x) ++ textN W (keyN x)) := by
  have hk := keyN_range x
  rw [textN_cons x W 0 hx, if_neg (by omega)]
  rfl
theorem textN_shift (W : List Int) (c : Int) (hW : ∀ x ∈ W, 97 ≤ x ∧ x ≤ 122) : textN W c = if (textN W 0).head? = some c then 32 :: textN W 0 else textN W 0 := by
  cases W with
  | nil => simp [textN]
  | cons x W =>
    have hx := hW x List.mem_cons_self
    rw [textN_zero x W hx, textN_cons x W c hx]
    by_cases h : keyN x = c
    · rw [if_pos h, List.head?_cons, if_pos (by rw [h])]
      rfl
    · rw [if_neg h, List.head?_cons, if_neg (by simpa using h)]
      rfl
theorem decS_sound : ∀ (d : Nat) (l W : List Int), decS d l = some W → l = textN W 0 ∧ ∀ x ∈ W, 97 ≤ x ∧ x ≤ 122
  | d, [], W, h => by
    have : W = [] := by cases d <;> exact (Option.some.inj h).symm
    subst this
    simp [textN]
  | 0, c :: l, W, h => by cases h
  | d + 1, c :: l, W, h => by
    rw [decS] at h
    obtain ⟨hs1, hs2⟩ := run_split c l
    split at h
    · rename_i hc
      obtain ⟨hk, hp, hl1, hl2⟩ := let_key (n := (runL c l : Int) + 1) hc.1 ⟨by omega, hc.2⟩
      have hpn : (posN (letN c (runL c l + 1))).toNat = runL c l := by omega
      -- what stands behind the run
      have step : ∀ W' : List Int, W = letN c (runL c l + 1) :: W' → (∀ x ∈ W', 97 ≤ x ∧ x ≤ 122) → l.drop (runL c l) = textN W' c → c :: l = textN W 0 ∧ ∀ x ∈ W, 97 ≤ x ∧ x ≤ 122 := by
        intro W' hW' hall hd
        subst hW'
        refine ⟨?_, fun x hx => ?_⟩
        · rw [textN_zero _ _ ⟨hl1, hl2⟩, hk, hpn, ← hd, ← hs1]
        · rcases List.mem_cons.1 hx with rfl | hx
          · exact ⟨hl1, hl2⟩
          · exact hall x hx
      split at h
      · rename_i hnil
        exact step [] (Option.some.inj h).symm (by simp) (by rw [hnil]; rfl)
      · rename_i x r hcons
        split at h
        · rename_i hx
          split at h
          · cases h
          · rename_i y r'
            split at h
            · rename_i hy
              obtain ⟨W', hW', e⟩ := Option.map_eq_some_iff.1 h
              obtain ⟨h1, h2⟩ := decS_sound d _ W' hW'
              refine step W' e.symm h2 ?_
              rw [hcons, textN_shift W' c h2, ← h1, List.head?_cons, if_pos (by rw [hy]), hx]
            · cases h
        · rename_i hx
          obtain ⟨W', hW', e⟩ := Option.map_eq_some_iff.1 h
          obtain ⟨h1, h2⟩ := decS_sound d _ W' hW'
          refine step W' e.symm h2 ?_
          rw [hcons] at hs2
          rw [hcons, textN_shift W' c h2, ← h1, if_neg hs2]
    · cases h
theorem decS_complete : ∀ (W : List Int) (d : Nat), (∀ x ∈ W, 97 ≤ x ∧ x ≤ 122) → (textN W 0).length ≤ d → decS d (textN W 0) = some W
  | [], d, _, _ => by cases d <;> rfl
  | x :: W, d, hW, hd => by
    have hx := hW x List.mem_cons_self
    have hW' : ∀ y ∈ W, 97 ≤ y ∧ y ≤ 122 := fun y hy => hW y (List.mem_cons_of_mem x hy)
    have hk := keyN_range x
    have hp := posN_range x hx
    obtain ⟨kl1, kl2⟩ := key_let hx
    rw [textN_zero x W hx] at hd ⊢
    rw [List.length_cons, List.length_append] at hd
    obtain ⟨d, rfl⟩ : ∃ e, d = e + 1 := ⟨d - 1, by omega⟩
    have hr := run_rep (keyN x) (textN W (keyN x)) (textN_head W (keyN x) hW' (by omega)) (posN x).toNat
    rw [decS, hr, show (((posN x).toNat : Nat) : Int) = posN x by omega, if_pos ⟨hk, kl2⟩, List.drop_left' (by rw [List.length_replicate]), kl1]
    rw [textN_shift W (keyN x) hW'] at hd ⊢
    cases W with
    | nil => simp [textN]
    | cons y W =>
      have hy := hW' y List.mem_cons_self
      have ih := decS_complete (y :: W) d hW'
      rw [textN_zero y W hy] at ih hd ⊢
      rw [List.head?_cons] at hd ⊢
      by_cases hyk : keyN y = keyN x
      · rw [if_pos (by rw [hyk])] at hd ⊢
        rw [List.length_cons] at hd
        dsimp only
        rw [if_pos rfl, if_pos hyk, ih (by omega)]
        rfl
      · rw [if_neg (by simpa using hyk)] at hd ⊢
        have hk2 := keyN_range y
        dsimp only
        rw [if_neg (by omega), ih (by omega)]
        rfl
theorem decI_complete : ∀ (W : List Int) (last : Int) (d : Nat), (∀ x ∈ W, 97 ≤ x ∧ x ≤ 122) → (textN W last).length ≤ d → decI d (textN W last) = some W
  | [], _, d, _, _ => by cases d <;> rfl
  | x :: W, last, d, hW, hd => by
    have hx := hW x List.mem_cons_self
    have hW' : ∀ y ∈ W, 97 ≤ y ∧ y ≤ 122 := fun y hy => hW y (List.mem_cons_of_mem x hy)
    have hk := keyN_range x
    have hp := posN_range x hx
    obtain ⟨kl1, kl2⟩ := key_let hx
    have hr := run_rep (keyN x) (textN W (keyN x)) (textN_head W (keyN x) hW' (by omega)) (posN x).toNat
    have core : ∀ e, (textN W (keyN x)).length ≤ e → decI (e + 1) (keyN x :: (List.replicate (posN x).toNat (keyN x) ++ textN W (keyN x))) = some (x :: W) := by
      intro e he
      rw [decI, if_neg (by omega), hr, show (((posN x).toNat : Nat) : Int) = posN x by omega, if_pos ⟨hk, kl2⟩, List.drop_left' (by rw [List.length_replicate]), kl1, decI_complete W (keyN x) e hW' he]
      rfl
    rw [textN_cons x W last hx] at hd ⊢
    rw [List.length_append, List.length_cons, List.length_append] at hd
    by_cases h : keyN x = last
    · rw [if_pos h] at hd ⊢
      rw [List.length_singleton] at hd
      obtain ⟨d, rfl⟩ : ∃ e, d = e + 2 := ⟨d - 2, by omega⟩
      rw [List.cons_append, List.nil_append, decI, if_pos rfl]
      exact core d (by omega)
    · rw [if_neg h] at hd ⊢
      rw [List.length_nil] at hd
      obtain ⟨d, rfl⟩ : ∃ e, d = e + 1 := ⟨d - 1, by omega⟩
      rw [List.nil_append]
      exact core d (by omega)
theorem decI_letters : ∀ (d : Nat) (l W : List Int), decI d l = some W → ∀ x ∈ W, 97 ≤ x ∧ x ≤ 122
  | d, [], W, h => by
    have : W = [] := by cases d <;> exact (Option.some.inj h).symm
    subst this
    simp
  | 0, c :: l, W, h => by cases h
  | d + 1, c :: l, W, h => by
    rw [decI] at h
    split at h
    · exact decI_letters d l W h
    · split at h
      · rename_i hc
        obtain ⟨W', hW', e⟩ := Option.map_eq_some_iff.1 h
        subst e
        intro x hx
        rcases List.mem_cons.1 hx with rfl | hx
        · exact (let_key (n := (runL c l : Int) + 1) hc.1 ⟨by omega, hc.2⟩).2.2
        · exact decI_letters d _ W' hW' x hx
      · cases h
theorem textN_signs : ∀ (W : List Int) (last : Int), (∀ x ∈ W, 97 ≤ x ∧ x ≤ 122) → ∀ c ∈ textN W last, c = 32 ∨ (50 ≤ c ∧ c ≤ 57)
  | [], _, _, c, h => by simp [textN] at h
  | x :: W, last, hW, c, h => by
    have hk := keyN_range x
    rw [textN, List.append_assoc, List.mem_append, List.mem_append] at h
    rcases h with h | h | h
    · split at h
      · rw [List.mem_singleton] at h; exact .inl h
      · cases h
    · have := List.eq_of_mem_replicate h; omega
    · exact textN_signs W (keyN x) (fun y hy => hW y (List.mem_cons_of_mem x hy)) c h
theorem run_at (s : ByteArray) (i : Nat) (hi : i < s.size) : (bytesOf s).drop i = bt s i :: (bytesOf s).drop (i + 1) := drop_bytes s i hi
theorem run_le (c : Int) (l : List Int) : runL c l ≤ l.length := by
  unfold runL
  exact List.IsPrefix.length_le (List.takeWhile_prefix _)
theorem runs_in (s : ByteArray) (i : Nat) (hi : i < s.size) : i + 1 + runL (bt s i) ((bytesOf s).drop (i + 1)) ≤ s.size := by
  have h := run_le (bt s i) ((bytesOf s).drop (i + 1))
  rw [List.length_drop, bytesOf_length] at h
  omega
theorem run_last (s : ByteArray) (i : Nat) (hi : i < s.size) : bt s ((i + runL (bt s i) ((bytesOf s).drop (i + 1)) : Nat) : Int) = bt s i := by
  have hin := runs_in s i hi
  obtain ⟨h1, _⟩ := run_split (bt s i) ((bytesOf s).drop (i + 1))
  generalize runL (bt s i) ((bytesOf s).drop (i + 1)) = n at *
  have h2 : (bytesOf s).drop i = List.replicate (n + 1) (bt s i) ++ ((bytesOf s).drop (i + 1)).drop n := by
    rw [run_at s i hi, List.replicate_succ, List.cons_append, ← h1]
  have h3 := congrArg (fun l => l[n]?) h2
  simp only [List.getElem?_drop] at h3
  rw [List.getElem?_append_left (by rw [List.length_replicate]; omega), List.getElem?_replicate, if_pos (by omega)] at h3
  rw [bt_bytes, Int.toNat_natCast, List.getD_eq_getElem?_getD, h3]
  rfl
theorem letters_is {c : Int} (hc : 50 ≤ c ∧ c ≤ 57) : ∃ L, spec_prLetters.f c = some L ∧ (L.size : Int) = capN c ∧ ∀ n : Nat, (n : Int) + 1 ≤ capN c → L.extract n (n + 1) = strOfNums [letN c (n + 1)] := by
  have key : ∀ i : Fin 8, (spec_prLetters.f (50 + (i.val : Int))).map (fun L => (L.size : Int)) = some (capN (50 + (i.val : Int))) ∧ ∀ j : Fin 4, (j.val : Int) + 1 ≤ capN (50 + (i.val : Int)) → (spec_prLetters.f (50 + (i.val : Int))).map (fun L => (L.extract j.val (j.val + 1)).data.toList) = some ((strOfNums [letN (50 + (i.val : Int)) ((j.val : Int) + 1)]).data.toList) := by decide +kernel
  have h := key ⟨(c - 50).toNat, by omega⟩
  rw [show (50 : Int) + (((c - 50).toNat : Nat) : Int) = c by omega] at h
  obtain ⟨h1, h2⟩ := h
  obtain ⟨L, hL, hs⟩ := Option.map_eq_some_iff.1 h1
  refine ⟨L, hL, hs, fun n hn => ?_⟩
  have h4 : capN c ≤ 4 := by unfold capN; split <;> omega
  have h3 := h2 ⟨n, by omega⟩ hn
  rw [hL] at h3
  have h5 := Option.some.inj h3
  exact bytes_ext (by unfold bytesOf; rw [show (L.extract n (n + 1)).data.toList = _ from h5])
theorem letters_not {c : Int} (hc : ¬ (50 ≤ c ∧ c ≤ 57)) : spec_prLetters.f c = some (⟨#[]⟩ : ByteArray) := by
  unfold spec_prLetters.f
  rw [if_neg (by omega), if_neg (by omega), if_neg (by omega), if_neg (by omega), if_neg (by omega), if_neg (by omega), if_neg (by omega), if_neg (by omega)]
theorem group_is {c : Int} (hc : 50 ≤ c ∧ c ≤ 57) : ∃ L, impl_group.f c = some L ∧ (L.size : Int) = capN c ∧ ∀ n : Nat, (n : Int) + 1 ≤ capN c → bt L n = letN c (n + 1) := by
  have key : ∀ i : Fin 8, (impl_group.f (50 + (i.val : Int))).map (fun L => (L.size : Int)) = some (capN (50 + (i.val : Int))) ∧ ∀ j : Fin 4, (j.val : Int) + 1 ≤ capN (50 + (i.val : Int)) → (impl_group.f (50 + (i.val : Int))).map (fun L => bt L (j.val : Int)) = some (letN (50 + (i.val : Int)) ((j.val : Int) + 1)) := by decide +kernel
  have h := key ⟨(c - 50).toNat, by omega⟩
  rw [show (50 : Int) + (((c - 50).toNat : Nat) : Int) = c by omega] at h
  obtain ⟨h1, h2⟩ := h
  obtain ⟨L, hL, hs⟩ := Option.map_eq_some_iff.1 h1
  refine ⟨L, hL, hs, fun n hn => ?_⟩
  have h4 : capN c ≤ 4 := by unfold capN; split <;> omega
  have h3 := h2 ⟨n, by omega⟩ hn
  rw [hL] at h3
  exact Option.some.inj h3
theorem prRead_l1 (s x : ByteArray) (hs : s.size ≤ 1000) (i : Nat) (hi : i < s.size) (r : ByteArray × Bool) : ∀ (d j : Nat), j + d = s.size → i ≤ j →
    Ev (fun k => spec_prRead.j2 k s x i ((j + runL (bt s i) ((bytesOf s).drop j) : Nat) : Int)) r → Ev (fun k => spec_prRead.l1 k s x i j) r
  | 0, j, hj, hij, h => by
    obtain rfl : j = s.size := by omega
    rw [drop_end] at h
    obtain ⟨K, e⟩ := h
    refine ev_from K fun k hk => ?_
    have e := e k hk
    dsimp only [runL, List.takeWhile_nil, List.length_nil, Nat.add_zero] at e
    simp only [spec_prRead.l1]
    rw [if_neg (by omega), e]
  | d + 1, j, hj, hij, h => by
    rw [drop_bytes s j (by omega)] at h
    by_cases hc : bt s j = bt s i
    · have er : runL (bt s i) (bt s j :: (bytesOf s).drop (j + 1)) = runL (bt s i) ((bytesOf s).drop (j + 1)) + 1 := by
        unfold runL
        rw [List.takeWhile_cons, hc, beq_self_eq_true, if_pos rfl, List.length_cons]
      rw [er, show j + (runL (bt s i) ((bytesOf s).drop (j + 1)) + 1) = j + 1 + runL (bt s i) ((bytesOf s).drop (j + 1)) by omega] at h
      obtain ⟨K, e⟩ := prRead_l1 s x hs i hi r d (j + 1) (by omega) (by omega) h
      refine ev_from K fun k hk => ?_
      have e := e k hk
      rw [show ((j + 1 : Nat) : Int) = (j : Int) + 1 from rfl] at e
      dsimp only at e
      simp only [spec_prRead.l1]
      rw [if_pos (by omega), if_pos (by omega), if_pos (by omega), if_pos (by omega), if_pos hc, wr (by omega) (by omega), e]
    · have hb : (bt s j == bt s i) = false := beq_eq_false_iff_ne.2 hc
      have er : runL (bt s i) (bt s j :: (bytesOf s).drop (j + 1)) = 0 := by
        unfold runL
        rw [List.takeWhile_cons, hb]
        rfl
      rw [er, Nat.add_zero] at h
      obtain ⟨K, e⟩ := h
      refine ev_from K fun k hk => ?_
      have e := e k hk
      dsimp only at e
      simp only [spec_prRead.l1]
      rw [if_pos (by omega), if_pos (by omega), if_pos (by omega), if_pos (by omega), if_neg hc, e]
def finS (A : List Int) : Option (List Int) → ByteArray × Bool
  | some W => (strOfNums (A ++ W), wordB (strOfNums (A ++ W)))
  | none => ((⟨#[]⟩ : ByteArray), false)
theorem finS_map (A : List Int) (x : Int) (o : Option (List Int)) : finS A (o.map (x :: ·)) = finS (A ++ [x]) o := by
  cases o with
  | none => rfl
  | some W => simp [finS]
theorem prRead_l0 (s : ByteArray) (hs : s.size ≤ 1000) : ∀ (d i : Nat) (A : List Int), i ≤ s.size → s.size ≤ i + d → A.length ≤ i → Ev (fun k => spec_prRead.l0 k s (strOfNums A) i) (finS A (decS d ((bytesOf s).drop i)))
  | d, i, A, hi, hd, hA => by
    by_cases hlt : i < s.size
    · obtain ⟨d, rfl⟩ : ∃ e, d = e + 1 := ⟨d - 1, by omega⟩
      have hin := runs_in s i hlt
      have hlast := run_last s i hlt
      have hl1 := prRead_l1 s (strOfNums A) hs i hlt (finS A (decS (d + 1) ((bytesOf s).drop i))) (s.size - i) i (by omega) (Nat.le_refl _)
      rw [drop_bytes s i hlt] at hl1 ⊢
      have er : runL (bt s i) (bt s i :: (bytesOf s).drop (i + 1)) = runL (bt s i) ((bytesOf s).drop (i + 1)) + 1 := by
        unfold runL
        rw [List.takeWhile_cons, beq_self_eq_true, if_pos rfl, List.length_cons]
      rw [er] at hl1
      rw [decS] at hl1 ⊢
      rw [List.drop_drop] at hl1 ⊢
      generalize runL (bt s i) ((bytesOf s).drop (i + 1)) = n at *
      suffices hj2 : Ev (fun k => spec_prRead.j2 k s (strOfNums A) i ((i + (n + 1) : Nat) : Int)) _ by
        obtain ⟨K, e⟩ := hl1 hj2
        refine ev_from K fun k hk => ?_
        have e := e k hk
        dsimp only at e
        simp only [spec_prRead.l0]
        rw [if_pos (by omega), e]
      clear hl1
      have hw1 : wrap64 (((i + (n + 1) : Nat) : Int) - (i : Int)) = (n : Int) + 1 := by rw [wr (by omega) (by omega)]; omega
      have hw2 : wrap64 ((n : Int) + 1 - 1) = (n : Int) := by rw [wr (by omega) (by omega)]; omega
      by_cases hc : 50 ≤ bt s i ∧ bt s i ≤ 57
      · obtain ⟨L, hL, hLs, hLe⟩ := letters_is hc
        by_cases hn : (n : Int) + 1 ≤ capN (bt s i)
        · rw [if_pos ⟨hc, hn⟩]
          have hex := hLe n hn
          have hsz : (strOfNums A).size + (strOfNums [letN (bt s i) ((n : Int) + 1)]).size ≤ 9223372036854775807 := by rw [size_nums, size_nums, List.length_singleton]; omega
          by_cases hend : i + (n + 1) < s.size
          · rw [show i + 1 + n = i + (n + 1) by omega, drop_bytes s (i + (n + 1)) hend]
            dsimp only
            by_cases h32 : bt s (i + (n + 1) : Nat) = 32
            · rw [if_pos h32]
              by_cases hl : i + (n + 1) + 1 = s.size
              · rw [show (bytesOf s).drop (i + (n + 1) + 1) = [] by rw [hl, drop_end]]
                refine ev_from 1 fun k hk => ?_
                obtain ⟨k, rfl⟩ : ∃ m, k = m + 1 := ⟨k - 1, by omega⟩
                simp only [spec_prRead.j2]
                rw [if_pos (by omega), if_pos (by omega), hL, bsome, hw1, if_neg (by omega), hw2, if_pos (by omega), if_pos (by omega), if_pos (by omega), Int.toNat_natCast, show ((n : Int) + 1).toNat = n + 1 by omega, hex, if_pos hsz, if_pos (by omega), if_pos (by omega), h32]
                simp only [spec_prRead.j3]
                rw [if_pos (by rfl), wr (by omega) (by omega), if_pos (by omega)]
                rfl
              · rw [drop_bytes s (i + (n + 1) + 1) (by omega)]
                dsimp only
                by_cases hy : bt s (i + (n + 1) + 1 : Nat) = bt s i
                · rw [if_pos hy, finS_map]
                  obtain ⟨K, ih⟩ := prRead_l0 s hs d (i + (n + 1) + 1) (A ++ [letN (bt s i) ((n : Int) + 1)]) (by omega) (by omega) (by rw [List.length_append, List.length_singleton]; omega)
                  rw [drop_bytes s (i + (n + 1) + 1) (by omega)] at ih
                  refine ev_from (K + 1) fun k hk => ?_
                  obtain ⟨k, rfl⟩ : ∃ m, k = m + 1 := ⟨k - 1, by omega⟩
                  have e := ih k (by omega)
                  dsimp only at e
                  simp only [spec_prRead.j2]
                  rw [if_pos (by omega), if_pos (by omega), hL, bsome, hw1, if_neg (by omega), hw2, if_pos (by omega), if_pos (by omega), if_pos (by omega), Int.toNat_natCast, show ((n : Int) + 1).toNat = n + 1 by omega, hex, if_pos hsz, if_pos (by omega), if_pos (by omega), h32]
                  simp only [spec_prRead.j3]
                  rw [if_pos (by rfl), wr (x := ((i + (n + 1) : Nat) : Int) + 1) (by omega) (by omega), if_neg (by omega), if_pos (by omega), if_pos (by omega), wr (x := ((i + (n + 1) : Nat) : Int) + 1 - 2) (by omega) (by omega), if_pos (by omega), if_pos (by omega),
                    show ((i + (n + 1) : Nat) : Int) + 1 - 2 = ((i + n : Nat) : Int) by omega, hlast, show ((i + (n + 1) : Nat) : Int) + 1 = ((i + (n + 1) + 1 : Nat) : Int) by omega, if_pos hy, ← numsApp, e]
                · rw [if_neg hy]
                  refine ev_from 1 fun k hk => ?_
                  obtain ⟨k, rfl⟩ : ∃ m, k = m + 1 := ⟨k - 1, by omega⟩
                  simp only [spec_prRead.j2]
                  rw [if_pos (by omega), if_pos (by omega), hL, bsome, hw1, if_neg (by omega), hw2, if_pos (by omega), if_pos (by omega), if_pos (by omega), Int.toNat_natCast, show ((n : Int) + 1).toNat = n + 1 by omega, hex, if_pos hsz, if_pos (by omega), if_pos (by omega), h32]
                  simp only [spec_prRead.j3]
                  rw [if_pos (by rfl), wr (x := ((i + (n + 1) : Nat) : Int) + 1) (by omega) (by omega), if_neg (by omega), if_pos (by omega), if_pos (by omega), wr (x := ((i + (n + 1) : Nat) : Int) + 1 - 2) (by omega) (by omega), if_pos (by omega), if_pos (by omega),
                    show ((i + (n + 1) : Nat) : Int) + 1 - 2 = ((i + n : Nat) : Int) by omega, hlast, show ((i + (n + 1) : Nat) : Int) + 1 = ((i + (n + 1) + 1 : Nat) : Int) by omega, if_neg hy]
                  rfl
            · rw [if_neg h32, finS_map]
              obtain ⟨K, ih⟩ := prRead_l0 s hs d (i + (n + 1)) (A ++ [letN (bt s i) ((n : Int) + 1)]) (by omega) (by omega) (by rw [List.length_append, List.length_singleton]; omega)
              rw [drop_bytes s (i + (n + 1)) (by omega)] at ih
              have hb : (bt s (i + (n + 1) : Nat) == 32) = false := beq_eq_false_iff_ne.2 h32
              refine ev_from (K + 1) fun k hk => ?_
              obtain ⟨k, rfl⟩ : ∃ m, k = m + 1 := ⟨k - 1, by omega⟩
              have e := ih k (by omega)
              dsimp only at e
              simp only [spec_prRead.j2]
              rw [if_pos (by omega), if_pos (by omega), hL, bsome, hw1, if_neg (by omega), hw2, if_pos (by omega), if_pos (by omega), if_pos (by omega), Int.toNat_natCast, show ((n : Int) + 1).toNat = n + 1 by omega, hex, if_pos hsz, if_pos (by omega), if_pos (by omega), hb]
              simp only [spec_prRead.j3]
              rw [if_neg (by simp), ← numsApp, e]
          · have hnil : (bytesOf s).drop (i + 1 + n) = [] := by rw [show i + 1 + n = s.size by omega, drop_end]
            rw [hnil]
            dsimp only
            obtain ⟨K, ih⟩ := prRead_l0 s hs d (i + (n + 1)) (A ++ [letN (bt s i) ((n : Int) + 1)]) (by omega) (by omega) (by rw [List.length_append, List.length_singleton]; omega)
            rw [show (bytesOf s).drop (i + (n + 1)) = [] by rw [show i + (n + 1) = s.size by omega, drop_end]] at ih
            have hdn : decS d ([] : List Int) = some [] := by cases d <;> rfl
            rw [hdn] at ih
            refine ev_from (K + 1) fun k hk => ?_
            obtain ⟨k, rfl⟩ : ∃ m, k = m + 1 := ⟨k - 1, by omega⟩
            have e := ih k (by omega)
            dsimp only at e
            simp only [spec_prRead.j2]
            rw [if_pos (by omega), if_pos (by omega), hL, bsome, hw1, if_neg (by omega), hw2, if_pos (by omega), if_pos (by omega), if_pos (by omega), Int.toNat_natCast, show ((n : Int) + 1).toNat = n + 1 by omega, hex, if_pos hsz, if_neg (by omega)]
            simp only [spec_prRead.j3]
            rw [if_neg (by simp), ← numsApp, e]
            simp [finS]
        · rw [if_neg (fun h => hn h.2)]
          refine ev_from 0 fun k _ => ?_
          simp only [spec_prRead.j2]
          rw [if_pos (by omega), if_pos (by omega), hL, bsome, hw1, if_pos (by omega)]
          rfl
      · rw [if_neg (fun h => hc h.1)]
        refine ev_from 0 fun k _ => ?_
        simp only [spec_prRead.j2]
        rw [if_pos (by omega), if_pos (by omega), letters_not hc, bsome, hw1, if_pos (by show (n : Int) + 1 > ((0 : Nat) : Int); omega)]
        rfl
    · obtain rfl : i = s.size := by omega
      rw [drop_end]
      have hdn : decS d ([] : List Int) = some [] := by cases d <;> rfl
      rw [hdn]
      obtain ⟨K, e⟩ := prWord_ev (strOfNums A) (by rw [size_nums]; omega)
      refine ev_from K fun k hk => ?_
      have e := e k hk
      dsimp only at e
      simp only [spec_prRead.l0]
      rw [if_neg (by omega), e, bsome]
      simp [finS]
termination_by d => d
def finI (s : ByteArray) (A : List Int) : Option (List Int) → ByteArray × Bool
  | some W => if wordB (strOfNums (A ++ W)) = true ∧ textN (A ++ W) 0 = bytesOf s then (strOfNums (A ++ W), true) else ((⟨#[]⟩ : ByteArray), false)
  | none => ((⟨#[]⟩ : ByteArray), false)
theorem finI_map (s : ByteArray) (A : List Int) (x : Int) (o : Option (List Int)) : finI s A (o.map (x :: ·)) = finI s (A ++ [x]) o := by
  cases o with
  | none => rfl
  | some W => simp [finI]
def stepI (s : ByteArray) (A : List Int) (k : Nat) (i m : Int) : Option (ByteArray × Bool) :=
  (impl_group.f (bt s i)).bind fun t161 => (if m > (t161.size : Int) then (some ((⟨#[]⟩ : ByteArray), false)) else (if 0 ≤ (wrap64 (m - 1)) then (if (wrap64 (m - 1)) < (t161.size : Int) then (if A.length < 140737488355328 then (impl_ReadPresses.l0 k s (A ++ [bt t161 (wrap64 (m - 1))]) (wrap64 (i + m))) else (none)) else (none)) else (none)))
theorem readI_l1 (s : ByteArray) (A : List Int) (hs : s.size ≤ 1000) (i : Nat) (hi : i < s.size) (r : ByteArray × Bool) : ∀ (d m : Nat), i + m + d = s.size → 1 ≤ m →
    Ev (fun k => stepI s A k i ((m + runL (bt s i) ((bytesOf s).drop (i + m)) : Nat) : Int)) r → Ev (fun k => impl_ReadPresses.l1 k s A i m) r
  | 0, m, hm, h1, h => by
    rw [show i + m = s.size by omega, drop_end] at h
    obtain ⟨K, e⟩ := h
    refine ev_from K fun k hk => ?_
    have e := e k hk
    dsimp only [runL, List.takeWhile_nil, List.length_nil, Nat.add_zero, stepI] at e
    simp only [impl_ReadPresses.l1]
    rw [wr (x := (i : Int) + (m : Int)) (by omega) (by omega), if_neg (by omega), if_pos (by omega), if_pos (by omega)]
    rw [wr (x := (i : Int) + (m : Int)) (by omega) (by omega)] at e
    exact e
  | d + 1, m, hm, h1, h => by
    rw [drop_bytes s (i + m) (by omega)] at h
    by_cases hc : bt s (i + m : Nat) = bt s i
    · have er : runL (bt s i) (bt s (i + m : Nat) :: (bytesOf s).drop (i + m + 1)) = runL (bt s i) ((bytesOf s).drop (i + m + 1)) + 1 := by
        unfold runL
        rw [List.takeWhile_cons, hc, beq_self_eq_true, if_pos rfl, List.length_cons]
      rw [er, show m + (runL (bt s i) ((bytesOf s).drop (i + m + 1)) + 1) = m + 1 + runL (bt s i) ((bytesOf s).drop (i + (m + 1))) by rw [Nat.add_assoc i m 1]; omega] at h
      obtain ⟨K, e⟩ := readI_l1 s A hs i hi r d (m + 1) (by omega) (by omega) h
      refine ev_from K fun k hk => ?_
      have e := e k hk
      rw [show ((m + 1 : Nat) : Int) = (m : Int) + 1 from rfl] at e
      dsimp only at e
      simp only [impl_ReadPresses.l1]
      rw [wr (x := (i : Int) + (m : Int)) (by omega) (by omega), if_pos (by omega), if_pos (by omega), if_pos (by omega), if_pos (by omega), show (i : Int) + (m : Int) = ((i + m : Nat) : Int) by omega, if_pos hc, wr (by omega) (by omega), e]
    · have hb : (bt s (i + m : Nat) == bt s i) = false := beq_eq_false_iff_ne.2 hc
      have er : runL (bt s i) (bt s (i + m : Nat) :: (bytesOf s).drop (i + m + 1)) = 0 := by
        unfold runL
        rw [List.takeWhile_cons, hb]
        rfl
      rw [er, Nat.add_zero] at h
      obtain ⟨K, e⟩ := h
      refine ev_from K fun k hk => ?_
      have e := e k hk
      dsimp only [stepI] at e
      simp only [impl_ReadPresses.l1]
      rw [wr (x := (i : Int) + (m : Int)) (by omega) (by omega), if_pos (by omega), if_pos (by omega), if_pos (by omega), if_pos (by omega), show (i : Int) + (m : Int) = ((i + m : Nat) : Int) by omega, if_neg hc]
      rw [wr (x := (i : Int) + (m : Int)) (by omega) (by omega), show (i : Int) + (m : Int) = ((i + m : Nat) : Int) by omega] at e
      exact e
theorem readI_l0 (s : ByteArray) (hs : s.size ≤ 200) (hall : ∀ c ∈ bytesOf s, c = 32 ∨ (50 ≤ c ∧ c ≤ 57)) : ∀ (d i : Nat) (A : List Int), i ≤ s.size → s.size ≤ i + d → A.length ≤ i → (∀ x ∈ A, 97 ≤ x ∧ x ≤ 122) →
    Ev (fun k => impl_ReadPresses.l0 k s A i) (finI s A (decI d ((bytesOf s).drop i)))
  | d, i, A, hi, hd, hA, hAl => by
    by_cases hlt : i < s.size
    · obtain ⟨d, rfl⟩ : ∃ e, d = e + 1 := ⟨d - 1, by omega⟩
      have hin := runs_in s i hlt
      have hcc := hall _ (bt_mem s i hlt)
      rw [drop_bytes s i hlt, decI]
      by_cases h32 : bt s i = 32
      · rw [if_pos h32]
        obtain ⟨K, ih⟩ := readI_l0 s hs hall d (i + 1) A (by omega) (by omega) (by omega) hAl
        refine ev_from K fun k hk => ?_
        have e := ih k hk
        rw [show ((i + 1 : Nat) : Int) = (i : Int) + 1 from rfl] at e
        dsimp only at e
        simp only [impl_ReadPresses.l0]
        rw [if_pos (by omega), if_pos (by omega), if_pos h32, wr (by omega) (by omega), e]
      · rw [if_neg h32]
        have hc : 50 ≤ bt s i ∧ bt s i ≤ 57 := by omega
        obtain ⟨L, hL, hLs, hLe⟩ := group_is hc
        have hl1 := readI_l1 s A (by omega) i hlt (finI s A (if (50 ≤ bt s i ∧ bt s i ≤ 57) ∧ (runL (bt s i) ((bytesOf s).drop (i + 1)) : Int) + 1 ≤ capN (bt s i) then (decI d (((bytesOf s).drop (i + 1)).drop (runL (bt s i) ((bytesOf s).drop (i + 1))))).map (letN (bt s i) (runL (bt s i) ((bytesOf s).drop (i + 1)) + 1) :: ·) else none)) (s.size - (i + 1)) 1 (by omega) (Nat.le_refl _)
        generalize runL (bt s i) ((bytesOf s).drop (i + 1)) = n at *
        rw [List.drop_drop] at hl1 ⊢
        suffices hst : Ev (fun k => stepI s A k i ((1 + n : Nat) : Int)) _ by
          obtain ⟨K, e⟩ := hl1 hst
          refine ev_from K fun k hk => ?_
          have e := e k hk
          dsimp only at e
          simp only [impl_ReadPresses.l0]
          rw [if_pos (by omega), if_pos (by omega), if_neg h32]
          exact e
        clear hl1
        have hw1 : wrap64 (((1 + n : Nat) : Int) - 1) = (n : Int) := by rw [wr (by omega) (by omega)]; omega
        by_cases hn : (n : Int) + 1 ≤ capN (bt s i)
        · rw [if_pos ⟨hc, hn⟩, finI_map]
          have hlk := let_key hc (n := (n : Int) + 1) ⟨by omega, hn⟩
          obtain ⟨K, ih⟩ := readI_l0 s hs hall d (i + (1 + n)) (A ++ [letN (bt s i) ((n : Int) + 1)]) (by omega) (by omega) (by rw [List.length_append, List.length_singleton]; omega)
            (fun x hx => by
              rcases List.mem_append.1 hx with hx | hx
              · exact hAl x hx
              · rw [List.mem_singleton] at hx; rw [hx]; exact hlk.2.2)
          rw [show i + 1 + n = i + (1 + n) by omega]
          refine ⟨K, fun k hk => ?_⟩
          have e := ih k hk
          dsimp only [stepI] at e ⊢
          rw [hL, bsome, if_neg (by omega), hw1, if_pos (by omega), if_pos (by omega), if_pos (by omega), hLe n hn, wr (by omega) (by omega), show (i : Int) + ((1 + n : Nat) : Int) = ((i + (1 + n) : Nat) : Int) by omega, e]
        · rw [if_neg (fun h => hn h.2)]
          refine ⟨0, fun k _ => ?_⟩
          dsimp only [stepI]
          rw [hL, bsome, if_pos (by omega)]
          rfl
    · obtain rfl : i = s.size := by omega
      rw [drop_end]
      have hdn : decI d ([] : List Int) = some [] := by cases d <;> rfl
      rw [hdn]
      have hb : bytesOf (strOfNums A) = A := bytes_nums fun x hx => by have := hAl x hx; omega
      obtain ⟨K, e⟩ := pressText_ev (strOfNums A) (by rw [size_nums]; omega) (by rw [hb]; exact hAl)
      have hw := isWord_is (strOfNums A) (by rw [size_nums]; omega)
      have hp : pressS (strOfNums A) = strOfNums (textN A 0) := by unfold pressS; rw [hb]
      refine ev_from K fun k hk => ?_
      have e := e k hk
      dsimp only at e
      simp only [impl_ReadPresses.l0]
      rw [if_neg (by omega), hw, bsome]
      unfold finI
      dsimp only
      rw [List.append_nil]
      cases hwb : wordB (strOfNums A) with
      | false => rw [if_neg (by simp), if_neg (by simp)]
      | true =>
        rw [if_pos rfl, e, bsome, hp]
        by_cases ht : textN A 0 = bytesOf s
        · rw [ht, nums_bytes, if_pos rfl, if_pos ⟨rfl, rfl⟩]
        · have hno : ¬ (strOfNums (textN A 0)).toList = s.toList := fun h => ht (by
            have h2 := toList_bytes.1 h
            rw [← h2, bytes_nums (textN_range A 0)])
          have hno2 : ¬ (true = true ∧ textN A 0 = bytesOf s) := fun h => ht h.2
          rw [if_neg hno, if_neg hno2]
termination_by d => d
theorem finS_ok (o : Option (List Int)) : (if (finS [] o).2 = true then (some ((finS [] o).1, true)) else (some ((⟨#[]⟩ : ByteArray), false)) : Option (ByteArray × Bool)) = some (if (finS [] o).2 = true then ((finS [] o).1, true) else ((⟨#[]⟩ : ByteArray), false)) := by split <;> rfl
def readU (s : ByteArray) : ByteArray × Bool := if s.size ≤ 200 then (if (finS [] (decS s.size (bytesOf s))).2 = true then ((finS [] (decS s.size (bytesOf s))).1, true) else ((⟨#[]⟩ : ByteArray), false)) else ((⟨#[]⟩ : ByteArray), false)
theorem readS_ev (s : ByteArray) : Ev (fun k => spec_ReadPresses.f k s) (readU s) := by
  unfold readU
  by_cases hz : s.size ≤ 200
  · obtain ⟨K, e⟩ := prRead_l0 s (by omega) s.size 0 [] (by omega) (by omega) (by simp)
    rw [if_pos hz]
    refine ⟨K, fun k hk => ?_⟩
    have e := e k hk
    rw [List.drop_zero] at e
    dsimp only at e ⊢
    unfold spec_ReadPresses.f spec_prRead.f
    rw [if_neg (by omega)]
    rw [show (⟨#[]⟩ : ByteArray) = strOfNums [] from rfl, show (0 : Int) = ((0 : Nat) : Int) from rfl, e, bsome]
    exact finS_ok _
  · rw [if_neg hz]
    refine ⟨0, fun k _ => ?_⟩
    dsimp only
    unfold spec_ReadPresses.f
    rw [if_pos (by omega)]
def isSign (c : Int) : Bool := (decide (50 ≤ c) && decide (c ≤ 57)) || c == 32
theorem isSign_iff {c : Int} : isSign c = true ↔ c = 32 ∨ (50 ≤ c ∧ c ≤ 57) := by
  unfold isSign
  simp only [Bool.or_eq_true, Bool.and_eq_true, decide_eq_true_eq, beq_iff_eq]
  omega
theorem sign_contains (b : UInt8) : (⟨#[50, 51, 52, 53, 54, 55, 56, 57, 32]⟩ : ByteArray).data.toList.contains b = isSign b.toNat := by
  have key : ∀ n : Fin 256, (⟨#[50, 51, 52, 53, 54, 55, 56, 57, 32]⟩ : ByteArray).data.toList.contains (UInt8.ofNat n.val) = isSign (UInt8.ofNat n.val).toNat := by decide +kernel
  have := key ⟨b.toNat, b.toNat_lt⟩
  simpa using this
theorem read_same (s : ByteArray) (hall : ∀ c ∈ bytesOf s, c = 32 ∨ (50 ≤ c ∧ c ≤ 57)) : finI s [] (decI s.size (bytesOf s)) = if (finS [] (decS s.size (bytesOf s))).2 = true then ((finS [] (decS s.size (bytesOf s))).1, true) else ((⟨#[]⟩ : ByteArray), false) := by
  have hlen : (bytesOf s).length ≤ s.size := by rw [bytesOf_length]; exact Nat.le_refl _
  cases hS : decS s.size (bytesOf s) with
  | none =>
    rw [show finS [] (none : Option (List Int)) = ((⟨#[]⟩ : ByteArray), false) from rfl, if_neg (by simp)]
    cases hI : decI s.size (bytesOf s) with
    | none => rfl
    | some W =>
      unfold finI
      dsimp only
      rw [List.nil_append]
      split
      · rename_i h
        exfalso
        have hW : ∀ x ∈ W, 97 ≤ x ∧ x ≤ 122 := decI_letters _ _ _ hI
        have := decS_complete W s.size hW (by rw [h.2]; exact hlen)
        rw [h.2, hS] at this
        cases this
      · rfl
  | some W =>
    obtain ⟨h1, h2⟩ := decS_sound _ _ _ hS
    have hI := decI_complete W 0 s.size h2 (by rw [← h1]; exact hlen)
    rw [← h1] at hI
    rw [hI]
    have f1 : finI s [] (some W) = if wordB (strOfNums W) = true ∧ textN W 0 = bytesOf s then (strOfNums W, true) else ((⟨#[]⟩ : ByteArray), false) := rfl
    have f2 : finS [] (some W) = (strOfNums W, wordB (strOfNums W)) := rfl
    rw [f1, f2]
    cases hw : wordB (strOfNums W) with
    | false => rw [if_neg (by simp), if_neg (by simp)]
    | true => rw [if_pos ⟨rfl, h1.symm⟩, if_pos rfl]
theorem readI_ev (s : ByteArray) (hs : s.size ≤ 140737488351232) : Ev (fun k => impl_ReadPresses.f k s) (readU s) := by
  unfold readU
  by_cases hz : s.size ≤ 200
  · rw [if_pos hz]
    have ho := over_is s (⟨#[50, 51, 52, 53, 54, 55, 56, 57, 32]⟩ : ByteArray) (by omega) (by decide) (by decide) isSign sign_contains
    cases hA : (bytesOf s).all isSign with
    | true =>
      have hall : ∀ c ∈ bytesOf s, c = 32 ∨ (50 ≤ c ∧ c ≤ 57) := fun c hc => isSign_iff.1 (List.all_eq_true.1 hA c hc)
      obtain ⟨K, e⟩ := readI_l0 s hz hall s.size 0 [] (by omega) (by omega) (by simp) (by simp)
      rw [List.drop_zero, read_same s hall] at e
      refine ⟨K + 1, fun k hk => ?_⟩
      obtain ⟨k, rfl⟩ : ∃ m, k = m + 1 := ⟨k - 1, by omega⟩
      have e := e k (by omega)
      dsimp only at e ⊢
      unfold impl_ReadPresses.f
      rw [if_neg (by omega), ho, hA, bsome]
      simp only [impl_ReadPresses.j0, Bool.not_true]
      rw [if_neg (by simp)]
      exact e
    | false =>
      have hno : (finS [] (decS s.size (bytesOf s))).2 = false := by
        cases hS : decS s.size (bytesOf s) with
        | none => rfl
        | some W =>
          obtain ⟨h1, h2⟩ := decS_sound _ _ _ hS
          exfalso
          have : (bytesOf s).all isSign = true := by
            rw [h1]
            exact List.all_eq_true.2 fun c hc => isSign_iff.2 (textN_signs W 0 h2 c hc)
          rw [hA] at this
          cases this
      refine ⟨1, fun k hk => ?_⟩
      obtain ⟨k, rfl⟩ : ∃ m, k = m + 1 := ⟨k - 1, by omega⟩
      dsimp only
      unfold impl_ReadPresses.f
      rw [if_neg (by omega), ho, hA, bsome, hno]
      simp [impl_ReadPresses.j0]
  · rw [if_neg hz]
    refine ⟨1, fun k hk => ?_⟩
    obtain ⟨k, rfl⟩ : ∃ m, k = m + 1 := ⟨k - 1, by omega⟩
    dsimp only
    unfold impl_ReadPresses.f
    rw [if_pos (by omega)]
    simp [impl_ReadPresses.j0]
end Go.Proofs.YtmbnchgfjijobaaGreatDoor.Pu
end

section
namespace Go.Proofs.YtmbnchgfjijobaaGreatDoor.Pu
open Go.RowKit Go.Proofs.YtmbnchgfjijobaaGreatDoor.P Go.Proofs.YtmbnchgfjijobaaGreatDoorW.PrintWords Go.Proofs.YtmbnchgfjijobaaGreatDoorW.PrintLast Go.Proofs.YtmbnchgfjijobaaGreatDoorW.PrintMore
def keysN (s : ByteArray) : ByteArray := strOfNums ((bytesOf s).map keyN)
theorem keysN_bytes (s : ByteArray) : bytesOf (keysN s) = (bytesOf s).map keyN := by
  refine bytes_nums fun c hc => ?_
  obtain ⟨b, _, rfl⟩ := List.mem_map.1 hc
  have := keyN_range b
  omega
theorem keysN_size (s : ByteArray) : (keysN s).size = s.size := by rw [keysN, size_nums, List.length_map, bytesOf_length]
theorem keysOf_l0 (s : ByteArray) (hs : s.size ≤ 1000000) (hl : ∀ c ∈ bytesOf s, 97 ≤ c ∧ c ≤ 122) : ∀ (d i : Nat) (A : List Int), i + d = s.size → A.length ≤ i →
    Ev (fun k => impl_keysOf.l0 k s A s.size i) (strOfNums (A ++ ((bytesOf s).drop i).map keyN))
  | 0, i, A, h, hA => by
    obtain rfl : i = s.size := by omega
    rw [drop_end]
    refine ev_from 0 fun k _ => ?_
    simp only [impl_keysOf.l0]
    rw [if_neg (by omega)]
    simp
  | d + 1, i, A, h, hA => by
    obtain ⟨K, ih⟩ := keysOf_l0 s hs hl d (i + 1) (A ++ [keyN (bt s i)]) (by omega) (by simp; omega)
    obtain ⟨K', ek⟩ := keyOf_ev (bt s i) (hl _ (bt_mem s i (by omega)))
    rw [drop_bytes s i (by omega)]
    refine ev_from (K + K') fun k hk => ?_
    have e := ih k (by omega)
    have e' := ek k (by omega)
    rw [show ((i + 1 : Nat) : Int) = (i : Int) + 1 from rfl] at e
    dsimp only at e e'
    simp only [impl_keysOf.l0]
    rw [if_pos (by omega), if_pos (by omega), if_pos (by omega), e']
    simp only [bsome]
    rw [if_pos (by omega), wr (by omega) (by omega), e]
    simp
theorem keysOf_ev (s : ByteArray) (hs : s.size ≤ 1000000) (hl : ∀ c ∈ bytesOf s, 97 ≤ c ∧ c ≤ 122) : Ev (fun k => impl_keysOf.f k s) (keysN s) := by
  obtain ⟨K, e⟩ := keysOf_l0 s hs hl s.size 0 [] (by omega) (by simp)
  exact ⟨K, fun k hk => by have e := e k hk; dsimp only at e; unfold impl_keysOf.f; simpa [keysN] using e⟩
theorem prKeys_l0 (s : ByteArray) (hs : s.size ≤ 1000000) (hl : ∀ c ∈ bytesOf s, 97 ≤ c ∧ c ≤ 122) : ∀ (d i : Nat) (A : List Int), i + d = s.size → A.length ≤ i →
    Ev (fun k => spec_prKeys.l0 k s (strOfNums A) i) (strOfNums (A ++ ((bytesOf s).drop i).map keyN))
  | 0, i, A, h, hA => by
    obtain rfl : i = s.size := by omega
    rw [drop_end]
    refine ev_from 0 fun k _ => ?_
    simp only [spec_prKeys.l0]
    rw [if_neg (by omega)]
    simp
  | d + 1, i, A, h, hA => by
    obtain ⟨K, ih⟩ := prKeys_l0 s hs hl d (i + 1) (A ++ [keyN (bt s i)]) (by omega) (by simp; omega)
    obtain ⟨K', ek⟩ := prKey_ev (bt s i) (hl _ (bt_mem s i (by omega)))
    have hk := keyN_range (bt s i)
    rw [drop_bytes s i (by omega)]
    refine ev_from (K + K') fun k hk' => ?_
    have e := ih k (by omega)
    have e' := ek k (by omega)
    rw [show ((i + 1 : Nat) : Int) = (i : Int) + 1 from rfl] at e
    dsimp only at e e'
    simp only [spec_prKeys.l0]
    rw [if_pos (by omega), if_pos (by omega), e']
    simp only [bsome]
    rw [wr32 (by omega) (by omega), encode_small (by omega) (by omega), if_pos (by rw [size_nums, size_nums]; simp; omega), wr (by omega) (by omega), ← numsApp, e]
    simp
theorem prKeys_ev (s : ByteArray) (hs : s.size ≤ 1000000) (hl : ∀ c ∈ bytesOf s, 97 ≤ c ∧ c ≤ 122) : Ev (fun k => spec_prKeys.f k s) (keysN s) := by
  obtain ⟨K, e⟩ := prKeys_l0 s hs hl s.size 0 [] (by omega) (by simp)
  exact ⟨K, fun k hk => by have e := e k hk; dsimp only at e; unfold spec_prKeys.f; rw [show strOfNums [] = (⟨#[]⟩ : ByteArray) from rfl] at e; simpa [keysN] using e⟩
end Go.Proofs.YtmbnchgfjijobaaGreatDoor.Pu
end

section
namespace Go.Proofs.YtmbnchgfjijobaaGreatDoor.Pu
open Go.RowKit Go.Proofs.YtmbnchgfjijobaaGreatDoor.P Go.Proofs.YtmbnchgfjijobaaGreatDoorW.PrintWords Go.Proofs.YtmbnchgfjijobaaGreatDoorW.PrintLast
theorem iKeysOf_ev (s : ByteArray) (hs : s.size ≤ 140737488351232) : Ev (fun k => impl_KeysOf.f k s) (if wordB s = true then (keysN s, true) else ((⟨#[]⟩ : ByteArray), false)) := by
  by_cases hw : wordB s = true
  · obtain ⟨⟨_, h2⟩, hl⟩ := wordB_iff.1 hw
    obtain ⟨K, e⟩ := keysOf_ev s (by omega) hl
    refine ⟨K, fun k hk => ?_⟩
    have e := e k hk
    dsimp only at e ⊢
    unfold impl_KeysOf.f
    rw [isWord_is s hs]
    simp only [bsome]
    rw [if_pos hw, if_pos hw, e]
    rfl
  · refine ⟨0, fun k hk => ?_⟩
    dsimp only
    unfold impl_KeysOf.f
    rw [isWord_is s hs]
    simp only [bsome]
    rw [if_neg hw, if_neg hw]
theorem sKeysOf_ev (s : ByteArray) (hs : s.size ≤ 140737488351232) : Ev (fun k => spec_KeysOf.f k s) (if wordB s = true then (keysN s, true) else ((⟨#[]⟩ : ByteArray), false)) := by
  obtain ⟨K0, e0⟩ := prWord_ev s hs
  by_cases hw : wordB s = true
  · obtain ⟨⟨_, h2⟩, hl⟩ := wordB_iff.1 hw
    obtain ⟨K, e⟩ := prKeys_ev s (by omega) hl
    refine ⟨K0 + K, fun k hk => ?_⟩
    have e := e k (by omega)
    have e0 := e0 k (by omega)
    dsimp only at e e0 ⊢
    unfold spec_KeysOf.f
    rw [e0]
    simp only [bsome]
    rw [if_pos hw, if_pos hw, e]
    rfl
  · refine ⟨K0, fun k hk => ?_⟩
    have e0 := e0 k (by omega)
    dsimp only at e0 ⊢
    unfold spec_KeysOf.f
    rw [e0]
    simp only [bsome]
    rw [if_neg hw, if_neg hw]
end Go.Proofs.YtmbnchgfjijobaaGreatDoor.Pu
end

section
namespace Go.Proofs.YtmbnchgfjijobaaGreatDoor.Pu
open Go.RowKit Go.Proofs.YtmbnchgfjijobaaGreatDoor.P Go.Proofs.YtmbnchgfjijobaaGreatDoorW.PrintWords Go.Proofs.YtmbnchgfjijobaaGreatDoorW.PrintLast Go.Proofs.YtmbnchgfjijobaaGreatDoorW.PrintMore
def waitN : List Int → Int → Nat
  | [], _ => 0
  | c :: L, last => (if keyN c = last then 1 else 0) + waitN L (keyN c)
theorem waitN_le : ∀ (L : List Int) (last : Int), waitN L last ≤ L.length
  | [], _ => Nat.le_refl _
  | c :: L, last => by
    have := waitN_le L (keyN c)
    rw [waitN, List.length_cons]
    split <;> omega
theorem text_count : ∀ (L : List Int) (last : Int), ((textN L last).map fun c => c.toNat.toUInt8).count 32 = waitN L last
  | [], _ => rfl
  | c :: L, last => by
    have ih := text_count L (keyN c)
    have hk := keyN_range c
    have hne : ((keyN c).toNat.toUInt8 == (32 : UInt8)) = false := by
      have key : ∀ i : Fin 8, (((50 + (i.val : Int)).toNat.toUInt8) == (32 : UInt8)) = false := by decide +kernel
      have := key ⟨(keyN c - 50).toNat, by omega⟩
      rwa [show (50 : Int) + (((keyN c - 50).toNat : Nat) : Int) = keyN c by omega] at this
    rw [textN, List.append_assoc, List.map_append, List.map_append, List.count_append, List.count_append, List.map_replicate, List.count_replicate, hne, ih, waitN]
    by_cases h : keyN c = last
    · rw [if_pos h, if_pos h]
      simp
    · rw [if_neg h, if_neg h]
      simp
theorem count_is (s : ByteArray) : strings_Count.f (pressS s) (⟨#[32]⟩ : ByteArray) = some ((waitN (bytesOf s) 0 : Nat) : Int) := by
  have h : (pressS s).data.toList = (textN (bytesOf s) 0).map fun c => c.toNat.toUInt8 := by
    unfold pressS strOfNums
    simp
  unfold strings_Count.f
  show some ((Lib.countByte (pressS s).data.toList 32 : Nat) : Int) = _
  unfold Lib.countByte
  rw [h, text_count]
theorem prWaits_l0 (s : ByteArray) (hs : s.size ≤ 1000) : ∀ (d i : Nat) (a : Int), i + 1 + d = s.size → 0 ≤ a → a ≤ i →
    Ev (fun k => spec_prWaits.l0 k a (keysN s) ((i + 1 : Nat) : Int)) (a + (waitN ((bytesOf s).drop (i + 1)) (keyN (bt s i)) : Nat))
  | 0, i, a, h, h0, ha => by
    rw [List.drop_of_length_le (by rw [bytesOf_length]; omega)]
    refine ev_from 0 fun k _ => ?_
    simp only [spec_prWaits.l0]
    rw [keysN_size, if_neg (by omega)]
    simp [waitN]
  | d + 1, i, a, h, h0, ha => by
    have hb : ∀ j : Nat, j < s.size → bt (keysN s) j = keyN (bt s j) := fun j hj => by
      rw [bt_bytes, keysN_bytes, Int.toNat_natCast, List.getD_eq_getElem?_getD, List.getElem?_map, bt_bytes, Int.toNat_natCast, List.getD_eq_getElem?_getD, List.getElem?_eq_getElem (by rw [bytesOf_length]; exact hj)]
      rfl
    have h1 := hb i (by omega)
    have h2 := hb (i + 1) (by omega)
    rw [drop_bytes s (i + 1) (by omega), waitN]
    by_cases hk : keyN (bt s (i + 1 : Nat)) = keyN (bt s i)
    · obtain ⟨K, ih⟩ := prWaits_l0 s hs d (i + 1) (a + 1) (by omega) (by omega) (by omega)
      refine ev_from K fun k hk' => ?_
      have e := ih k hk'
      dsimp only at e
      simp only [spec_prWaits.l0]
      rw [keysN_size, if_pos (by omega), wr (x := ((i + 1 : Nat) : Int) - 1) (by omega) (by omega), show ((i + 1 : Nat) : Int) - 1 = (i : Int) by omega, if_pos (by omega), if_pos (by omega), if_pos (by omega), h1, h2, if_pos hk.symm, wr (x := a + 1) (by omega) (by omega), wr (by omega) (by omega), if_pos hk]
      rw [show ((i + 1 : Nat) : Int) + 1 = ((i + 1 + 1 : Nat) : Int) by omega, e]
      congr 1
      omega
    · obtain ⟨K, ih⟩ := prWaits_l0 s hs d (i + 1) a (by omega) (by omega) (by omega)
      refine ev_from K fun k hk' => ?_
      have e := ih k hk'
      dsimp only at e
      simp only [spec_prWaits.l0]
      rw [keysN_size, if_pos (by omega), wr (x := ((i + 1 : Nat) : Int) - 1) (by omega) (by omega), show ((i + 1 : Nat) : Int) - 1 = (i : Int) by omega, if_pos (by omega), if_pos (by omega), if_pos (by omega), h1, h2, if_neg (fun e => hk e.symm), wr (by omega) (by omega), if_neg hk]
      rw [show ((i + 1 : Nat) : Int) + 1 = ((i + 1 + 1 : Nat) : Int) by omega, e]
      congr 1
      omega
theorem prWaits_ev (s : ByteArray) (hs : s.size ≤ 1000) (h1 : 1 ≤ s.size) (hl : ∀ c ∈ bytesOf s, 97 ≤ c ∧ c ≤ 122) : Ev (fun k => spec_prWaits.f k s) ((waitN (bytesOf s) 0 : Nat) : Int) := by
  obtain ⟨K0, e0⟩ := prKeys_ev s (by omega) hl
  obtain ⟨K, e⟩ := prWaits_l0 s hs (s.size - 1) 0 0 (by omega) (by omega) (by omega)
  have hk := keyN_range (bt s (0 : Nat))
  have hd := drop_bytes s 0 (by omega)
  rw [List.drop_zero] at hd
  refine ⟨K0 + K, fun k hk' => ?_⟩
  have e0 := e0 k (by omega)
  have e := e k (by omega)
  dsimp only at e0 e ⊢
  unfold spec_prWaits.f
  rw [e0, bsome]
  rw [hd, waitN, if_neg (by omega), Nat.zero_add]
  rw [Int.zero_add] at e
  exact e
def waitT (s : ByteArray) : Int × Bool := if wordB s = true then (((waitN (bytesOf s) 0 : Nat) : Int), true) else (0, false)
theorem waitsS_ev (s : ByteArray) (hs : s.size ≤ 140737488351232) : Ev (fun k => spec_WaitsIn.f k s) (waitT s) := by
  obtain ⟨K0, e0⟩ := prWord_ev s hs
  unfold waitT
  by_cases hw : wordB s = true
  · obtain ⟨⟨h1, h2⟩, hl⟩ := wordB_iff.1 hw
    obtain ⟨K, e⟩ := prWaits_ev s (by omega) h1 hl
    refine ⟨K0 + K, fun k hk => ?_⟩
    have e0 := e0 k (by omega)
    have e := e k (by omega)
    dsimp only at e0 e ⊢
    unfold spec_WaitsIn.f
    rw [e0, bsome, if_pos hw, e, bsome, if_pos hw]
  · refine ⟨K0, fun k hk => ?_⟩
    have e0 := e0 k (by omega)
    dsimp only at e0 ⊢
    unfold spec_WaitsIn.f
    rw [e0, bsome, if_neg hw, if_neg hw]
theorem waitsI_ev (s : ByteArray) (hs : s.size ≤ 140737488351232) : Ev (fun k => impl_WaitsIn.f k s) (waitT s) := by
  unfold waitT
  by_cases hw : wordB s = true
  · obtain ⟨⟨h1, h2⟩, hl⟩ := wordB_iff.1 hw
    obtain ⟨K, e⟩ := pressText_ev s (by omega) hl
    refine ⟨K, fun k hk => ?_⟩
    have e := e k (by omega)
    dsimp only at e ⊢
    unfold impl_WaitsIn.f
    rw [isWord_is s hs, bsome, if_pos hw, e, bsome, count_is, bsome, if_pos hw]
  · refine ⟨0, fun k _ => ?_⟩
    dsimp only
    unfold impl_WaitsIn.f
    rw [isWord_is s hs, bsome, if_neg hw, if_neg hw]
end Go.Proofs.YtmbnchgfjijobaaGreatDoor.Pu
end

section
namespace Go.Proofs.YtmbnchgfjijobaaGreatDoor.Pu
open Go.RowKit Go.Proofs.YtmbnchgfjijobaaGreatDoor.P Go.Proofs.YtmbnchgfjijobaaGreatDoorW.PrintWords Go.Proofs.YtmbnchgfjijobaaGreatDoorW.PrintLast Go.Proofs.YtmbnchgfjijobaaGreatDoorW.PrintMore
def pressN : List Int → Int
  | [] => 0
  | c :: L => posN c + 1 + pressN L
theorem pressN_range : ∀ (L : List Int), (∀ c ∈ L, 97 ≤ c ∧ c ≤ 122) → (L.length : Int) ≤ pressN L ∧ pressN L ≤ 4 * L.length
  | [], _ => by simp [pressN]
  | c :: L, h => by
    have ih := pressN_range L (fun x hx => h x (List.mem_cons_of_mem _ hx))
    have hc := posN_range c (h c List.mem_cons_self)
    simp only [pressN, List.length_cons]
    omega
theorem countPresses_l0 (s : ByteArray) (hs : s.size ≤ 1000000) (hl : ∀ c ∈ bytesOf s, 97 ≤ c ∧ c ≤ 122) : ∀ (d i : Nat) (a : Int), i + d = s.size → 0 ≤ a → a ≤ 4 * (i : Int) →
    Ev (fun k => impl_CountPresses.l0 k s a s.size i) (a + pressN ((bytesOf s).drop i), true)
  | 0, i, a, h, h0, ha => by
    obtain rfl : i = s.size := by omega
    rw [drop_end]
    refine ev_from 0 fun k _ => ?_
    simp only [impl_CountPresses.l0]
    rw [if_neg (by omega)]
    simp [pressN]
  | d + 1, i, a, h, h0, ha => by
    have hc := posN_range _ (hl _ (bt_mem s i (by omega)))
    obtain ⟨K, ih⟩ := countPresses_l0 s hs hl d (i + 1) (a + (posN (bt s i) + 1)) (by omega) (by omega) (by omega)
    obtain ⟨K', ek⟩ := presses_ev (bt s i) (hl _ (bt_mem s i (by omega)))
    rw [drop_bytes s i (by omega)]
    refine ev_from (K + K') fun k hk => ?_
    have e := ih k (by omega)
    have e' := ek k (by omega)
    rw [show ((i + 1 : Nat) : Int) = (i : Int) + 1 from rfl] at e
    dsimp only at e e'
    simp only [impl_CountPresses.l0]
    rw [if_pos (by omega), if_pos (by omega), if_pos (by omega), e']
    simp only [bsome]
    rw [wr (by omega) (by omega), wr (by omega) (by omega), e]
    simp only [pressN]
    rw [Int.add_assoc]
theorem countPresses_ev (s : ByteArray) (hs : s.size ≤ 140737488351232) : Ev (fun k => impl_CountPresses.f k s) (if wordB s = true then (pressN (bytesOf s), true) else (0, false)) := by
  by_cases hw : wordB s = true
  · obtain ⟨⟨h1, h2⟩, hl⟩ := wordB_iff.1 hw
    obtain ⟨K, e⟩ := countPresses_l0 s (by omega) hl s.size 0 0 (by omega) (by omega) (by omega)
    refine ⟨K, fun k hk => ?_⟩
    have e := e k hk
    dsimp only at e ⊢
    unfold impl_CountPresses.f
    rw [isWord_is s hs, if_pos hw]
    simp only [bsome]
    rw [if_pos hw]
    simpa using e
  · refine ⟨0, fun k _ => ?_⟩
    dsimp only
    unfold impl_CountPresses.f
    rw [isWord_is s hs, if_neg hw]
    simp only [bsome]
    rw [if_neg hw]
theorem prCount_l0 (s : ByteArray) (hs : s.size ≤ 1000000) (hl : ∀ c ∈ bytesOf s, 97 ≤ c ∧ c ≤ 122) : ∀ (d i : Nat) (a : Int), i + d = s.size → 0 ≤ a → a ≤ 4 * (i : Int) →
    Ev (fun k => spec_prCount.l0 k s a i) (a + pressN ((bytesOf s).drop i))
  | 0, i, a, h, h0, ha => by
    obtain rfl : i = s.size := by omega
    rw [drop_end]
    refine ev_from 0 fun k _ => ?_
    simp only [spec_prCount.l0]
    rw [if_neg (by omega)]
    simp [pressN]
  | d + 1, i, a, h, h0, ha => by
    have hc := posN_range _ (hl _ (bt_mem s i (by omega)))
    obtain ⟨K, ih⟩ := prCount_l0 s hs hl d (i + 1) (a + (posN (bt s i) + 1)) (by omega) (by omega) (by omega)
    obtain ⟨K', ek⟩ := prKey_ev (bt s i) (hl _ (bt_mem s i (by omega)))
    rw [drop_bytes s i (by omega)]
    refine ev_from (K + K') fun k hk => ?_
    have e := ih k (by omega)
    have e' := ek k (by omega)
    rw [show ((i + 1 : Nat) : Int) = (i : Int) + 1 from rfl] at e
    dsimp only at e e'
    simp only [spec_prCount.l0]
    rw [if_pos (by omega), if_pos (by omega), e']
    simp only [bsome]
    rw [wr (by omega) (by omega), wr (by omega) (by omega), e]
    simp only [pressN]
    rw [Int.add_assoc]
theorem prCount_ev (s : ByteArray) (hs : s.size ≤ 1000000) (hl : ∀ c ∈ bytesOf s, 97 ≤ c ∧ c ≤ 122) : Ev (fun k => spec_prCount.f k s) (pressN (bytesOf s)) := by
  obtain ⟨K, e⟩ := prCount_l0 s hs hl s.size 0 0 (by omega) (by omega) (by omega)
  exact ⟨K, fun k hk => by have e := e k hk; dsimp only at e; unfold spec_prCount.f; simpa using e⟩
theorem sCountPresses_ev (s : ByteArray) (hs : s.size ≤ 140737488351232) : Ev (fun k => spec_CountPresses.f k s) (if wordB s = true then (pressN (bytesOf s), true) else (0, false)) := by
  obtain ⟨K0, e0⟩ := prWord_ev s hs
  by_cases hw : wordB s = true
  · obtain ⟨⟨h1, h2⟩, hl⟩ := wordB_iff.1 hw
    obtain ⟨K, e⟩ := prCount_ev s (by omega) hl
    refine ⟨K0 + K, fun k hk => ?_⟩
    have e := e k (by omega)
    have e0 := e0 k (by omega)
    dsimp only at e e0 ⊢
    unfold spec_CountPresses.f
    rw [e0, if_pos hw]
    simp only [bsome]
    rw [if_pos hw, e]
    rfl
  · refine ⟨K0, fun k hk => ?_⟩
    have e0 := e0 k (by omega)
    dsimp only at e0 ⊢
    unfold spec_CountPresses.f
    rw [e0, if_neg hw]
    simp only [bsome]
    rw [if_neg hw]
end Go.Proofs.YtmbnchgfjijobaaGreatDoor.Pu
end

section
namespace Go.Proofs.YtmbnchgfjijobaaGreatDoor.Pu
open Go.RowKit Go.Proofs.YtmbnchgfjijobaaGreatDoor.P Go.Proofs.YtmbnchgfjijobaaGreatDoorW.PrintWords Go.Proofs.YtmbnchgfjijobaaGreatDoorW.PrintLast Go.Proofs.YtmbnchgfjijobaaGreatDoorW.PrintMore
def timeT (s : ByteArray) (a b : Int) : Int × Bool := if wordB s = true then (if (decide (0 ≤ a) && decide (a ≤ 1000)) = true then (if (decide (0 ≤ b) && decide (b ≤ 1000)) = true then (wrap64 (wrap64 (pressN (bytesOf s) * a) + wrap64 (((waitN (bytesOf s) 0 : Nat) : Int) * b)), true) else (0, false)) else (0, false)) else (0, false)
theorem timeS_ev (s : ByteArray) (hs : s.size ≤ 140737488351232) (a b : Int) : Ev (fun k => spec_TimeFor.f k s a b) (timeT s a b) := by
  obtain ⟨K0, e0⟩ := prWord_ev s hs
  unfold timeT
  by_cases hw : wordB s = true
  · obtain ⟨⟨h1, h2⟩, hl⟩ := wordB_iff.1 hw
    obtain ⟨K1, e1⟩ := prCount_ev s (by omega) hl
    obtain ⟨K2, e2⟩ := prWaits_ev s (by omega) h1 hl
    refine ev_from (K0 + K1 + K2 + 1) fun k hk => ?_
    obtain ⟨k, rfl⟩ : ∃ m, k = m + 1 := ⟨k - 1, by omega⟩
    have e0 := e0 (k + 1 + 1) (by omega)
    have e1 := e1 (k + 1) (by omega)
    have e2 := e2 (k + 1) (by omega)
    dsimp only at e0 e1 e2 ⊢
    unfold spec_TimeFor.f
    rw [e0, bsome, if_pos hw, l1In_is, bsome, l1In_is, if_pos hw]
    cases (decide (0 ≤ a) && decide (a ≤ 1000)) with
    | false =>
      rw [if_neg (by simp), if_neg (by simp)]
      simp [spec_TimeFor.j0]
    | true =>
      rw [if_pos rfl, if_pos rfl, bsome]
      cases (decide (0 ≤ b) && decide (b ≤ 1000)) with
      | false =>
        rw [if_neg (by simp)]
        simp [spec_TimeFor.j0]
      | true =>
        rw [if_pos rfl]
        simp only [spec_TimeFor.j0, Bool.not_true]
        rw [if_neg (by simp), e1, bsome, e2, bsome]
  · refine ev_from (K0 + 1) fun k hk => ?_
    have e0 := e0 (k + 1) (by omega)
    dsimp only at e0 ⊢
    unfold spec_TimeFor.f
    rw [e0, bsome, if_neg hw, if_neg hw]
    simp [spec_TimeFor.j0]
theorem timeI_ev (s : ByteArray) (hs : s.size ≤ 140737488351232) (a b : Int) : Ev (fun k => impl_TimeFor.f k s a b) (timeT s a b) := by
  obtain ⟨K1, e1⟩ := countPresses_ev s hs
  obtain ⟨K2, e2⟩ := waitsI_ev s hs
  unfold timeT
  unfold waitT at e2
  refine ⟨K1 + K2, fun k hk => ?_⟩
  have e1 := e1 k (by omega)
  have e2 := e2 k (by omega)
  dsimp only at e1 e2 ⊢
  unfold impl_TimeFor.f
  rw [e1, bsome]
  by_cases hw : wordB s = true
  · rw [if_pos hw] at e2
    rw [if_pos hw, if_pos hw, if_pos rfl, in_is, bsome, in_is]
    cases (decide (0 ≤ a) && decide (a ≤ 1000)) with
    | false => rw [if_neg (by simp), if_neg (by simp)]
    | true =>
      rw [if_pos rfl, if_pos rfl, bsome]
      cases (decide (0 ≤ b) && decide (b ≤ 1000)) with
      | false => rw [if_neg (by simp), if_neg (by simp)]
      | true => rw [if_pos rfl, if_pos rfl, e2, bsome]
  · rw [if_neg hw, if_neg hw, if_neg (by simp)]
end Go.Proofs.YtmbnchgfjijobaaGreatDoor.Pu
end

section
namespace Go.Proofs.YtmbnchgfjijobaaGreatDoor.Pu
open Go.RowKit Go.Proofs.YtmbnchgfjijobaaGreatDoor.P Go.Proofs.YtmbnchgfjijobaaGreatDoorW.PrintWords Go.Proofs.YtmbnchgfjijobaaGreatDoorW.PrintLast Go.Proofs.YtmbnchgfjijobaaGreatDoorW.PrintMore
def pickN (m : Int) (l : Nat) : Int := if m ≤ 4 * (l : Int) + 1 then 1 else m - 4 * (l : Int)
def pickL (n : Int) : Int := if n = 1 then 97 else if n = 2 then 98 else if n = 3 then 99 else 115
def longL : Nat → Int → List Int
  | 0, _ => []
  | l + 1, m => pickL (pickN m l) :: longL l (m - pickN m l)
theorem pick_facts (m : Int) (l : Nat) (h0 : (l : Int) + 1 ≤ m) (h1 : m ≤ 4 * ((l : Int) + 1)) :
    97 ≤ pickL (pickN m l) ∧ pickL (pickN m l) ≤ 122 ∧ posN (pickL (pickN m l)) + 1 = pickN m l ∧ 1 ≤ pickN m l ∧ pickN m l ≤ 4 ∧ (l : Int) ≤ m - pickN m l ∧ m - pickN m l ≤ 4 * (l : Int) := by
  obtain ⟨q, hq⟩ : ∃ q, pickN m l = q := ⟨_, rfl⟩
  have hv : q = 1 ∧ m ≤ 4 * (l : Int) + 1 ∨ q = m - 4 * (l : Int) ∧ 4 * (l : Int) + 1 < m := by unfold pickN at hq; omega
  rw [hq]
  rcases (show q = 1 ∨ q = 2 ∨ q = 3 ∨ q = 4 by omega) with h | h | h | h <;> subst h
  · rw [show pickL 1 = 97 from rfl, show posN 97 = 0 from rfl]; omega
  · rw [show pickL 2 = 98 from rfl, show posN 98 = 1 from rfl]; omega
  · rw [show pickL 3 = 99 from rfl, show posN 99 = 2 from rfl]; omega
  · rw [show pickL 4 = 115 from rfl, show posN 115 = 3 from rfl]; omega
theorem pick_first (m : Int) (l : Nat) (_ : (l : Int) + 1 ≤ m) (h1 : m ≤ 4 * ((l : Int) + 1)) (c : Int) (hc : 97 ≤ c) (hlt : c < pickL (pickN m l)) : ¬ (m - (posN c + 1) ≤ 4 * (l : Int)) := by
  obtain ⟨q, hq⟩ : ∃ q, pickN m l = q := ⟨_, rfl⟩
  have hv : q = 1 ∧ m ≤ 4 * (l : Int) + 1 ∨ q = m - 4 * (l : Int) ∧ 4 * (l : Int) + 1 < m := by unfold pickN at hq; omega
  rw [hq] at hlt
  rcases (show q = 1 ∨ q = 2 ∨ q = 3 ∨ q = 4 by omega) with h | h | h | h <;> subst h
  · rw [show pickL 1 = 97 from rfl] at hlt; omega
  · rw [show pickL 2 = 98 from rfl] at hlt; unfold posN; omega
  · rw [show pickL 3 = 99 from rfl] at hlt; unfold posN; omega
  · rw [show pickL 4 = 115 from rfl] at hlt; unfold posN; omega
theorem sLong (l : Nat) (hl : l ≤ 40) : ∀ (m : Int) (A : List Int), (l : Int) ≤ m → m ≤ 4 * (l : Int) → A.length ≤ 40 - l → Ev (fun k => spec_LongestPressed.l0 k m l (strOfNums A)) (strOfNums (A ++ longL l m), true) := by
  induction l with
  | zero =>
    intro m A _ _ _
    refine ev_from 0 fun k _ => ?_
    simp only [spec_LongestPressed.l0]
    rw [if_neg (by omega)]
    simp [longL]
  | succ l ih =>
    intro m A h0 h1 hA
    have f := pick_facts m l (by omega) (by omega)
    have inner : ∀ (d : Nat) (c : Int), 97 ≤ c → c + d = pickL (pickN m l) → Ev (fun k => spec_LongestPressed.l1 k m ((l + 1 : Nat) : Int) (strOfNums A) c) (strOfNums (A ++ longL (l + 1) m), true) := by
      intro d
      induction d with
      | zero =>
        intro c hc hd
        obtain rfl : c = pickL (pickN m l) := by omega
        obtain ⟨K0, hK⟩ := prKey_ev _ ⟨f.1, f.2.1⟩
        obtain ⟨K, hI⟩ := ih (by omega) (m - pickN m l) (A ++ [pickL (pickN m l)]) (by omega) (by omega) (by simp; omega)
        refine ev_from (K0 + K) fun k hk => ?_
        have e0 := hK k (by omega)
        have e := hI k (by omega)
        dsimp only at e0 e
        simp only [spec_LongestPressed.l1]
        rw [if_pos (by omega), e0, bsome]
        dsimp only
        rw [f.2.2.1, wr (x := m - _) (by omega) (by omega), show (((l + 1 : Nat) : Int) - 1) = (l : Int) by omega, wr (x := (l : Int)) (by omega) (by omega), wr (by omega) (by omega), l1In_is, bsome, decide_eq_true (by omega), decide_eq_true (by omega), if_pos (by decide), wr32 (by omega) (by omega), encode_small (by omega) (by omega), if_pos (by rw [size_nums, size_nums]; simp; omega), ← numsApp, e]
        simp [longL]
      | succ d ihd =>
        intro c hc hd
        have hf := pick_first m l (by omega) (by omega) c hc (by omega)
        obtain ⟨K0, hK⟩ := prKey_ev c ⟨hc, by omega⟩
        obtain ⟨K, hI⟩ := ihd (c + 1) (by omega) (by omega)
        have hp := posN_range c ⟨hc, by omega⟩
        refine ev_from (K0 + K) fun k hk => ?_
        have e0 := hK k (by omega)
        have e := hI k (by omega)
        dsimp only at e0 e
        simp only [spec_LongestPressed.l1]
        rw [if_pos (by omega), e0, bsome]
        dsimp only
        rw [wr (x := m - _) (by omega) (by omega), show (((l + 1 : Nat) : Int) - 1) = (l : Int) by omega, wr (x := (l : Int)) (by omega) (by omega), wr (by omega) (by omega), l1In_is, bsome, decide_eq_false (p := m - _ ≤ 4 * (l : Int)) hf, Bool.and_false, if_neg (by simp), show (c + 1) % 256 = c + 1 by omega, e]
    obtain ⟨K, h⟩ := inner (pickL (pickN m l) - 97).toNat 97 (by omega) (by omega)
    refine ev_from K fun k hk => ?_
    have e := h k hk
    dsimp only at e
    simp only [spec_LongestPressed.l0]
    rw [if_pos (by omega), e]
theorem abc_bt (i : Nat) (h : i < 26) : bt (⟨#[97, 98, 99, 100, 101, 102, 103, 104, 105, 106, 107, 108, 109, 110, 111, 112, 113, 114, 115, 116, 117, 118, 119, 120, 121, 122]⟩ : ByteArray) i = 97 + (i : Int) := by
  have key : ∀ n : Fin 26, bt (⟨#[97, 98, 99, 100, 101, 102, 103, 104, 105, 106, 107, 108, 109, 110, 111, 112, 113, 114, 115, 116, 117, 118, 119, 120, 121, 122]⟩ : ByteArray) (n.val : Int) = 97 + (n.val : Int) := by decide +kernel
  exact key ⟨i, h⟩
theorem iLong (l : Nat) (hl : l ≤ 40) : ∀ (m : Int) (A : List Int), (l : Int) ≤ m → m ≤ 4 * (l : Int) → A.length ≤ 40 - l → Ev (fun k => impl_LongestPressed.l0 k m A ((l : Int) - 1)) (strOfNums (A ++ longL l m), true) := by
  induction l with
  | zero =>
    intro m A _ _ _
    refine ev_from 0 fun k _ => ?_
    simp only [impl_LongestPressed.l0]
    rw [if_neg (by omega)]
    simp [longL]
  | succ l ih =>
    intro m A h0 h1 hA
    have f := pick_facts m l (by omega) (by omega)
    have inner : ∀ (d i : Nat), 97 + (i : Int) + d = pickL (pickN m l) → Ev (fun k => impl_LongestPressed.l1 k m A (l : Int) i) (strOfNums (A ++ longL (l + 1) m), true) := by
      intro d
      induction d with
      | zero =>
        intro i hd
        have hi : 97 + (i : Int) = pickL (pickN m l) := by omega
        obtain ⟨K0, hK⟩ := presses_ev (97 + (i : Int)) ⟨by omega, by omega⟩
        obtain ⟨K, hI⟩ := ih (by omega) (m - pickN m l) (A ++ [97 + (i : Int)]) (by omega) (by omega) (by simp; omega)
        refine ev_from (K0 + K) fun k hk => ?_
        have e0 := hK k (by omega)
        have e := hI k (by omega)
        dsimp only at e0 e
        simp only [impl_LongestPressed.l1]
        rw [if_pos (by omega), if_pos (by omega), abc_bt i (by omega), e0, bsome, hi, f.2.2.1, wr (x := m - _) (by omega) (by omega), wr (x := 4 * _) (by omega) (by omega), in_is, bsome, decide_eq_true (by omega), decide_eq_true (by omega), if_pos (by decide), if_pos (by omega), bsome, wr (x := m - _) (by omega) (by omega), wr (x := (l : Int) - 1) (by omega) (by omega), ← hi, e]
        simp [longL, hi]
      | succ d ihd =>
        intro i hd
        have hf := pick_first m l (by omega) (by omega) (97 + (i : Int)) (by omega) (by omega)
        obtain ⟨K0, hK⟩ := presses_ev (97 + (i : Int)) ⟨by omega, by omega⟩
        obtain ⟨K, hI⟩ := ihd (i + 1) (by omega)
        have hp := posN_range (97 + (i : Int)) ⟨by omega, by omega⟩
        refine ev_from (K0 + K) fun k hk => ?_
        have e0 := hK k (by omega)
        have e := hI k (by omega)
        dsimp only at e0 e
        simp only [impl_LongestPressed.l1]
        rw [if_pos (by omega), if_pos (by omega), abc_bt i (by omega), e0, bsome, wr (x := m - _) (by omega) (by omega), wr (x := 4 * _) (by omega) (by omega), in_is, bsome, decide_eq_false (p := m - _ ≤ 4 * (l : Int)) hf, Bool.and_false, if_neg (by simp), wr (by omega) (by omega), show ((i : Int) + 1) = ((i + 1 : Nat) : Int) from rfl, e]
    obtain ⟨K, h⟩ := inner (pickL (pickN m l) - 97).toNat 0 (by omega)
    refine ev_from K fun k hk => ?_
    have e := h k hk
    dsimp only at e
    simp only [impl_LongestPressed.l0]
    rw [if_pos (by omega), show (((l + 1 : Nat) : Int) - 1) = (l : Int) by omega]
    exact e
def longR (m l : Int) : ByteArray × Bool := if (1 ≤ l ∧ l ≤ 40) ∧ l ≤ m ∧ m ≤ 4 * l then (strOfNums (longL l.toNat m), true) else ((⟨#[]⟩ : ByteArray), false)
theorem sLong_ev (m l : Int) : Ev (fun k => spec_LongestPressed.f k m l) (longR m l) := by
  unfold longR
  by_cases hl : 1 ≤ l ∧ l ≤ 40
  · by_cases hm : l ≤ m ∧ m ≤ 4 * l
    · obtain ⟨n, rfl⟩ : ∃ n : Nat, l = (n : Int) := ⟨l.toNat, by omega⟩
      obtain ⟨K, h⟩ := sLong n (by omega) m [] (by omega) (by omega) (by simp)
      rw [if_pos ⟨hl, hm⟩]
      refine ev_from K fun k hk => ?_
      have e := h k hk
      dsimp only at e
      unfold spec_LongestPressed.f
      rw [l1In_is, bsome, decide_eq_true hl.1, decide_eq_true hl.2, if_pos (by decide), wr (by omega) (by omega), l1In_is, bsome, decide_eq_true hm.1, decide_eq_true hm.2]
      simp only [spec_LongestPressed.j0]
      rw [if_neg (by simp), Int.toNat_natCast]
      exact e
    · rw [if_neg (fun h => hm h.2)]
      refine ev_from 0 fun k _ => ?_
      unfold spec_LongestPressed.f
      rw [l1In_is, bsome, decide_eq_true hl.1, decide_eq_true hl.2, if_pos (by decide), wr (by omega) (by omega), l1In_is, bsome]
      simp only [spec_LongestPressed.j0]
      rw [if_pos (by rcases Classical.not_and_iff_not_or_not.1 hm with h | h <;> simp [h])]
  · rw [if_neg (fun h => hl h.1)]
    refine ev_from 0 fun k _ => ?_
    unfold spec_LongestPressed.f
    rw [l1In_is, bsome, if_neg (by simpa using fun h => by omega)]
    simp only [spec_LongestPressed.j0]
    rw [if_pos trivial]
theorem iLong_ev (m l : Int) : Ev (fun k => impl_LongestPressed.f k m l) (longR m l) := by
  unfold longR
  by_cases hl : 1 ≤ l ∧ l ≤ 40
  · by_cases hm : l ≤ m ∧ m ≤ 4 * l
    · obtain ⟨n, rfl⟩ : ∃ n : Nat, l = (n : Int) := ⟨l.toNat, by omega⟩
      obtain ⟨K, h⟩ := iLong n (by omega) m [] (by omega) (by omega) (by simp)
      rw [if_pos ⟨hl, hm⟩]
      refine ev_from K fun k hk => ?_
      have e := h k hk
      dsimp only at e
      unfold impl_LongestPressed.f
      rw [in_is, bsome, decide_eq_true hl.1, decide_eq_true hl.2, if_pos (by decide), wr (by omega) (by omega), in_is, bsome, decide_eq_true hm.1, decide_eq_true hm.2]
      simp only [impl_LongestPressed.j0]
      rw [if_neg (by simp), wr (by omega) (by omega), Int.toNat_natCast]
      exact e
    · rw [if_neg (fun h => hm h.2)]
      refine ev_from 0 fun k _ => ?_
      unfold impl_LongestPressed.f
      rw [in_is, bsome, decide_eq_true hl.1, decide_eq_true hl.2, if_pos (by decide), wr (by omega) (by omega), in_is, bsome]
      simp only [impl_LongestPressed.j0]
      rw [if_pos (by rcases Classical.not_and_iff_not_or_not.1 hm with h | h <;> simp [h])]
  · rw [if_neg (fun h => hl h.1)]
    refine ev_from 0 fun k _ => ?_
    unfold impl_LongestPressed.f
    rw [in_is, bsome, if_neg (by simpa using fun h => by omega)]
    simp only [impl_LongestPressed.j0]
    rw [if_pos trivial]
end Go.Proofs.YtmbnchgfjijobaaGreatDoor.Pu
end

section
namespace Go.Proofs.YtmbnchgfjijobaaGreatDoor.Pu
open Go.RowKit Go.Proofs.YtmbnchgfjijobaaGreatDoor.P Go.Proofs.YtmbnchgfjijobaaGreatDoorW.PrintWords Go.Proofs.YtmbnchgfjijobaaGreatDoorW.PrintLast Go.Proofs.YtmbnchgfjijobaaGreatDoorW.PrintMore
theorem text_len : ∀ (L : List Int) (last : Int), (∀ c ∈ L, 97 ≤ c ∧ c ≤ 122) → ((textN L last).length : Int) = pressN L + (waitN L last : Int)
  | [], _, _ => by simp [textN, pressN, waitN]
  | c :: L, last, h => by
    have ih := text_len L (keyN c) (fun x hx => h x (List.mem_cons_of_mem _ hx))
    have hp := posN_range c (h c List.mem_cons_self)
    rw [textN, pressN, waitN, List.length_append, List.length_append, List.length_replicate]
    split <;> simp <;> omega
theorem press_bytes (s : ByteArray) : bytesOf (pressS s) = textN (bytesOf s) 0 := by
  unfold pressS
  exact bytes_nums (textN_range _ _)
theorem press_size {s : ByteArray} (h : wordB s = true) : ((pressS s).size : Int) = pressN (bytesOf s) + (waitN (bytesOf s) 0 : Int) := by
  rw [size_bytes, press_bytes]
  exact text_len _ _ (wordB_iff.1 h).2
theorem read_back {s : ByteArray} (h : wordB s = true) (hn : (pressS s).size ≤ 200) : readU (pressS s) = (s, true) := by
  have hl := (wordB_iff.1 h).2
  have hd := decS_complete (bytesOf s) (pressS s).size hl (by rw [size_bytes, press_bytes]; exact Nat.le_refl _)
  unfold readU
  rw [if_pos hn, press_bytes, hd]
  show (if wordB (strOfNums ([] ++ bytesOf s)) = true then (strOfNums ([] ++ bytesOf s), true) else ((⟨#[]⟩ : ByteArray), false)) = (s, true)
  rw [List.nil_append, nums_bytes, if_pos h]
theorem back_read {s r : ByteArray} (h : readU s = (r, true)) : wordB r = true ∧ pressS r = s := by
  unfold readU at h
  split at h
  · split at h
    · rename_i h1 h2
      cases e : decS s.size (bytesOf s) with
      | none => rw [e] at h2; cases h2
      | some W =>
        rw [e] at h h2
        replace h2 : wordB (strOfNums ([] ++ W)) = true := h2
        replace h : (strOfNums ([] ++ W), true) = (r, true) := h
        rw [List.nil_append] at h h2
        obtain rfl := (Prod.mk.inj h).1
        obtain ⟨e1, e2⟩ := decS_sound _ _ _ e
        refine ⟨h2, ?_⟩
        unfold pressS
        rw [bytes_nums (fun c hc => by have := e2 c hc; omega), ← e1, nums_bytes]
    · cases h
  · cases h
theorem long_facts : ∀ (n : Nat) (m : Int), (n : Int) ≤ m → m ≤ 4 * (n : Int) → (longL n m).length = n ∧ (∀ c ∈ longL n m, 97 ≤ c ∧ c ≤ 122) ∧ pressN (longL n m) = m
  | 0, m, h0, h1 => ⟨rfl, by simp [longL], by simp [longL, pressN]; omega⟩
  | n + 1, m, h0, h1 => by
    have f := pick_facts m n (by omega) (by omega)
    obtain ⟨i1, i2, i3⟩ := long_facts n (m - pickN m n) (by omega) (by omega)
    refine ⟨by rw [longL, List.length_cons, i1], ?_, ?_⟩
    · intro c hc
      rw [longL] at hc
      rcases List.mem_cons.1 hc with rfl | hc
      · omega
      · exact i2 c hc
    · rw [longL, pressN, i3]
      omega
theorem long_ok {m l : Int} {b : ByteArray} (h : longR m l = (b, true)) : wordB b = true ∧ pressN (bytesOf b) = m ∧ (b.size : Int) = l := by
  unfold longR at h
  split at h
  · rename_i hc
    obtain rfl := (Prod.mk.inj h).1
    obtain ⟨i1, i2, i3⟩ := long_facts l.toNat m (by omega) (by omega)
    have hb : bytesOf (strOfNums (longL l.toNat m)) = longL l.toNat m := bytes_nums (fun c hc => by have := i2 c hc; omega)
    have hs : (strOfNums (longL l.toNat m)).size = l.toNat := by rw [size_nums, i1]
    refine ⟨wordB_iff.2 ⟨by omega, by rw [hb]; exact i2⟩, by rw [hb]; exact i3, by omega⟩
  · cases h
theorem keys_at {s : ByteArray} {i : Nat} (hi : i < s.size) : bt (keysN s) (i : Int) = keyN (bt s (i : Int)) := by
  have h1 := drop_bytes (keysN s) i (by rw [keysN_size]; exact hi)
  have h2 := drop_bytes s i hi
  rw [keysN_bytes, ← List.map_drop, h2, List.map_cons] at h1
  exact ((List.cons.inj h1).1).symm
theorem cut_word {s : ByteArray} (h : wordB s = true) {i : Nat} (hi : i < s.size) : wordB (s.extract i (i + 1)) = true ∧ (s.extract i (i + 1)).size = 1 ∧ bt (s.extract i (i + 1)) 0 = bt s i := by
  have hb : bytesOf (s.extract i (i + 1)) = [bt s i] := by
    rw [bytes_extract, List.drop_take, drop_bytes s i hi, show i + 1 - i = 1 by omega]
    rfl
  have e : bt (s.extract i (i + 1)) 0 = bt s i := by
    rw [bt_bytes, hb]
    rfl
  have hs : (s.extract i (i + 1)).size = 1 := by rw [size_bytes, hb]; rfl
  refine ⟨wordB_iff.2 ⟨by omega, ?_⟩, hs, e⟩
  rw [hb]
  intro c hc
  rw [List.mem_singleton.1 hc]
  exact (wordB_iff.1 h).2 _ (bt_mem s i hi)
theorem cut_keys {s : ByteArray} {i : Nat} (hi : i < s.size) : (keysN s).extract i (i + 1) = strOfNums [keyN (bt s i)] := by
  refine bytes_ext ?_
  have hk := keyN_range (bt s i)
  rw [bytes_nums (by simpa using (show 0 ≤ keyN (bt s i) ∧ keyN (bt s i) ≤ 255 by omega)), bytes_extract, List.drop_take, drop_bytes (keysN s) i (by rw [keysN_size]; exact hi), show i + 1 - i = 1 by omega, keys_at hi]
  rfl
end Go.Proofs.YtmbnchgfjijobaaGreatDoor.Pu
end

section
namespace Go.Proofs.YtmbnchgfjijobaaGreatDoor.Pu
open Go.RowKit Go.Proofs.YtmbnchgfjijobaaGreatDoor.P Go.Proofs.YtmbnchgfjijobaaGreatDoorW.PrintWords Go.Proofs.YtmbnchgfjijobaaGreatDoorW.PrintLast Go.Proofs.YtmbnchgfjijobaaGreatDoorW.PrintMore
def AllBytes (l : List Int) : Prop := ∀ c ∈ l, 0 ≤ c ∧ c ≤ 255
theorem rd_all {l : List Int} (h : AllBytes l) (i : Int) : 0 ≤ rd l i ∧ rd l i ≤ 255 := by
  unfold rd
  by_cases hi : i.toNat < l.length
  · rw [List.getD_eq_getElem?_getD, List.getElem?_eq_getElem hi, Option.getD_some]
    exact h _ (List.getElem_mem _)
  · rw [List.getD_eq_getElem?_getD, List.getElem?_eq_none (by omega), Option.getD_none]
    omega
theorem u64_range (x : Int) : 0 ≤ IntKind.u64.wrap x ∧ IntKind.u64.wrap x < 18446744073709551616 := by
  rw [IntKind.wrap_u64]
  omega
theorem and_byte (x : Int) (h0 : 0 ≤ x) (h1 : x < 18446744073709551616) : Go.bits .and .u64 x 255 = x % 256 := by
  have h := bits_mask .u64 64 (by decide) (fun n h₀ h₁ => by rw [IntKind.wrap_u64]; omega) 8 (by decide) x h0 (by omega)
  simpa using h
theorem seed_byte (x : Int) : 0 ≤ wrap64 (Go.bits .and .u64 (IntKind.u64.wrap x / 1099511627776) 255) ∧ wrap64 (Go.bits .and .u64 (IntKind.u64.wrap x / 1099511627776) 255) ≤ 255 := by
  have h := u64_range x
  generalize IntKind.u64.wrap x = y at *
  rw [and_byte _ (by omega) (by omega)]
  unfold wrap64
  omega
theorem next_ok {l : List Int} (h : AllBytes l) {p : Int} (q : Int) (hp : 0 ≤ p ∧ p ≤ 1000000000) : ∃ x p' q', spec_l1Cur_next.f l p q = some (x, p', q') ∧ (0 ≤ x ∧ x ≤ 255) ∧ (0 ≤ p' ∧ p' ≤ p + 1) := by
  unfold spec_l1Cur_next.f
  have hr := rd_all h p
  have hw : wrap64 (p + 1) = p + 1 := wr (by omega) (by omega)
  have hx : wrap64 (rd l p) = rd l p := wr (by omega) (by omega)
  rw [hw, hx]
  by_cases h1 : p < (l.length : Int)
  · rw [if_pos h1, if_pos (show 0 ≤ p from hp.1), if_pos (show p + 1 ≤ (l.length : Int) by omega)]
    exact ⟨_, _, _, rfl, hr, by omega⟩
  · rw [if_neg h1, if_neg (show ¬ p + 1 ≤ (l.length : Int) by omega)]
    exact ⟨_, _, _, rfl, seed_byte _, by omega⟩
theorem pick_ok {l : List Int} (h : AllBytes l) {p : Int} (q : Int) (hp : 0 ≤ p ∧ p ≤ 1000000000) (n : Int) (hn : 1 ≤ n ∧ n ≤ 200) : ∃ x p' q', spec_l1Cur_pick.f l p q n = some (x, p', q') ∧ (0 ≤ x ∧ x < n) ∧ (0 ≤ p' ∧ p' ≤ p + 1) := by
  unfold spec_l1Cur_pick.f
  by_cases h1 : n ≤ 1
  · rw [if_pos h1]
    exact ⟨_, _, _, rfl, by omega, by omega⟩
  · obtain ⟨x, p', q', e, hx, hp'⟩ := next_ok h q hp
    rw [if_neg h1, e, bsome, if_neg (by omega), if_neg (by omega)]
    refine ⟨_, _, _, rfl, ?_, hp'⟩
    dsimp only
    rw [Int.tmod_eq_emod_of_nonneg hx.1]
    exact ⟨Int.emod_nonneg _ (by omega), Int.emod_lt_of_pos _ (by omega)⟩
theorem one_ok {l : List Int} (h : AllBytes l) {p : Int} (q : Int) (hp : 0 ≤ p ∧ p ≤ 1000000000) (n : Int) (hn : 1 ≤ n ∧ n ≤ 200) : ∃ x p' q', spec_l1Cur_one.f l p q n = some (x, p', q') ∧ (0 ≤ p' ∧ p' ≤ p + 1) := by
  obtain ⟨x, p', q', e, hx, hp'⟩ := pick_ok h q hp n hn
  unfold spec_l1Cur_one.f
  rw [e, bsome]
  exact ⟨_, _, _, rfl, hp'⟩
theorem of_ok {l : List Int} (h : AllBytes l) {p : Int} (q : Int) (hp : 0 ≤ p ∧ p ≤ 1000000000) (L : List ByteArray) (hL : 1 ≤ L.length ∧ L.length ≤ 200) : ∃ x p' q', spec_l1Cur_of.f l p q L = some (x, p', q') ∧ x ∈ L ∧ (0 ≤ p' ∧ p' ≤ p + 1) := by
  obtain ⟨x, p', q', e, hx, hp'⟩ := pick_ok h q hp (L.length : Int) (by omega)
  unfold spec_l1Cur_of.f
  rw [e, bsome, if_pos hx.1, if_pos hx.2]
  refine ⟨_, _, _, rfl, ?_, hp'⟩
  dsimp only
  unfold rdOf
  have hi : x.toNat < L.length := by omega
  rw [List.getD_eq_getElem?_getD, List.getElem?_eq_getElem hi, Option.getD_some]
  exact List.getElem_mem _
theorem among_ok {l : List Int} (h : AllBytes l) {p : Int} (q : Int) (hp : 0 ≤ p ∧ p ≤ 1000000000) (L : List Int) (hL : 1 ≤ L.length ∧ L.length ≤ 200) : ∃ x p' q', spec_l1Cur_among.f l p q L = some (x, p', q') ∧ x ∈ L ∧ (0 ≤ p' ∧ p' ≤ p + 1) := by
  obtain ⟨x, p', q', e, hx, hp'⟩ := pick_ok h q hp (L.length : Int) (by omega)
  unfold spec_l1Cur_among.f
  rw [e, bsome, if_pos hx.1, if_pos hx.2]
  refine ⟨_, _, _, rfl, ?_, hp'⟩
  dsimp only
  unfold rd
  have hi : x.toNat < L.length := by omega
  rw [List.getD_eq_getElem?_getD, List.getElem?_eq_getElem hi, Option.getD_some]
  exact List.getElem_mem _
end Go.Proofs.YtmbnchgfjijobaaGreatDoor.Pu
end

section
namespace Go.Proofs.YtmbnchgfjijobaaGreatDoor.Pu
open Go.RowKit Go.Proofs.YtmbnchgfjijobaaGreatDoor.P Go.Proofs.YtmbnchgfjijobaaGreatDoorW.PrintWords Go.Proofs.YtmbnchgfjijobaaGreatDoorW.PrintLast Go.Proofs.YtmbnchgfjijobaaGreatDoorW.PrintMore
theorem abc_cut {p : Int} (h : 0 ≤ p ∧ p ≤ 25) : (⟨#[97, 98, 99, 100, 101, 102, 103, 104, 105, 106, 107, 108, 109, 110, 111, 112, 113, 114, 115, 116, 117, 118, 119, 120, 121, 122]⟩ : ByteArray).extract p.toNat (p + 1).toNat = strOfNums [97 + p] := by
  have key : ∀ n : Fin 26, ((⟨#[97, 98, 99, 100, 101, 102, 103, 104, 105, 106, 107, 108, 109, 110, 111, 112, 113, 114, 115, 116, 117, 118, 119, 120, 121, 122]⟩ : ByteArray).extract n.val (n.val + 1)).data.toList = (strOfNums [97 + (n.val : Int)]).data.toList := by decide +kernel
  have := key ⟨p.toNat, by omega⟩
  rw [show (p + 1).toNat = p.toNat + 1 by omega]
  refine bytes_ext ?_
  unfold bytesOf
  rw [this, show ((p.toNat : Nat) : Int) = p by omega]
theorem sureW_l0 {l : List Int} (h : AllBytes l) : ∀ (n : Nat) (A : List Int) (p q : Int), (0 ≤ p ∧ p + n ≤ 1000000000) → A.length + n ≤ 1000 → (∀ c ∈ A, 97 ≤ c ∧ c ≤ 122) → ∃ M p' q', Ev (fun k => spec_l1Cur_sureWord.l0 k (strOfNums A) (n : Int) l p q) (strOfNums (A ++ M), p', q') ∧ M.length = n ∧ (∀ c ∈ A ++ M, 97 ≤ c ∧ c ≤ 122) ∧ (0 ≤ p' ∧ p' ≤ p + n)
  | 0, A, p, q, hp, hA, hq => ⟨[], p, q, ev_from 0 fun k _ => by rw [spec_l1Cur_sureWord.l0, if_neg (by omega), List.append_nil], rfl, by simpa using hq, by omega⟩
  | n + 1, A, p, q, hp, hA, hq => by
    obtain ⟨x, p1, q1, e, hx, hp1⟩ := pick_ok h q (show 0 ≤ p ∧ p ≤ 1000000000 by omega) 26 (by omega)
    obtain ⟨M, p2, q2, e2, hM, hall, hp2⟩ := sureW_l0 h n (A ++ [97 + x]) p1 q1 (by omega) (by simp; omega) (fun c hc => by
      rcases List.mem_append.1 hc with hc | hc
      · exact hq c hc
      · rw [List.mem_singleton.1 hc]; omega)
    refine ⟨(97 + x) :: M, p2, q2, ?_, by simp [hM], by simpa using hall, by omega⟩
    obtain ⟨K, e2⟩ := e2
    refine ev_from K fun k hk => ?_
    have e2 := e2 k hk
    dsimp only at e2
    have hw : wrap64 (x + 1) = x + 1 := wr (by omega) (by omega)
    have hw2 : wrap64 (((n + 1 : Nat) : Int) - 1) = (n : Int) := (wr (by omega) (by omega)).trans (by omega)
    have hsz := size_nums A
    rw [spec_l1Cur_sureWord.l0, if_pos (by omega), e, bsome, hw, hw2, if_pos hx.1, if_pos (by omega), if_pos (by omega), abc_cut (by omega), if_pos (by rw [hsz, size_nums]; simp only [List.length_singleton]; omega), ← numsApp, e2]
    simp
theorem sureWord_ok {l : List Int} (h : AllBytes l) {p : Int} (q : Int) (hp : 0 ≤ p ∧ p ≤ 1000000) (n : Int) (hn : 1 ≤ n ∧ n ≤ 100) : ∃ s p' q', Ev (fun k => spec_l1Cur_sureWord.f k l p q n) (s, p', q') ∧ (1 ≤ (s.size : Int) ∧ (s.size : Int) ≤ n) ∧ (∀ c ∈ bytesOf s, 97 ≤ c ∧ c ≤ 122) ∧ (0 ≤ p' ∧ p' ≤ p + 1 + n) := by
  obtain ⟨x, p1, q1, e, hx, hp1⟩ := pick_ok h q (show 0 ≤ p ∧ p ≤ 1000000000 by omega) n (by omega)
  obtain ⟨m, rfl⟩ : ∃ m : Nat, x = (m : Int) := ⟨x.toNat, by omega⟩
  obtain ⟨M, p2, q2, e2, hM, hall, hp2⟩ := sureW_l0 h (m + 1) [] p1 q1 (by omega) (by simp; omega) (by simp)
  rw [List.nil_append] at e2 hall
  refine ⟨strOfNums M, p2, q2, ?_, by rw [size_nums]; omega, ?_, by omega⟩
  · obtain ⟨K, e2⟩ := e2
    refine ⟨K, fun k hk => ?_⟩
    have e2 := e2 k hk
    dsimp only at e2 ⊢
    unfold spec_l1Cur_sureWord.f
    rw [e, bsome, show wrap64 (1 + (m : Int)) = ((m + 1 : Nat) : Int) from (wr (by omega) (by omega)).trans (by omega)]
    exact e2
  · rw [bytes_nums (fun c hc => by have := hall c hc; omega)]
    exact hall
def Short2 (s : ByteArray) : Prop := s.size ≤ 41 ∧ ∀ c ∈ bytesOf s, c < 128
theorem short2_list (L : List ByteArray) (h : (L.all fun s => decide (s.size ≤ 41) && s.data.toList.all fun b => decide (b < 128)) = true) {s : ByteArray} (hs : s ∈ L) : Short2 s := by
  have := List.all_eq_true.1 h s hs
  rw [Bool.and_eq_true] at this
  refine ⟨of_decide_eq_true this.1, fun c hc => ?_⟩
  unfold bytesOf at hc
  obtain ⟨b, hb, rfl⟩ := List.mem_map.1 hc
  have := of_decide_eq_true (List.all_eq_true.1 this.2 b hb)
  exact_mod_cast (UInt8.lt_iff_toNat_lt.1 this)
theorem word_ok {l : List Int} (h : AllBytes l) {p : Int} (q : Int) (hp : 0 ≤ p ∧ p ≤ 100000) : ∃ s p' q', Ev (fun k => spec_l1Cur_word.f k l p q) (s, p', q') ∧ Short2 s ∧ (0 ≤ p' ∧ p' ≤ p + 100) := by
  obtain ⟨b, p1, q1, e, hp1⟩ := one_ok h q (show 0 ≤ p ∧ p ≤ 1000000000 by omega) 14 (by omega)
  cases b with
  | true =>
    obtain ⟨s, p2, q2, e2, hs, hp2⟩ := of_ok h q1 (show 0 ≤ p1 ∧ p1 ≤ 1000000000 by omega) [(⟨#[]⟩ : ByteArray), (⟨#[65]⟩ : ByteArray), (⟨#[97, 32, 98]⟩ : ByteArray), (⟨#[122, 122, 122, 122, 122, 122, 122, 122, 122, 122, 122, 122, 122, 122, 122, 122, 122, 122, 122, 122, 122, 122, 122, 122, 122, 122, 122, 122, 122, 122, 122, 122, 122, 122, 122, 122, 122, 122, 122, 122]⟩ : ByteArray), (⟨#[97, 97, 97, 97, 97, 97, 97, 97, 97, 97, 97, 97, 97, 97, 97, 97, 97, 97, 97, 97, 97, 97, 97, 97, 97, 97, 97, 97, 97, 97, 97, 97, 97, 97, 97, 97, 97, 97, 97, 97, 97]⟩ : ByteArray), (⟨#[120, 49]⟩ : ByteArray)] (by decide)
    refine ⟨s, p2, q2, ⟨0, fun k _ => ?_⟩, short2_list _ (by decide +kernel) hs, by omega⟩
    dsimp only
    unfold spec_l1Cur_word.f
    rw [e, bsome, if_pos rfl, e2, bsome]
  | false =>
    obtain ⟨s, p2, q2, ⟨K, e2⟩, hs, hs2, hp2⟩ := sureWord_ok h q1 (show 0 ≤ p1 ∧ p1 ≤ 1000000 by omega) 7 (by omega)
    refine ⟨s, p2, q2, ⟨K, fun k hk => ?_⟩, ⟨by omega, fun c hc => by have := hs2 c hc; omega⟩, by omega⟩
    have e2 := e2 k hk
    dsimp only at e2 ⊢
    unfold spec_l1Cur_word.f
    rw [e, bsome, if_neg (by simp), e2, bsome]
theorem letter_ok {l : List Int} (h : AllBytes l) {p : Int} (q : Int) (hp : 0 ≤ p ∧ p ≤ 100000) : ∃ s p' q', Ev (fun k => spec_l1Cur_letter.f k l p q) (s, p', q') ∧ Short2 s ∧ (0 ≤ p' ∧ p' ≤ p + 100) := by
  obtain ⟨b, p1, q1, e, hp1⟩ := one_ok h q (show 0 ≤ p ∧ p ≤ 1000000000 by omega) 10 (by omega)
  cases b with
  | true =>
    obtain ⟨s, p2, q2, e2, hs, hp2⟩ := of_ok h q1 (show 0 ≤ p1 ∧ p1 ≤ 1000000000 by omega) [(⟨#[]⟩ : ByteArray), (⟨#[97, 98]⟩ : ByteArray), (⟨#[65]⟩ : ByteArray), (⟨#[49]⟩ : ByteArray)] (by decide)
    refine ⟨s, p2, q2, ⟨0, fun k _ => ?_⟩, short2_list _ (by decide +kernel) hs, by omega⟩
    dsimp only
    unfold spec_l1Cur_letter.f
    rw [e, bsome, if_pos rfl, e2, bsome]
  | false =>
    obtain ⟨s, p2, q2, ⟨K, e2⟩, hs, hs2, hp2⟩ := sureWord_ok h q1 (show 0 ≤ p1 ∧ p1 ≤ 1000000 by omega) 1 (by omega)
    refine ⟨s, p2, q2, ⟨K, fun k hk => ?_⟩, ⟨by omega, fun c hc => by have := hs2 c hc; omega⟩, by omega⟩
    have e2 := e2 k hk
    dsimp only at e2 ⊢
    unfold spec_l1Cur_letter.f
    rw [e, bsome, if_neg (by simp), e2, bsome]
theorem drawWord_ok {l : List Int} (h : AllBytes l) : ∃ s, Ev (fun k => spec_DrawPressText.f k l) s ∧ Short2 s := by
  obtain ⟨s, p1, q1, ⟨K, e1⟩, hs, hp1⟩ := word_ok h 0 (p := 0) (by omega)
  refine ⟨s, ⟨K, fun k hk => ?_⟩, hs⟩
  have e1 := e1 k hk
  dsimp only at e1 ⊢
  unfold spec_DrawPressText.f spec_DrawIsWord.f
  rw [e1, bsome, bsome]
theorem drawLetter_ok {l : List Int} (h : AllBytes l) : ∃ s, Ev (fun k => spec_DrawKeyOf.f k l) s ∧ Short2 s := by
  obtain ⟨s, p1, q1, ⟨K, e1⟩, hs, hp1⟩ := letter_ok h 0 (p := 0) (by omega)
  refine ⟨s, ⟨K, fun k hk => ?_⟩, hs⟩
  have e1 := e1 k hk
  dsimp only at e1 ⊢
  unfold spec_DrawKeyOf.f
  rw [e1, bsome]
theorem drawTime_ok {l : List Int} (h : AllBytes l) : ∃ s a b, Ev (fun k => spec_DrawTimeFor.f k l) (s, a, b) ∧ Short2 s := by
  obtain ⟨s, p1, q1, ⟨K, e1⟩, hs, hp1⟩ := word_ok h 0 (p := 0) (by omega)
  obtain ⟨a, p2, q2, e2, _, hp2⟩ := among_ok h q1 (show 0 ≤ p1 ∧ p1 ≤ 1000000000 by omega) [0, 1, 3, 1000, 1001, -1] (by decide)
  obtain ⟨b, p3, q3, e3, _, hp3⟩ := among_ok h q2 (show 0 ≤ p2 ∧ p2 ≤ 1000000000 by omega) [0, 1, 5, 1000, 1001, -1] (by decide)
  refine ⟨s, a, b, ⟨K, fun k hk => ?_⟩, hs⟩
  have e1 := e1 k hk
  dsimp only at e1 ⊢
  unfold spec_DrawTimeFor.f
  rw [e1, bsome, e2, bsome, e3, bsome]
theorem drawLong_ok {l : List Int} (h : AllBytes l) : ∃ m n, Ev (fun k => spec_DrawLongestPressed.f k l) (m, n) := by
  obtain ⟨x, p1, q1, e1, hx, hp1⟩ := among_ok h 0 (p := 0) (by omega) spec_DrawLongestPressed.ls (by decide)
  have hx2 : 0 ≤ x ∧ x ≤ 41 := by
    unfold spec_DrawLongestPressed.ls at hx
    simp only [List.mem_cons, List.not_mem_nil, or_false] at hx
    omega
  have hm : ∃ m, spec_l1Most.f 1 x = some m ∧ 1 ≤ m ∧ m ≤ 41 := by
    unfold spec_l1Most.f
    split
    · exact ⟨_, rfl, by omega⟩
    · exact ⟨_, rfl, by omega⟩
  obtain ⟨m, e2, hm1, hm2⟩ := hm
  have hw : wrap64 (wrap64 (3 * m) + 2) = 3 * m + 2 := by rw [wr (x := 3 * m) (by omega) (by omega), wr (by omega) (by omega)]
  obtain ⟨y, p2, q2, e3, hy, hp2⟩ := pick_ok h q1 (show 0 ≤ p1 ∧ p1 ≤ 1000000000 by omega) (3 * m + 2) (by omega)
  obtain ⟨z, p3, q3, e4, hz, hp3⟩ := pick_ok h q2 (show 0 ≤ p2 ∧ p2 ≤ 1000000000 by omega) 8 (by omega)
  refine ⟨wrap64 (wrap64 (x + y) - wrap64 (Int.tdiv z 7)), x, ⟨0, fun k _ => ?_⟩⟩
  dsimp only
  unfold spec_DrawLongestPressed.f
  rw [e1, bsome, e2, bsome, hw, e3, bsome, e4, bsome]
end Go.Proofs.YtmbnchgfjijobaaGreatDoor.Pu
end

section
namespace Go.Proofs.YtmbnchgfjijobaaGreatDoor.Pu
open Go.RowKit Go.Proofs.YtmbnchgfjijobaaGreatDoor.P Go.Proofs.YtmbnchgfjijobaaGreatDoorW.PrintWords Go.Proofs.YtmbnchgfjijobaaGreatDoorW.PrintLast Go.Proofs.YtmbnchgfjijobaaGreatDoorW.PrintMore
theorem spoilt_l0 {l : List Int} (h : AllBytes l) (S : ByteArray) (hS : 1 ≤ S.size ∧ S.size ≤ 200) : ∀ (n : Nat) (x : ByteArray) (p q : Int), (0 ≤ p ∧ p + 3 * n ≤ 1000000) → n ≤ 2 → x.size + n ≤ 150 → ∃ r p' q', Ev (fun k => spec_l1Cur_spoilt.l0 k x S (n : Int) l p q) (r, p', q') ∧ r.size ≤ x.size + n ∧ (0 ≤ p' ∧ p' ≤ p + 3 * n)
  | 0, x, p, q, hp, hn, hx => ⟨x, p, q, ev_from 1 fun k hk => by
      obtain ⟨m, rfl⟩ : ∃ m, k = m + 1 := ⟨k - 1, by omega⟩
      rw [spec_l1Cur_spoilt.l0, if_neg (by omega), spec_l1Cur_spoilt.j1, if_neg (by simp)], by omega, by omega⟩
  | n + 1, x, p, q, hp, hn, hx => by
    by_cases h0 : x.size = 0
    · refine ⟨x, p, q, ev_from 1 fun k hk => ?_, by omega, by omega⟩
      obtain ⟨m, rfl⟩ : ∃ m, k = m + 1 := ⟨k - 1, by omega⟩
      rw [spec_l1Cur_spoilt.l0, if_pos (by omega), decide_eq_false (by omega), spec_l1Cur_spoilt.j1, if_neg (by simp)]
    · obtain ⟨i, p1, q1, e1, hi, hp1⟩ := pick_ok h q (show 0 ≤ p ∧ p ≤ 1000000000 by omega) (x.size : Int) (by omega)
      obtain ⟨j, p2, q2, e2, hj, hp2⟩ := pick_ok h q1 (show 0 ≤ p1 ∧ p1 ≤ 1000000000 by omega) (S.size : Int) (by omega)
      obtain ⟨v, p3, q3, e3, hv, hp3⟩ := pick_ok h q2 (show 0 ≤ p2 ∧ p2 ≤ 1000000000 by omega) 3 (by omega)
      have hw : wrap64 (i + 1) = i + 1 := wr (by omega) (by omega)
      have hw2 : wrap64 (((n + 1 : Nat) : Int) - 1) = (n : Int) := (wr (by omega) (by omega)).trans (by omega)
      have z1 : (x.extract 0 i.toNat).size = i.toNat := by rw [ByteArray.size_extract]; omega
      have z2 : (strOfNums [bt S j]).size = 1 := by rw [size_nums]; rfl
      have z3 : (x.extract i.toNat x.size).size = x.size - i.toNat := by rw [ByteArray.size_extract]; omega
      have z4 : (x.extract (i + 1).toNat x.size).size = x.size - (i + 1).toNat := by rw [ByteArray.size_extract]; omega
      by_cases hv0 : v = 0
      · have z5 : (x.extract 0 i.toNat ++ strOfNums [bt S j]).size = i.toNat + 1 := by rw [ByteArray.size_append, z1, z2]
        have z6 : ((x.extract 0 i.toNat ++ strOfNums [bt S j]) ++ x.extract i.toNat x.size).size = x.size + 1 := by rw [ByteArray.size_append, z5, z3]; omega
        obtain ⟨r, p4, q4, ⟨K, e4⟩, hr, hp4⟩ := spoilt_l0 h S hS n ((x.extract 0 i.toNat ++ strOfNums [bt S j]) ++ x.extract i.toNat x.size) p3 q3 (by omega) (by omega) (by omega)
        refine ⟨r, p4, q4, ev_from (K + 1) fun k hk => ?_, by omega, by omega⟩
        obtain ⟨m, rfl⟩ : ∃ m, k = m + 1 := ⟨k - 1, by omega⟩
        have e4 := e4 m (by omega)
        dsimp only at e4
        rw [spec_l1Cur_spoilt.l0, if_pos (by omega), decide_eq_true (by omega), spec_l1Cur_spoilt.j1, if_pos rfl, e1, bsome]
        dsimp only
        rw [e2, bsome]
        dsimp only
        rw [if_pos hj.1, if_pos hj.2, bsome, e3, bsome]
        dsimp only
        rw [if_pos hv0, if_pos hi.1, if_pos (by omega), if_pos (by omega), if_pos (by omega), hw2]
        exact e4
      · by_cases hv1 : v = 1
        · have z5 : (x.extract 0 i.toNat ++ strOfNums [bt S j]).size = i.toNat + 1 := by rw [ByteArray.size_append, z1, z2]
          have z6 : ((x.extract 0 i.toNat ++ strOfNums [bt S j]) ++ x.extract (i + 1).toNat x.size).size = x.size := by rw [ByteArray.size_append, z5, z4]; omega
          obtain ⟨r, p4, q4, ⟨K, e4⟩, hr, hp4⟩ := spoilt_l0 h S hS n ((x.extract 0 i.toNat ++ strOfNums [bt S j]) ++ x.extract (i + 1).toNat x.size) p3 q3 (by omega) (by omega) (by omega)
          refine ⟨r, p4, q4, ev_from (K + 1) fun k hk => ?_, by omega, by omega⟩
          obtain ⟨m, rfl⟩ : ∃ m, k = m + 1 := ⟨k - 1, by omega⟩
          have e4 := e4 m (by omega)
          dsimp only at e4
          rw [spec_l1Cur_spoilt.l0, if_pos (by omega), decide_eq_true (by omega), spec_l1Cur_spoilt.j1, if_pos rfl, e1, bsome]
          dsimp only
          rw [e2, bsome]
          dsimp only
          rw [if_pos hj.1, if_pos hj.2, bsome, e3, bsome]
          dsimp only
          rw [if_neg hv0, if_pos hv1, if_pos hi.1, if_pos (by omega), if_pos (by omega), hw, if_pos (by omega), if_pos (by omega), if_pos (by omega), hw2]
          exact e4
        · have z6 : (x.extract 0 i.toNat ++ x.extract (i + 1).toNat x.size).size + 1 = x.size := by rw [ByteArray.size_append, z1, z4]; omega
          obtain ⟨r, p4, q4, ⟨K, e4⟩, hr, hp4⟩ := spoilt_l0 h S hS n (x.extract 0 i.toNat ++ x.extract (i + 1).toNat x.size) p3 q3 (by omega) (by omega) (by omega)
          refine ⟨r, p4, q4, ev_from (K + 1) fun k hk => ?_, by omega, by omega⟩
          obtain ⟨m, rfl⟩ : ∃ m, k = m + 1 := ⟨k - 1, by omega⟩
          have e4 := e4 m (by omega)
          dsimp only at e4
          rw [spec_l1Cur_spoilt.l0, if_pos (by omega), decide_eq_true (by omega), spec_l1Cur_spoilt.j1, if_pos rfl, e1, bsome]
          dsimp only
          rw [e2, bsome]
          dsimp only
          rw [if_pos hj.1, if_pos hj.2, bsome, e3, bsome]
          dsimp only
          rw [if_neg hv0, if_neg hv1, if_pos hi.1, if_pos (by omega), hw, if_pos (by omega), if_pos (by omega), if_pos (by omega), hw2]
          exact e4
theorem spoilt_ok {l : List Int} (h : AllBytes l) (S : ByteArray) (hS : 1 ≤ S.size ∧ S.size ≤ 200) (x : ByteArray) (hx : x.size ≤ 100) {p : Int} (q : Int) (hp : 0 ≤ p ∧ p ≤ 100000) : ∃ r p' q', Ev (fun k => spec_l1Cur_spoilt.f k l p q x S) (r, p', q') ∧ r.size ≤ x.size + 2 := by
  obtain ⟨n, p1, q1, e1, hn, hp1⟩ := pick_ok h q (show 0 ≤ p ∧ p ≤ 1000000000 by omega) 2 (by omega)
  obtain ⟨m, rfl⟩ : ∃ m : Nat, n = (m : Int) := ⟨n.toNat, by omega⟩
  obtain ⟨r, p2, q2, ⟨K, e2⟩, hr, hp2⟩ := spoilt_l0 h S hS (m + 1) x p1 q1 (by omega) (by omega) (by omega)
  refine ⟨r, p2, q2, ⟨K, fun k hk => ?_⟩, by omega⟩
  have e2 := e2 k hk
  dsimp only at e2 ⊢
  unfold spec_l1Cur_spoilt.f
  rw [e1, bsome]
  dsimp only
  rw [show wrap64 (1 + (m : Int)) = ((m + 1 : Nat) : Int) from (wr (by omega) (by omega)).trans (by omega)]
  exact e2
theorem drawRead_ok {l : List Int} (h : AllBytes l) : ∃ s, Ev (fun k => spec_DrawReadPresses.f k l) s ∧ s.size ≤ 100 := by
  obtain ⟨s, p1, q1, ⟨K1, e1⟩, hs, hl, hp1⟩ := sureWord_ok h 0 (p := 0) (by omega) 6 (by omega)
  obtain ⟨K2, e2⟩ := prText_ev s (by omega) hl
  have hsz : (pressS s).size ≤ 30 := by
    unfold pressS
    rw [size_nums]
    have := textN_length (bytesOf s) 0 hl
    rw [bytesOf_length] at this
    omega
  obtain ⟨o, p2, q2, e3, hp2⟩ := one_ok h q1 (show 0 ≤ p1 ∧ p1 ≤ 1000000000 by omega) 3 (by omega)
  cases o with
  | true =>
    obtain ⟨r, p3, q3, ⟨K4, e4⟩, hr⟩ := spoilt_ok h spec_DrawReadPresses.sp (by decide) (pressS s) (by omega) q2 (show 0 ≤ p2 ∧ p2 ≤ 100000 by omega)
    refine ⟨r, ⟨K1 + K2 + K4, fun k hk => ?_⟩, by omega⟩
    have e1 := e1 k (by omega)
    have e2 := e2 k (by omega)
    have e4 := e4 k (by omega)
    dsimp only at e1 e2 e4 ⊢
    unfold spec_DrawReadPresses.f
    rw [e1, bsome, e2, bsome, e3, bsome, if_pos rfl, e4, bsome]
  | false =>
    refine ⟨pressS s, ⟨K1 + K2, fun k hk => ?_⟩, by omega⟩
    have e1 := e1 k (by omega)
    have e2 := e2 k (by omega)
    dsimp only at e1 e2 ⊢
    unfold spec_DrawReadPresses.f
    rw [e1, bsome, e2, bsome, e3, bsome, if_neg (by simp)]
end Go.Proofs.YtmbnchgfjijobaaGreatDoor.Pu
end

section
namespace Go.Proofs.YtmbnchgfjijobaaGreatDoor.Pu
open Go.RowKit Go.Proofs.YtmbnchgfjijobaaGreatDoor.P Go.Proofs.YtmbnchgfjijobaaGreatDoorW.PrintWords Go.Proofs.YtmbnchgfjijobaaGreatDoorW.PrintLast Go.Proofs.YtmbnchgfjijobaaGreatDoorW.PrintMore
def pressT (s : ByteArray) : ByteArray × Bool := if wordB s = true then (pressS s, true) else ((⟨#[]⟩ : ByteArray), false)
theorem pressTS_ev (s : ByteArray) (hs : s.size ≤ 140737488351232) : Ev (fun k => spec_PressText.f k s) (pressT s) := by
  obtain ⟨K0, e0⟩ := prWord_ev s hs
  unfold pressT
  by_cases hw : wordB s = true
  · obtain ⟨⟨h1, h2⟩, hl⟩ := wordB_iff.1 hw
    obtain ⟨K1, e1⟩ := prText_ev s (by omega) hl
    refine ⟨K0 + K1, fun k hk => ?_⟩
    have e0 := e0 k (by omega)
    have e1 := e1 k (by omega)
    dsimp only at e0 e1 ⊢
    unfold spec_PressText.f
    rw [e0, bsome, if_pos hw, e1, bsome, if_pos hw]
  · refine ⟨K0, fun k hk => ?_⟩
    have e0 := e0 k hk
    dsimp only at e0 ⊢
    unfold spec_PressText.f
    rw [e0, bsome, if_neg hw, if_neg hw]
theorem pressTI_ev (s : ByteArray) (hs : s.size ≤ 140737488351232) : Ev (fun k => impl_PressText.f k s) (pressT s) := by
  unfold pressT
  by_cases hw : wordB s = true
  · obtain ⟨⟨h1, h2⟩, hl⟩ := wordB_iff.1 hw
    obtain ⟨K1, e1⟩ := pressText_ev s (by omega) hl
    refine ⟨K1, fun k hk => ?_⟩
    have e1 := e1 k (by omega)
    dsimp only at e1 ⊢
    unfold impl_PressText.f
    rw [isWord_is s hs, bsome, if_pos hw, e1, bsome, if_pos hw]
  · refine ⟨0, fun k hk => ?_⟩
    dsimp only
    unfold impl_PressText.f
    rw [isWord_is s hs, bsome, if_neg hw, if_neg hw]
theorem isWordS_ev (s : ByteArray) (hs : s.size ≤ 140737488351232) : Ev (fun k => spec_IsWord.f k s) (wordB s) := by
  obtain ⟨K0, e0⟩ := prWord_ev s hs
  refine ⟨K0, fun k hk => ?_⟩
  have e0 := e0 k hk
  dsimp only at e0 ⊢
  unfold spec_IsWord.f
  rw [e0, bsome]
theorem one_sign {s : ByteArray} (h : s.size = 1) : bytesOf s = [bt s 0] := by
  have := drop_bytes s 0 (by omega)
  simp only [List.drop_zero] at this
  rw [this, show (0 : Nat) + 1 = s.size by omega, drop_end]
  rfl
theorem keysN_one {s : ByteArray} (h : s.size = 1) : keysN s = strOfNums [keyN (bt s 0)] := by
  unfold keysN
  rw [one_sign h]
  rfl
def keyT (s : ByteArray) : ByteArray × Bool := if (wordB s && decide (s.size = 1)) = true then (strOfNums [keyN (bt s 0)], true) else ((⟨#[]⟩ : ByteArray), false)
theorem keyTI_ev (s : ByteArray) (hs : s.size ≤ 140737488351232) : Ev (fun k => impl_KeyOf.f k s) (keyT s) := by
  unfold keyT
  cases hw : wordB s with
  | true =>
    by_cases h1 : s.size = 1
    · obtain ⟨K1, e1⟩ := keysOf_ev s (by omega) (wordB_iff.1 hw).2
      refine ⟨K1, fun k hk => ?_⟩
      have e1 := e1 k hk
      dsimp only at e1 ⊢
      unfold impl_KeyOf.f
      rw [isWord_is s hs, bsome, if_pos hw, if_pos (by omega), e1, bsome, decide_eq_true h1, if_pos (by rfl), keysN_one h1]
    · refine ⟨0, fun k hk => ?_⟩
      dsimp only
      unfold impl_KeyOf.f
      rw [isWord_is s hs, bsome, if_pos hw, if_neg (by omega), decide_eq_false h1, if_neg (by simp)]
  | false =>
    refine ⟨0, fun k hk => ?_⟩
    dsimp only
    unfold impl_KeyOf.f
    rw [isWord_is s hs, bsome, hw, if_neg (by simp), if_neg (by simp)]
theorem keyTS_ev (s : ByteArray) (hs : s.size ≤ 140737488351232) : Ev (fun k => spec_KeyOf.f k s) (keyT s) := by
  obtain ⟨K0, e0⟩ := prWord_ev s hs
  unfold keyT
  cases hw : wordB s with
  | true =>
    rw [hw] at e0
    by_cases h1 : s.size = 1
    · obtain ⟨K1, e1⟩ := prKey_ev (bt s 0) ((wordB_iff.1 hw).2 _ (bt_mem s 0 (by omega)))
      have hk := keyN_range (bt s 0)
      refine ⟨K0 + K1, fun k hk => ?_⟩
      have e0 := e0 k (by omega)
      have e1 := e1 k (by omega)
      dsimp only at e0 e1 ⊢
      unfold spec_KeyOf.f
      rw [e0, bsome, if_pos rfl, if_pos (by omega), if_pos (by omega), e1, bsome, decide_eq_true h1, if_pos (by rfl)]
      dsimp only
      rw [wr32 (by omega) (by omega), encode_small (by omega) (by omega)]
    · refine ⟨K0, fun k hk => ?_⟩
      have e0 := e0 k (by omega)
      dsimp only at e0 ⊢
      unfold spec_KeyOf.f
      rw [e0, bsome, if_pos rfl, if_neg (by omega), decide_eq_false h1, if_neg (by simp)]
  | false =>
    rw [hw] at e0
    refine ⟨K0, fun k hk => ?_⟩
    have e0 := e0 k (by omega)
    dsimp only at e0 ⊢
    unfold spec_KeyOf.f
    rw [e0, bsome, if_neg (by simp), if_neg (by simp)]
def forT (s : ByteArray) : Int × Bool := if (wordB s && decide (s.size = 1)) = true then (posN (bt s 0) + 1, true) else (0, false)
theorem forTI_ev (s : ByteArray) (hs : s.size ≤ 140737488351232) : Ev (fun k => impl_PressesFor.f k s) (forT s) := by
  obtain ⟨K0, e0⟩ := countPresses_ev s hs
  unfold forT
  refine ⟨K0, fun k hk => ?_⟩
  have e0 := e0 k hk
  dsimp only at e0 ⊢
  unfold impl_PressesFor.f
  by_cases h1 : s.size = 1
  · rw [if_pos (by omega), e0, bsome, decide_eq_true h1]
    cases hw : wordB s with
    | true =>
      rw [if_pos rfl, if_pos (by rfl), one_sign h1]
      simp [pressN]
    | false =>
      rw [if_neg (by simp), if_neg (by simp)]
  · rw [if_neg (by omega), decide_eq_false h1, if_neg (by simp)]
theorem forTS_ev (s : ByteArray) (hs : s.size ≤ 140737488351232) : Ev (fun k => spec_PressesFor.f k s) (forT s) := by
  obtain ⟨K0, e0⟩ := prWord_ev s hs
  unfold forT
  cases hw : wordB s with
  | true =>
    rw [hw] at e0
    by_cases h1 : s.size = 1
    · obtain ⟨K1, e1⟩ := prKey_ev (bt s 0) ((wordB_iff.1 hw).2 _ (bt_mem s 0 (by omega)))
      refine ⟨K0 + K1, fun k hk => ?_⟩
      have e0 := e0 k (by omega)
      have e1 := e1 k (by omega)
      dsimp only at e0 e1 ⊢
      unfold spec_PressesFor.f
      rw [e0, bsome, if_pos rfl, if_pos (by omega), if_pos (by omega), e1, bsome, decide_eq_true h1, if_pos (by rfl)]
    · refine ⟨K0, fun k hk => ?_⟩
      have e0 := e0 k (by omega)
      dsimp only at e0 ⊢
      unfold spec_PressesFor.f
      rw [e0, bsome, if_pos rfl, if_neg (by omega), decide_eq_false h1, if_neg (by simp)]
  | false =>
    rw [hw] at e0
    refine ⟨K0, fun k hk => ?_⟩
    have e0 := e0 k (by omega)
    dsimp only at e0 ⊢
    unfold spec_PressesFor.f
    rw [e0, bsome, if_neg (by simp), if_neg (by simp)]
def lastK (s : ByteArray) (i : Nat) : Int := if i = 0 then 0 else keyN (bt s ((i : Int) - 1))
theorem lpT_ev {s : ByteArray} (h : wordB s = true) : ∀ (d i : Nat) (sum st : Int), i + d = s.size → (0 ≤ sum ∧ sum ≤ 4 * i) → (0 ≤ st ∧ st ≤ i) → Ev (fun k => laws_FnPressesTold.lp k s (keysN s) d i sum st) (sum + pressN ((bytesOf s).drop i), st + (waitN ((bytesOf s).drop i) (lastK s i) : Int))
  | 0, i, sum, st, hi, h1, h2 => by
    rw [show i = s.size by omega, drop_end]
    exact ⟨0, fun k _ => by simp [laws_FnPressesTold.lp, pressN, waitN]⟩
  | d + 1, i, sum, st, hi, h1, h2 => by
    have h40 := (wordB_iff.1 h).1
    have hi2 : i < s.size := by omega
    have hb := (wordB_iff.1 h).2 _ (bt_mem s i hi2)
    have hp := posN_range _ hb
    have hk := keyN_range (bt s (i : Int))
    obtain ⟨c1, c2, c3⟩ := cut_word h hi2
    obtain ⟨K1, e1⟩ := keyTI_ev (s.extract i (i + 1)) (by omega)
    obtain ⟨K2, e2⟩ := forTI_ev (s.extract i (i + 1)) (by omega)
    have t1 : keyT (s.extract i (i + 1)) = ((keysN s).extract i (i + 1), true) := by
      unfold keyT
      rw [c1, decide_eq_true c2, if_pos (by rfl), c3, cut_keys hi2]
    have t2 : forT (s.extract i (i + 1)) = (posN (bt s (i : Int)) + 1, true) := by
      unfold forT
      rw [c1, decide_eq_true c2, if_pos (by rfl), c3]
    rw [t1] at e1
    rw [t2] at e2
    have hst : (if 0 < i ∧ bt (keysN s) ((i : Int) - 1) = bt (keysN s) (i : Int) then wrap64 (st + 1) else st) = st + (if keyN (bt s (i : Int)) = lastK s i then 1 else 0) := by
      rw [keys_at hi2]
      unfold lastK
      by_cases h0 : i = 0
      · rw [if_neg (fun hx => by omega), if_pos h0, if_neg (by omega)]
        omega
      · have hp1 : bt (keysN s) ((i : Int) - 1) = keyN (bt s ((i : Int) - 1)) := by
          have := keys_at (s := s) (i := i - 1) (by omega)
          rwa [show ((i - 1 : Nat) : Int) = (i : Int) - 1 by omega] at this
        rw [hp1, if_neg h0]
        by_cases he : keyN (bt s ((i : Int) - 1)) = keyN (bt s (i : Int))
        · rw [if_pos ⟨by omega, he⟩, if_pos he.symm, wr (by omega) (by omega)]
        · rw [if_neg (fun hx => he hx.2), if_neg (fun hx => he hx.symm)]
          omega
    obtain ⟨K3, e3⟩ := lpT_ev h d (i + 1) (sum + (posN (bt s (i : Int)) + 1)) (st + (if keyN (bt s (i : Int)) = lastK s i then 1 else 0)) (by omega) (by omega) (by split <;> omega)
    have hlast : lastK s (i + 1) = keyN (bt s (i : Int)) := by
      unfold lastK
      rw [if_neg (by omega), show ((i + 1 : Nat) : Int) - 1 = (i : Int) by omega]
    rw [hlast] at e3
    refine ⟨K1 + K2 + K3, fun k hk => ?_⟩
    have e1 := e1 k (by omega)
    have e2 := e2 k (by omega)
    have e3 := e3 k (by omega)
    dsimp only at e1 e2 e3 ⊢
    rw [laws_FnPressesTold.lp, e1, bsome, e2, bsome]
    dsimp only
    rw [if_pos ⟨rfl, rfl, by omega, by omega⟩, hst, wr (by omega) (by omega), e3, drop_bytes s i hi2, pressN, waitN]
    congr 2
    · omega
    · split <;> simp <;> omega
theorem asc_of {s : ByteArray} (h : ∀ c ∈ bytesOf s, c < 128) : laws_FnPressesTold.asc s := by
  intro i hi
  have := h (((s[i]'hi).toNat : Nat) : Int) (by
    unfold bytesOf
    refine List.mem_map.2 ⟨s[i]'hi, ?_, rfl⟩
    have e : s[i]'hi = s.data.toList[i]'(by simpa using hi) := by simp [ByteArray.getElem_eq_getElem_data]
    rw [e]
    exact List.getElem_mem _)
  exact UInt8.lt_iff_toNat_lt.2 (by exact_mod_cast this)
theorem pga_ok {l0 : List Int} (h : AllBytes l0) : ∃ wd tx ks ct wt ok, ∃ K, ∀ k, K ≤ k → laws_FnPressesTold.GA k l0 wd tx ks ct wt ok := by
  obtain ⟨s, ⟨K1, e1⟩, hs⟩ := drawWord_ok h
  have s1 := hs.1
  obtain ⟨K2, e2⟩ := pressTI_ev s (by omega)
  obtain ⟨K3, e3⟩ := pressTS_ev s (by omega)
  obtain ⟨K4, e4⟩ := iKeysOf_ev s (by omega)
  obtain ⟨K5, e5⟩ := sKeysOf_ev s (by omega)
  obtain ⟨K6, e6⟩ := countPresses_ev s (by omega)
  obtain ⟨K7, e7⟩ := sCountPresses_ev s (by omega)
  obtain ⟨K8, e8⟩ := waitsI_ev s (by omega)
  obtain ⟨K9, e9⟩ := waitsS_ev s (by omega)
  have e10 := isWord_is s (by omega)
  obtain ⟨K11, e11⟩ := isWordS_ev s (by omega)
  unfold pressT at e2 e3
  unfold waitT at e8 e9
  cases hw : wordB s with
  | false =>
    rw [hw] at e2 e3 e4 e5 e6 e7 e8 e9 e10 e11
    rw [if_neg (by simp)] at e2 e3 e4 e5 e6 e7 e8 e9
    exact ⟨s, _, _, _, _, false, K1 + K2 + K3 + K4 + K5 + K6 + K7 + K8 + K9 + K11, fun k hk => ⟨e1 k (by omega), e2 k (by omega), e3 k (by omega), e4 k (by omega), e5 k (by omega), e6 k (by omega), e7 k (by omega), e8 k (by omega), e9 k (by omega), e10, e11 k (by omega), fun x => (by cases x)⟩⟩
  | true =>
    rw [hw] at e2 e3 e4 e5 e6 e7 e8 e9 e10 e11
    rw [if_pos rfl] at e2 e3 e4 e5 e6 e7 e8 e9
    obtain ⟨⟨h1, h2⟩, hl⟩ := wordB_iff.1 hw
    obtain ⟨K12, e12⟩ := readI_ev (pressS s) (by
      have := press_size hw
      have h4 := pressN_range _ hl
      have h5 := waitN_le (bytesOf s) 0
      rw [bytesOf_length] at h4 h5
      omega)
    obtain ⟨K13, e13⟩ := lpT_ev hw s.size 0 0 0 (by omega) (by omega) (by omega)
    rw [List.drop_zero, Int.zero_add, Int.zero_add] at e13
    have hps := press_size hw
    have h4 := pressN_range _ hl
    have h5 := waitN_le (bytesOf s) 0
    rw [bytesOf_length] at h4 h5
    refine ⟨s, _, _, _, _, true, K1 + K2 + K3 + K4 + K5 + K6 + K7 + K8 + K9 + K11 + K12 + K13, fun k hk => ⟨e1 k (by omega), e2 k (by omega), e3 k (by omega), e4 k (by omega), e5 k (by omega), e6 k (by omega), e7 k (by omega), e8 k (by omega), e9 k (by omega), e10, e11 k (by omega), fun _ => ⟨?_, keysN_size s, fun hx => ?_, asc_of hs.2, by omega, ?_⟩⟩⟩
    · rw [hps, wr (by omega) (by omega)]
    · have e12 := e12 k (by omega)
      dsimp only at e12
      rw [e12, read_back hw hx]
    · exact e13 k (by omega)
theorem pgg_ok {l1 : List Int} (h : AllBytes l1) : ∃ w2 ps wa ti seven lt ke pn nine pr rd_ th mn le lo ff, ∃ K, ∀ k, K ≤ k → laws_FnPressesTold.GG k l1 w2 ps wa ti seven lt ke pn nine pr rd_ th mn le lo ff := by
  obtain ⟨w2, ps, wa, ⟨K1, e1⟩, hw2⟩ := drawTime_ok h
  obtain ⟨lt, ⟨K4, e4⟩, hlt⟩ := drawLetter_ok h
  obtain ⟨pr, ⟨K9, e9⟩, hpr⟩ := drawRead_ok h
  obtain ⟨mn, le, ⟨K12, e12⟩⟩ := drawLong_ok h
  have z1 := hw2.1
  have z2 := hlt.1
  obtain ⟨K2, e2⟩ := timeI_ev w2 (by omega) ps wa
  obtain ⟨K3, e3⟩ := timeS_ev w2 (by omega) ps wa
  obtain ⟨K5, e5⟩ := keyTI_ev lt (by omega)
  obtain ⟨K6, e6⟩ := keyTS_ev lt (by omega)
  obtain ⟨K7, e7⟩ := forTI_ev lt (by omega)
  obtain ⟨K8, e8⟩ := forTS_ev lt (by omega)
  obtain ⟨K10, e10⟩ := readI_ev pr (by omega)
  obtain ⟨K11, e11⟩ := readS_ev pr
  obtain ⟨K13, e13⟩ := iLong_ev mn le
  obtain ⟨K14, e14⟩ := sLong_ev mn le
  have hnine : (forT lt).2 = (keyT lt).2 := by
    unfold forT keyT
    split <;> rfl
  have f7 : ∃ K, ∀ k, K ≤ k → (timeT w2 ps wa).2 = true → ∃ ca cb, impl_CountPresses.f k w2 = some (ca, true) ∧ impl_WaitsIn.f k w2 = some (cb, true) ∧ (timeT w2 ps wa).1 = wrap64 (wrap64 (ca * ps) + wrap64 (cb * wa)) := by
    obtain ⟨J1, j1⟩ := countPresses_ev w2 (by omega)
    obtain ⟨J2, j2⟩ := waitsI_ev w2 (by omega)
    refine ⟨J1 + J2, fun k hk => ?_⟩
    have j1 := j1 k (by omega)
    have j2 := j2 k (by omega)
    dsimp only at j1 j2
    unfold waitT at j2
    unfold timeT
    split
    · rename_i hw
      rw [if_pos hw] at j1 j2
      split
      · split
        · exact fun _ => ⟨_, _, j1, j2, rfl⟩
        · intro x; cases x
      · intro x; cases x
    · intro x; cases x
  obtain ⟨K15, f7⟩ := f7
  have f13 : ∃ K, ∀ k, K ≤ k → (readU pr).2 = true → impl_PressText.f k (readU pr).1 = some (pr, true) := by
    by_cases hx : (readU pr).2 = true
    · obtain ⟨r1, r2⟩ := back_read (s := pr) (r := (readU pr).1) (by rw [← hx])
      have r40 := (wordB_iff.1 r1).1
      obtain ⟨J1, j1⟩ := pressTI_ev (readU pr).1 (by omega)
      refine ⟨J1, fun k hk _ => ?_⟩
      have j1 := j1 k hk
      dsimp only at j1
      rw [j1]
      unfold pressT
      rw [if_pos r1, r2]
    · exact ⟨0, fun k _ e => absurd e hx⟩
  obtain ⟨K16, f13⟩ := f13
  have f15 : ∃ K, ∀ k, K ≤ k → (longR mn le).2 = true → impl_CountPresses.f k (longR mn le).1 = some (mn, true) ∧ ((longR mn le).1.size : Int) = le := by
    by_cases hx : (longR mn le).2 = true
    · obtain ⟨r1, r2, r3⟩ := long_ok (m := mn) (l := le) (b := (longR mn le).1) (by rw [← hx])
      have r40 := (wordB_iff.1 r1).1
      obtain ⟨J1, j1⟩ := countPresses_ev (longR mn le).1 (by omega)
      refine ⟨J1, fun k hk _ => ⟨?_, r3⟩⟩
      have j1 := j1 k hk
      dsimp only at j1
      rw [j1, if_pos r1, r2]
    · exact ⟨0, fun k _ e => absurd e hx⟩
  obtain ⟨K17, f15⟩ := f15
  exact ⟨w2, ps, wa, (timeT w2 ps wa).1, (timeT w2 ps wa).2, lt, (keyT lt).1, (forT lt).1, (keyT lt).2, pr, (readU pr).1, (readU pr).2, mn, le, (longR mn le).1, (longR mn le).2,
    K1 + K2 + K3 + K4 + K5 + K6 + K7 + K8 + K9 + K10 + K11 + K12 + K13 + K14 + K15 + K16 + K17, fun k hk => ⟨e1 k (by omega), e2 k (by omega), e3 k (by omega), e4 k (by omega), e5 k (by omega), e6 k (by omega), (e7 k (by omega)).trans (by rw [← hnine]), (e8 k (by omega)).trans (by rw [← hnine]), e9 k (by omega), e10 k (by omega), e11 k (by omega), e12 k (by omega), e13 k (by omega), e14 k (by omega), f7 k (by omega), f13 k (by omega), f15 k (by omega)⟩⟩
end Go.Proofs.YtmbnchgfjijobaaGreatDoor.Pu
end

section
namespace Go.Proofs.YtmbnchgfjijobaaGreatDoor.Pure
open Go.RowKit Go.Proofs.YtmbnchgfjijobaaGreatDoor.P Go.Proofs.YtmbnchgfjijobaaGreatDoor.Pu Go.Proofs.YtmbnchgfjijobaaGreatDoorW.PrintWords Go.Proofs.YtmbnchgfjijobaaGreatDoorW.PrintLast
theorem wf_bytes {l : List Int} (h : ∀ x ∈ l, (Lit.int .u8 x).wf = true) : AllBytes l := by
  intro c hc
  have h := h c hc
  simp only [Lit.wf] at h
  rw [Bool.and_eq_true] at h
  have h1 := of_decide_eq_true h.1
  have h2 := of_decide_eq_true h.2
  exact ⟨h1, h2⟩
theorem FnPressesTold : laws_FnPressesTold.Pure := by
  intro l0 l1 _ h0 b0 _ h1 b1
  by_cases hb : laws_big.f l0 l1 = some true
  · exact ⟨0, .inl hb⟩
  · have hf : laws_big.f l0 l1 = some false := by
      unfold laws_big.f at hb ⊢
      split at hb
      · exact absurd rfl hb
      · cases hd : decide ((l1.length : Int) > (wrap64 (1048576 - (l0.length : Int)))) with
        | true => rw [hd] at hb; exact absurd rfl hb
        | false => rw [if_neg (by assumption)]
    obtain ⟨wd, tx, ks, ct, wt, ok, K1, hA⟩ := pga_ok (wf_bytes b0)
    obtain ⟨w2, ps, wa, ti, seven, lt, ke, pn, nine, pr, rd_, th, mn, le, lo, ff, K2, hG⟩ := pgg_ok (wf_bytes b1)
    exact ⟨K1 + K2, .inr ⟨hf, ⟨wd, tx, ks, ct, wt, ok, hA _ (by omega)⟩, ⟨w2, ps, wa, ti, seven, lt, ke, pn, nine, pr, rd_, th, mn, le, lo, ff, hG _ (by omega)⟩⟩⟩
end Go.Proofs.YtmbnchgfjijobaaGreatDoor.Pure
end

