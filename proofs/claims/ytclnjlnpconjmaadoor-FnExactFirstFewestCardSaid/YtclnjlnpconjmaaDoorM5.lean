/- Parts of the proof (printed walks, lemmas of our own, contracts of the library laid for this program), merged into one text by wip/mclaim.py. Conditions: each theorem's own. -/
import Derived.Test.YtclnjlnpconjmaaDoorM0
import Derived.Test.YtclnjlnpconjmaaDoorM3
import Derived.Test.YtclnjlnpconjmaaDoorM4
import Derived.Test.YtclnjlnpconjmaaDoorM2
import Derived.Test.YtclnjlnpconjmaaDoorM1
import Derived.Lib.SlTrimSet
section
namespace Go.Proofs.YtclnjlnpconjmaaDoor.P
open Go.RowKit Go.Proofs.YtclnjlnpconjmaaDoorW.PrintWords Go.Proofs.YtclnjlnpconjmaaDoorW.PrintLast Go.Proofs.YtclnjlnpconjmaaDoorW.PrintMore
attribute [local go_sem] max2_int min2_int max_two min_two max_three min_three max_four min_four   -- for this text's walks alone
set_option linter.unusedVariables false
set_option linter.unusedSimpArgs false
def impl_firstSplit.q (k : Nat) (keys : ByteArray) (i : Int) (few : Bool) (least : List Int) (x : ByteArray) : Option Bool :=
  (impl_keysOf.f k x).bind fun y => (strings_HasPrefix.f (keys.extract i.toNat keys.size) y).bind fun b => (if b = true then (if 0 ≤ wrap64 (i + (x.size : Int)) then (if wrap64 (i + (x.size : Int)) < (least.length : Int) then (some (decide (0 ≤ rd least (wrap64 (i + (x.size : Int)))) && (!few || (rd least (wrap64 (i + (x.size : Int))) == wrap64 (rd least i - 1))))) else (none)) else (none)) else (some false))
theorem impl_firstSplit.q_mono (k : Nat) (keys : ByteArray) (i : Int) (few : Bool) (least : List Int) (x : ByteArray) : LeO (impl_firstSplit.q k keys i few least x) (impl_firstSplit.q (k + 1) keys i few least x) := by
  intro r h
  unfold impl_firstSplit.q at h ⊢
  obtain ⟨y, hy, h⟩ := Option.bind_eq_some_iff.1 h
  rw [impl_keysOf.mono x k y hy, Option.bind_some]
  exact h
set_option maxHeartbeats 8000000 in
set_option maxRecDepth 100000 in
theorem impl_firstSplit.own (k : Nat) (W : World) (b4 b11 b9 b5 : Nat) (keys : ByteArray) (i : Int) (few : Bool) (A : Option Addr) (c : Nat) (least : List Int) (x : ByteArray) (b : Bool) 
    (h4 : W.cell? ⟨b4, 0, none⟩ = some (.string keys)) (h11 : W.cell? ⟨b11, 0, none⟩ = some (.int .i64 i)) (h9 : W.cell? ⟨b9, 0, none⟩ = some (.slice A least.length c)) (h5 : W.cell? ⟨b5, 0, none⟩ = some (.bool few))
    (hl : Kd.C (Kd.int .i64) W A least.length least) (hi0 : 0 ≤ i) (hi1 : i ≤ (keys.size : Int)) (hi2 : i < (least.length : Int)) (hq : impl_firstSplit.q k keys i few least x = some b) :
    Calls Tryd.prog 49 (#[.string x] ++ #[.pointer (some ⟨b4, 0, none⟩), .pointer (some ⟨b11, 0, none⟩), .pointer (some ⟨b9, 0, none⟩), .pointer (some ⟨b5, 0, none⟩)]) W fun e w' => e = .returned (.bool b) ∧ Below W.heap.size W w' := by
  unfold impl_firstSplit.q at hq
  obtain ⟨y, hy, hq⟩ := Option.bind_eq_some_iff.1 hq
  obtain ⟨hp, hhp, hq⟩ := Option.bind_eq_some_iff.1 hq
  have HY := Aside0.mk hy
  have HP := Aside0.mk hhp
  clear hy hhp
  obtain ⟨ai, rfl, ci⟩ := Kd.at_int hl i hi0 hi2
  cases hp with
  | false =>
    rw [if_neg (by simp)] at hq
    obtain rfl := Option.some.inj hq
    go_enter Tryd.func49, Tryd.ntmps49
    go_wp2
    go_region_held3 (fun w' => w'.cell? ⟨b4, 0, none⟩ = some (.string keys) ∧ w'.cell? ⟨b11, 0, none⟩ = some (.int .i64 i)) (first | go_keep | (go_split_ands; exact ⟨(hb.cell (World.block_lt_of_cell? _ _ (by assumption))).trans (by assumption), (hb.cell (World.block_lt_of_cell? _ _ (by assumption))).trans (by assumption)⟩)) (first | (go_at_call 44; refine (impl_keysOf.calls k x y _ HY.out).mono ?_; rintro e w' ⟨rfl, hb⟩) | (go_at_call 50; refine (strings_HasPrefix.calls _ y false _ HP.out).mono ?_; rintro e w' ⟨rfl, ⟨nd, rfl⟩⟩))
    all_goals go_wp2
    all_goals go_ret
    all_goals exact ⟨rfl, by first | exact ((Below.refl W.heap.size W).drew).trans hb | exact pw_below_drewN (((Below.refl W.heap.size W).drew).trans hb) _⟩
  | true =>
    rw [if_pos rfl] at hq
    split at hq
    · rename_i hj0
      split at hq
      · rename_i hj1
        have hb0 := Option.some.inj hq
        clear hq
        obtain ⟨aj, ej, cj⟩ := Kd.at_int hl (wrap64 (i + (x.size : Int))) hj0 hj1
        cases ej
        clear hl
        have hwj := i64_w (i + (x.size : Int))
        generalize wrap64 (i + (x.size : Int)) = j at *
        have hwv := i64_w (rd least i - 1)
        generalize rd least i = vi at *
        generalize rd least j = vj at *
        go_enter Tryd.func49, Tryd.ntmps49
        go_wp2
        go_region_held3 (fun w' => w'.cell? ⟨b4, 0, none⟩ = some (.string keys) ∧ w'.cell? ⟨b11, 0, none⟩ = some (.int .i64 i)) (first | go_keep | (go_split_ands; exact ⟨(hb.cell (World.block_lt_of_cell? _ _ (by assumption))).trans (by assumption), (hb.cell (World.block_lt_of_cell? _ _ (by assumption))).trans (by assumption)⟩)) (first | (go_at_call 44; refine (impl_keysOf.calls k x y _ HY.out).mono ?_; rintro e w' ⟨rfl, hb⟩) | (go_at_call 50; refine (strings_HasPrefix.calls _ y true _ HP.out).mono ?_; rintro e w' ⟨rfl, ⟨nd, rfl⟩⟩))
        have h4' := (hb.cell (World.block_lt_of_cell? _ _ h4)).trans h4
        have h11' := (hb.cell (World.block_lt_of_cell? _ _ h11)).trans h11
        have h9' := (hb.cell (World.block_lt_of_cell? _ _ h9)).trans h9
        have h5' := (hb.cell (World.block_lt_of_cell? _ _ h5)).trans h5
        have ci' := (hb.cell (World.block_lt_of_cell? _ _ ci)).trans ci
        have cj' := (hb.cell (World.block_lt_of_cell? _ _ cj)).trans cj
        have HB : Aside0 (Below W.heap.size W w') := ⟨((Below.refl W.heap.size W).drew).trans hb⟩
        clear hb h4 h11 h9 h5 ci cj
        by_cases hv : 0 ≤ vj
        · have hvt : decide (0 ≤ vj) = true := decide_eq_true hv
          rw [hvt, Bool.true_and] at hb0
          cases few with
          | false =>
            subst hb0
            go_wp2
            go_ret
            exact ⟨rfl, pw_below_drewN HB.out _⟩
          | true =>
            subst hb0
            go_wp2
            go_ret
            exact ⟨rfl, pw_below_drewN HB.out _⟩
        · have hvt : decide (0 ≤ vj) = false := decide_eq_false hv
          rw [hvt, Bool.false_and] at hb0
          subst hb0
          go_wp2
          go_ret
          exact ⟨rfl, pw_below_drewN HB.out _⟩
      · cases hq
    · cases hq
def impl_firstSplit.idxO (q : ByteArray → Option Bool) : List ByteArray → Nat → Option Int
  | [], _ => some (-1)
  | x :: l, i => (q x).bind fun b => (impl_firstSplit.idxO q l (i + 1)).bind fun r => some (if b = true then (i : Int) else r)
theorem impl_firstSplit.idxO_spec {q : ByteArray → Option Bool} : ∀ {l : List ByteArray} {i : Nat} {r : Int}, impl_firstSplit.idxO q l i = some r → (∀ x ∈ l, q x = some (Go.Proofs.YtclnjlnpconjmaaDoor.Pick.ppO q x)) ∧ r = Go.Proofs.YtclnjlnpconjmaaDoor.Pick.idxP (Go.Proofs.YtclnjlnpconjmaaDoor.Pick.ppO q) l i
  | [], _, _, h => ⟨by simp, (Option.some.inj h).symm⟩
  | x :: l, i, r, h => by
    rw [impl_firstSplit.idxO] at h
    obtain ⟨b, hb, h⟩ := Option.bind_eq_some_iff.1 h
    obtain ⟨r0, h0, h⟩ := Option.bind_eq_some_iff.1 h
    obtain ⟨h1, h2⟩ := impl_firstSplit.idxO_spec h0
    have hp : Go.Proofs.YtclnjlnpconjmaaDoor.Pick.ppO q x = b := by unfold Go.Proofs.YtclnjlnpconjmaaDoor.Pick.ppO; rw [hb]; rfl
    refine ⟨fun y hy => ?_, ?_⟩
    · rcases List.mem_cons.1 hy with rfl | hy
      · rw [hp, hb]
      · exact h1 y hy
    · rw [← Option.some.inj h, Go.Proofs.YtclnjlnpconjmaaDoor.Pick.idxP, hp, h2]
theorem impl_firstSplit.idxO_mono {q q' : ByteArray → Option Bool} (hq : ∀ x, LeO (q x) (q' x)) : ∀ (l : List ByteArray) (i : Nat), LeO (impl_firstSplit.idxO q l i) (impl_firstSplit.idxO q' l i)
  | [], _, r, h => h
  | x :: l, i, r, h => by
    rw [impl_firstSplit.idxO] at h ⊢
    obtain ⟨b, hb, h⟩ := Option.bind_eq_some_iff.1 h
    obtain ⟨r0, h0, h⟩ := Option.bind_eq_some_iff.1 h
    rw [hq x b hb, Option.bind_some, impl_firstSplit.idxO_mono hq l (i + 1) r0 h0, Option.bind_some]
    exact h
set_option maxHeartbeats 8000000 in
set_option maxRecDepth 100000 in
theorem impl_firstSplit.index_at (Inv : World → Prop) (hG : ∀ W W', Inv W → Below W.heap.size W W' → Inv W') (p : ByteArray → Bool) (g : Nat) (lb : Array Value) (eg : ∀ args w, (callFunc g args).run Tryd.prog w = .ok (.enter g args) w)
    (rb off c : Nat) (l : List ByteArray) (w : World) (hC : ∀ W, ∀ x ∈ l, Inv W → Calls Tryd.prog g (#[.string x] ++ lb) W fun e w' => e = .returned (.bool (p x)) ∧ Below W.heap.size W w')
    (hI : Inv w) (hn : l.length ≤ 9223372036854775807) (hc : ∀ j, j < l.length → w.cell? ⟨rb, off + j, none⟩ = some (.string (rdOf ByteArray.empty l j))) :
    Calls Tryd.prog 48 #[.slice (some ⟨rb, off, none⟩) l.length c, .func (.func g) #[] lb] w fun e w' => e = .returned (.int .i64 (Go.Proofs.YtclnjlnpconjmaaDoor.Pick.idxP p l 0)) ∧ Below w.heap.size w w' := by
  go_enter Tryd.func48, Tryd.ntmps48
  go_wp2
  go_loopg [5, 8] l.length (fun gg _ s8 wr => ∃ kk : Nat, kk ≤ l.length ∧ l.length - kk ≤ gg ∧ s8 = .int .i64 kk ∧ Aside0 (Inv wr) ∧ Aside0 (Below w.heap.size w wr) ∧ Aside0 (Go.Proofs.YtclnjlnpconjmaaDoor.Pick.idxP p l 0 = Go.Proofs.YtclnjlnpconjmaaDoor.Pick.idxP p (l.drop kk) kk))
  case atStart => exact ⟨0, Nat.zero_le _, by omega, rfl, ⟨hI⟩, ⟨Below.refl _ _⟩, ⟨by rw [List.drop_zero]⟩⟩
  case round =>
    obtain ⟨kk, hkk, hg, rfl, HI, HB, HA⟩ := hrel
    by_cases hlt : kk < l.length
    · have hltz : (kk : Int) < (l.length : Int) := by omega
      have hcell : wr.cell? ⟨rb, off + kk, none⟩ = some (.string (rdOf ByteArray.empty l kk)) := (HB.out.cell (World.block_lt_of_cell? _ _ (hc kk hlt))).trans (hc kk hlt)
      have hd : l.drop kk = rdOf ByteArray.empty l kk :: l.drop (kk + 1) := by
        rw [List.drop_eq_getElem_cons hlt, rdOf, Int.toNat_natCast, List.getD_eq_getElem?_getD, List.getElem?_eq_getElem hlt]
        rfl
      have hm : rdOf ByteArray.empty l kk ∈ l := List.mem_of_mem_drop (i := kk) (by rw [hd]; exact List.mem_cons_self)
      have hcall := hC wr _ hm HI.out
      have HD : Aside0 (l.drop kk = rdOf ByteArray.empty l kk :: l.drop (kk + 1)) := ⟨hd⟩
      clear hd hm
      generalize hy : rdOf ByteArray.empty l (kk : Int) = y at hcell hcall HD
      cases hq : p y with
      | true =>
        rw [hq] at hcall
        go_wp2_with (go_at_fn g; refine hcall.mono ?_; rintro e w' ⟨rfl, hb⟩)
        go_ret
        refine ⟨?_, below_step HB.out hb⟩
        rw [HA.out, HD.out, Go.Proofs.YtclnjlnpconjmaaDoor.Pick.idxP, if_pos hq]
        rfl
      | false =>
        rw [hq] at hcall
        go_wp2_with (go_at_fn g; refine hcall.mono ?_; rintro e w' ⟨rfl, hb⟩)
        go_roundg (l.length - (kk + 1))
        case measure => omega
        case rel =>
          refine ⟨kk + 1, by omega, by omega, by go_num, ⟨hG _ _ HI.out hb⟩, ⟨below_step HB.out hb⟩, ⟨?_⟩⟩
          rw [HA.out, HD.out, Go.Proofs.YtclnjlnpconjmaaDoor.Pick.idxP, hq, if_neg (by simp)]
    · have hltz : ¬ (kk : Int) < (l.length : Int) := by omega
      have : kk = l.length := by omega
      subst this
      go_wp2
      go_ret
      refine ⟨?_, HB.out⟩
      rw [HA.out, List.drop_length, Go.Proofs.YtclnjlnpconjmaaDoor.Pick.idxP]
      rfl
def impl_firstSplit.go (k : Nat) (l0 : List ByteArray) (keys : ByteArray) (few : Bool) (least : List Int) : Nat → List ByteArray → Int → Option (List ByteArray × Bool)
  | 0, _, _ => none
  | g + 1, out, i => if i < (keys.size : Int) then (if 0 ≤ i then (if i < (least.length : Int) then ((impl_firstSplit.idxO (impl_firstSplit.q k keys i few least) l0 0).bind fun j => (if 0 ≤ j then (if j < (l0.length : Int) then (if out.length < 8796093022208 then (impl_firstSplit.go k l0 keys few least g (out ++ [rdOf ByteArray.empty l0 j]) (wrap64 (i + ((rdOf ByteArray.empty l0 j).size : Int)))) else (none)) else (none)) else (none))) else (none)) else (none)) else (some (out, true))
theorem impl_firstSplit.go_mono (k : Nat) (l0 : List ByteArray) (keys : ByteArray) (few : Bool) (least : List Int) : ∀ g out i, LeO (impl_firstSplit.go k l0 keys few least g out i) (impl_firstSplit.go (k + 1) l0 keys few least (g + 1) out i)
  | 0, _, _, r, h => by simp [impl_firstSplit.go] at h
  | g + 1, out, i, r, h => by
    rw [impl_firstSplit.go] at h ⊢
    split at h
    · rename_i h1
      rw [if_pos h1]
      split at h
      · rename_i h2
        rw [if_pos h2]
        split at h
        · rename_i h3
          rw [if_pos h3]
          obtain ⟨j, hj, h⟩ := Option.bind_eq_some_iff.1 h
          rw [impl_firstSplit.idxO_mono (fun x => impl_firstSplit.q_mono k keys i few least x) l0 0 j hj, Option.bind_some]
          split at h
          · rename_i h4
            rw [if_pos h4]
            split at h
            · rename_i h5
              rw [if_pos h5]
              split at h
              · rename_i h6
                rw [if_pos h6]
                exact impl_firstSplit.go_mono k l0 keys few least g _ _ r h
              · cases h
            · cases h
          · cases h
        · cases h
      · cases h
    · rename_i h1
      rw [if_neg h1]
      exact h
def impl_firstSplit.f (k : Nat) (l0 : List ByteArray) (a1 : ByteArray) (a2 : Bool) : Option (List ByteArray × Bool) := (impl_splitOk.f k l0 a1).bind fun b => (if b = true then ((impl_splits.f k l0 a1).bind fun sp => (if 0 < (sp.2.length : Int) then (if rd sp.2 0 < 0 then (some (([] : List ByteArray), false)) else (if 0 < l0.length then (if l0.length * 16 ≤ 140737488355328 then (impl_firstSplit.go k l0 a1 a2 sp.2 k ([] : List ByteArray) 0) else (none)) else (none))) else (none))) else (some (([] : List ByteArray), false)))
theorem impl_firstSplit.mono : ∀ a0 a1 a2 k, LeO (impl_firstSplit.f k a0 a1 a2) (impl_firstSplit.f (k + 1) a0 a1 a2) := by
  intro l0 a1 a2 k r h
  unfold impl_firstSplit.f at h ⊢
  obtain ⟨b, hb, h⟩ := Option.bind_eq_some_iff.1 h
  rw [impl_splitOk.mono l0 a1 k b hb, Option.bind_some]
  split at h
  · rename_i h0
    rw [if_pos h0]
    obtain ⟨sp, hsp, h⟩ := Option.bind_eq_some_iff.1 h
    rw [impl_splits.mono l0 a1 k sp hsp, Option.bind_some]
    split at h
    · rename_i h1
      rw [if_pos h1]
      split at h
      · rename_i h2
        rw [if_pos h2]
        exact h
      · rename_i h2
        rw [if_neg h2]
        split at h
        · rename_i h3
          rw [if_pos h3]
          split at h
          · rename_i h4
            rw [if_pos h4]
            exact impl_firstSplit.go_mono k l0 a1 a2 sp.2 k _ _ r h
          · cases h
        · cases h
    · cases h
  · rename_i h0
    rw [if_neg h0]
    exact h
set_option maxHeartbeats 8000000 in
set_option maxRecDepth 100000 in
theorem impl_firstSplit.calls (k : Nat) (A0 : Option Addr) (c0 : Nat) (l0 : List ByteArray) (a1 : ByteArray) (a2 : Bool) (r1 : List ByteArray) (r2 : Bool) (w : World) (hr0 : Kd.C Kd.string w A0 l0.length l0) (hc0 : l0.length ≤ c0) (h : impl_firstSplit.f k l0 a1 a2 = some (r1, r2)) :
    Calls Tryd.prog 34 #[.slice A0 l0.length c0, .string a1, .bool a2] w fun e w' => ∃ v0_ : Value, e = .returned (.tuple #[v0_, .bool r2]) ∧ Kd.R Kd.string 9 w' w.heap.size (fun _ => True) v0_ r1 ∧ Below w.heap.size w w' := by
  unfold impl_firstSplit.f at h
  obtain ⟨b, hb, h⟩ := Option.bind_eq_some_iff.1 h
  have hW1 : Below w.heap.size w ((w.alloc (Obj.cells #[Value.string a1] 9)).alloc (Obj.cells #[Value.bool a2] 4)) := below_alloc (below_alloc (Below.refl _ w) _) _
  have hsz : ((w.alloc (Obj.cells #[Value.string a1] 9)).alloc (Obj.cells #[Value.bool a2] 4)).heap.size = w.heap.size + 2 := by simp
  have hL := Aside0.mk (impl_splitOk.calls k A0 c0 l0 a1 b ((w.alloc (Obj.cells #[Value.string a1] 9)).alloc (Obj.cells #[Value.bool a2] 4)) (Kd.C_below hr0 hW1) hc0 hb)
  have k4 : ((w.alloc (Obj.cells #[Value.string a1] 9)).alloc (Obj.cells #[Value.bool a2] 4)).cell? ⟨w.heap.size, 0, none⟩ = some (.string a1) := (World.cell?_alloc_lt _ _ _ (by simp)).trans (Go.Proofs.YtclnjlnpconjmaaDoor.Pick.alloc_cell w _ _)
  have k5 : ((w.alloc (Obj.cells #[Value.string a1] 9)).alloc (Obj.cells #[Value.bool a2] 4)).cell? ⟨w.heap.size + 1, 0, none⟩ = some (.bool a2) := by
    have := Go.Proofs.YtclnjlnpconjmaaDoor.Pick.alloc_cell (w.alloc (Obj.cells #[Value.string a1] 9)) (.bool a2) 4
    rwa [show (w.alloc (Obj.cells #[Value.string a1] 9)).heap.size = w.heap.size + 1 by simp] at this
  cases b with
  | false =>
    rw [if_neg (by simp)] at h
    obtain ⟨rfl, rfl⟩ := Prod.mk.inj (Option.some.inj h)
    go_enter Tryd.func34, Tryd.ntmps34
    go_wp2_with (go_at_call 37; refine (hL.out).mono ?_; rintro e w2 ⟨rfl, hb2⟩)
    go_ret2
    exact ⟨_, rfl, Kd.R_nil _ _ _ _ _, below_step hW1 hb2⟩
  | true =>
    rw [if_pos rfl] at h
    obtain ⟨⟨sp1, sp2⟩, hsp, h⟩ := Option.bind_eq_some_iff.1 h
    dsimp only at h
    split at h
    · rename_i hz0
      have hS : Aside0 (∀ W, Below ((w.alloc (Obj.cells #[Value.string a1] 9)).alloc (Obj.cells #[Value.bool a2] 4)).heap.size ((w.alloc (Obj.cells #[Value.string a1] 9)).alloc (Obj.cells #[Value.bool a2] 4)) W → _) := ⟨fun W hW => impl_splits.calls k A0 c0 l0 a1 sp1 sp2 W (Kd.C_below (Kd.C_below hr0 hW1) hW) hc0 hsp⟩
      clear hsp hb
      split at h
      · rename_i hz1
        obtain ⟨rfl, rfl⟩ := Prod.mk.inj (Option.some.inj h)
        go_enter Tryd.func34, Tryd.ntmps34
        go_wp2_with (first
          | (go_at_call 37; refine (hL.out).mono ?_; rintro e w2 ⟨rfl, hb2⟩; have k4' := (hb2.cell (World.block_lt_of_cell? _ _ k4)).trans k4)
          | (go_at_call 38; refine (hS.out _ hb2).mono ?_; rintro e w3 ⟨v0, v1, rfl, hR0, hR1, hb3⟩; obtain ⟨A, c, rfl⟩ := Kd.R_slice hR1; obtain ⟨az, rfl, cz⟩ := Kd.at_int (Kd.R_reads' hR1).2.2 0 (Int.le_refl 0) hz0; rw [show az.add (0 : Int).toNat = az from rfl] at cz; have k9 : (w3.alloc (Obj.cells #[Value.slice (some az) sp2.length c] 41)).cell? az = some (.int .i64 (rd sp2 0)) := (World.cell?_alloc_lt _ _ _ (World.block_lt_of_cell? _ _ cz)).trans cz))
        go_ret2
        exact ⟨_, rfl, Kd.R_nil _ _ _ _ _, below_alloc (below_step (below_step hW1 hb2) hb3) _⟩
      · rename_i hz1
        split at h
        · rename_i hpos
          split at h
          · rename_i hbig
            have HG := Aside0.mk h
            clear h
            go_enter Tryd.func34, Tryd.ntmps34
            go_wp2_with (first
              | (go_at_call 37; refine (hL.out).mono ?_; rintro e w2 ⟨rfl, hb2⟩; have k4' := (hb2.cell (World.block_lt_of_cell? _ _ k4)).trans k4)
              | (go_at_call 38; refine (hS.out _ hb2).mono ?_; rintro e w3 ⟨v0, v1, rfl, hR0, hR1, hb3⟩; obtain ⟨A, c, rfl⟩ := Kd.R_slice hR1; obtain ⟨az, rfl, cz⟩ := Kd.at_int (Kd.R_reads' hR1).2.2 0 (Int.le_refl 0) hz0; rw [show az.add (0 : Int).toNat = az from rfl] at cz; have k9 : (w3.alloc (Obj.cells #[Value.slice (some az) sp2.length c] 41)).cell? az = some (.int .i64 (rd sp2 0)) := (World.cell?_alloc_lt _ _ _ (World.block_lt_of_cell? _ _ cz)).trans cz))
            obtain ⟨rb, off, rfl, hrow⟩ := Go.Proofs.YtclnjlnpconjmaaDoor.Pick.C_plain hr0 hpos
            have hb03 : Below w.heap.size w w3 := below_step (below_step hW1 hb2) hb3
            have e4 : w3.cell? ⟨w.heap.size, 0, none⟩ = some (.string a1) := (hb3.cell (World.block_lt_of_cell? _ _ k4')).trans k4'
            have e5 : w3.cell? ⟨w.heap.size + 1, 0, none⟩ = some (.bool a2) := by
              have k5' := (hb2.cell (World.block_lt_of_cell? _ _ k5)).trans k5
              exact (hb3.cell (World.block_lt_of_cell? _ _ k5')).trans k5'
            have c4 : (w3.alloc (Obj.cells #[Value.slice (some az) sp2.length c] 41)).cell? ⟨w.heap.size, 0, none⟩ = some (.string a1) := (World.cell?_alloc_lt _ _ _ (World.block_lt_of_cell? _ _ e4)).trans e4
            have c5 : (w3.alloc (Obj.cells #[Value.slice (some az) sp2.length c] 41)).cell? ⟨w.heap.size + 1, 0, none⟩ = some (.bool a2) := (World.cell?_alloc_lt _ _ _ (World.block_lt_of_cell? _ _ e5)).trans e5
            have c9 : (w3.alloc (Obj.cells #[Value.slice (some az) sp2.length c] 41)).cell? ⟨w3.heap.size, 0, none⟩ = some (.slice (some az) sp2.length c) := Go.Proofs.YtclnjlnpconjmaaDoor.Pick.alloc_cell w3 _ _
            have CL : Kd.C (Kd.int .i64) (w3.alloc (Obj.cells #[Value.slice (some az) sp2.length c] 41)) (some az) sp2.length sp2 := Kd.C_alloc (Kd.R_reads' hR1).2.2 _
            have HW4 : Aside0 (Below w.heap.size w (w3.alloc (Obj.cells #[Value.slice (some az) sp2.length c] 41))) := ⟨below_alloc hb03 _⟩
            have crow : ∀ j, j < l0.length → (w3.alloc (Obj.cells #[Value.slice (some az) sp2.length c] 41)).cell? ⟨rb, off + j, none⟩ = some (.string (rdOf ByteArray.empty l0 j)) := fun j hj => (HW4.out.cell (World.block_lt_of_cell? _ _ (hrow j hj))).trans (hrow j hj)
            have hs4 : (w3.alloc (Obj.cells #[Value.slice (some az) sp2.length c] 41)).heap.size = w3.heap.size + 1 := by simp
            generalize w3.alloc (Obj.cells #[Value.slice (some az) sp2.length c] 41) = W4 at *
            have CR := Aside0.mk crow
            have CL' := Aside0.mk CL
            clear hrow hb03 e4 e5 k9 cz crow CL hb2 hb3 k4 k5 k4' hL hS hR0 hR1 hr0 hW1
            have eg : ∀ args w, (callFunc 49 args).run Tryd.prog w = .ok (.enter 49 args) w := enters_of Tryd.func49 (by kernel_rfl) rfl
            go_loopg [10, 11] k (fun gg s10 s11 wr => ∃ (out : List ByteArray) (i : Int) (g : Nat), s11 = .pointer (some ⟨g, 0, none⟩) ∧ W4.heap.size ≤ g ∧ Aside0 (impl_firstSplit.go k l0 a1 a2 sp2 gg out i = some (r1, r2)) ∧ Aside0 (Kd.R Kd.string 9 wr W4.heap.size (fun _ => True) s10 out) ∧ Aside0 (Below W4.heap.size W4 wr) ∧ Aside0 (wr.heap[g]? = some (.cells #[.int .i64 i] 3 (0, 0))))
            case atStart =>
              refine ⟨[], 0, w3.heap.size + 1 + 1, rfl, (by omega), HG, ⟨Kd.R_alloc ?_ _⟩, ⟨below_alloc (below_alloc (Below.refl _ _) _) _⟩, ⟨?_⟩⟩
              · rw [← hs4]
                exact Kd.R_of_own (own_lit_of (enc := Value.string) W4 W4.heap.size 9 [] (Nat.le_refl _) (by simp)) (fun _ _ => trivial)
              · rw [← hs4]
                have := heap_alloc_new (W4.alloc (Obj.cells #[] 9)) (Obj.cells #[Value.int .i64 0] 3)
                rwa [show (W4.alloc (Obj.cells #[] 9)).heap.size = W4.heap.size + 1 by simp] at this
            case round =>
              obtain ⟨out, i, g, rfl, hge, HGo, HR, HB, Hg⟩ := hrel
              obtain ⟨gg, rfl⟩ : ∃ gg, gk = gg + 1 := by
                cases gk with
                | zero => have h0 := HGo.out; simp [impl_firstSplit.go] at h0
                | succ gg => exact ⟨gg, rfl⟩
              have h := HGo.out
              rw [impl_firstSplit.go] at h
              have c11 : wr.cell? ⟨g, 0, none⟩ = some (.int .i64 i) := (cell_of_row wr g 0 _ _ _ Hg.out).trans rfl
              have d4 := (HB.out.cell (World.block_lt_of_cell? _ _ c4)).trans c4
              have d5 := (HB.out.cell (World.block_lt_of_cell? _ _ c5)).trans c5
              have d9 := (HB.out.cell (World.block_lt_of_cell? _ _ c9)).trans c9
              split at h
              · rename_i hlt
                split at h
                · rename_i hi0
                  split at h
                  · rename_i hi2
                    obtain ⟨j, hj, h⟩ := Option.bind_eq_some_iff.1 h
                    obtain ⟨hall, hidx⟩ := impl_firstSplit.idxO_spec hj
                    split at h
                    · rename_i hj0
                      split at h
                      · rename_i hj1
                        split at h
                        · rename_i hol
                          obtain ⟨jn, rfl⟩ := Int.eq_ofNat_of_zero_le hj0
                          have hjn : jn < l0.length := by omega
                          have DL : Kd.C (Kd.int .i64) wr (some az) sp2.length sp2 := Kd.C_below CL'.out HB.out
                          have drow : ∀ j, j < l0.length → wr.cell? ⟨rb, off + j, none⟩ = some (.string (rdOf ByteArray.empty l0 j)) := fun j hj => (HB.out.cell (World.block_lt_of_cell? _ _ (CR.out j hj))).trans (CR.out j hj)
                          have hcall := impl_firstSplit.index_at (fun W => Below wr.heap.size wr W) (fun W W' h1 h2 => below_step h1 h2) (Go.Proofs.YtclnjlnpconjmaaDoor.Pick.ppO (impl_firstSplit.q k a1 i a2 sp2)) 49 #[.pointer (some ⟨w.heap.size, 0, none⟩), .pointer (some ⟨g, 0, none⟩), .pointer (some ⟨w3.heap.size, 0, none⟩), .pointer (some ⟨w.heap.size + 1, 0, none⟩)] eg rb off c0 l0 wr
                            (fun W x hx hW => impl_firstSplit.own k W w.heap.size g w3.heap.size (w.heap.size + 1) a1 i a2 (some az) c sp2 x _ ((hW.cell (World.block_lt_of_cell? _ _ d4)).trans d4) ((hW.cell (World.block_lt_of_cell? _ _ c11)).trans c11) ((hW.cell (World.block_lt_of_cell? _ _ d9)).trans d9) ((hW.cell (World.block_lt_of_cell? _ _ d5)).trans d5) (Kd.C_below DL hW) hi0 (Int.le_of_lt hlt) hi2 (hall x hx))
                            (Below.refl _ _) (by omega) drow
                          rw [← hidx] at hcall
                          have dj := drow jn hjn
                          have HC := Aside0.mk hcall
                          have HN := Aside0.mk h
                          clear hcall h hall hj hidx DL drow
                          have hjz0 : (0 : Int) ≤ (jn : Int) := Int.natCast_nonneg _
                          have hjz1 : (jn : Int) < (l0.length : Int) := by omega
                          generalize rdOf ByteArray.empty l0 (jn : Int) = y at dj HN
                          have hne : some g ≠ u10.ownBlock := Kd.R_ne HR.out Hg.out (by decide)
                          have hlg : g < wr.heap.size := World.block_lt_of_cell? _ _ c11
                          go_wp2_with (first | (go_at_call 48; refine (HC.out).mono ?_; rintro e w6 ⟨rfl, hb6⟩; have dj6 := (hb6.cell (World.block_lt_of_cell? _ _ dj)).trans dj; have c116 := (hb6.cell (World.block_lt_of_cell? _ _ c11)).trans c11))
                          have HR6 : Aside0 (Kd.R Kd.string 9 w6 W4.heap.size (fun _ => True) u10 out) := ⟨Kd.R_below HR.out hb6⟩
                          have HB6 : Aside0 (Below W4.heap.size W4 w6) := ⟨below_step HB.out hb6⟩
                          have Hg6 : Aside0 (w6.heap[g]? = some (.cells #[.int .i64 i] 3 (0, 0))) := ⟨(hb6.block g hlg).trans Hg.out⟩
                          have hlg6 : g < w6.heap.size := Nat.lt_of_lt_of_le hlg hb6.size
                          have hsz6 : W4.heap.size ≤ w6.heap.size := HB6.out.size
                          clear HR HB Hg hb6 d4 d5 d9 c11 dj dj6
                          have HO6 : Aside0 (w6.ownsRow W4.heap.size 9 1 u10 out.length (encs Value.string out)) := ⟨Kd.own_of_R HR6.out⟩
                          have Hga : (w6.alloc (Obj.cells #[Value.string y] 9)).heap[g]? = some (.cells #[.int .i64 i] 3 (0, 0)) := ((below_alloc (Below.refl w6.heap.size w6) _).block g hlg6).trans Hg6.out
                          have fa : (w6.alloc (Obj.cells #[Value.string y] 9)).frozen? ⟨g, 0, none⟩ = false := frozen_of_row _ g 0 _ _ Hga
                          have ca : (w6.alloc (Obj.cells #[Value.string y] 9)).cell? ⟨g, 0, none⟩ = some (.int .i64 i) := (cell_of_row _ g 0 _ _ _ Hga).trans rfl
                          have HGa := Aside0.mk Hga
                          clear Hga
                          obtain ⟨i9, hi9, hz9, hz91, hz92⟩ := info_parts info9
                          go_region_law
                            ((refine step_append_lies _ (by rfl) _ _ _ (by rfl) W4.heap.size 9 i9 _ 1 16 Tryd.underlying22 hi9 hz9 hz91 hz92 rfl (by omega) u10 out.length (encs Value.string out) (by rfl) (by first | exact (HO6.out.alloc _).drew | exact HO6.out.drew.alloc _ | exact HO6.out.alloc _)
                                ⟨w6.heap.size, 0, none⟩ 1 1 [.string y] (by rfl) (by rfl) (World.news_of_block (cs := #[.string y]) (t := 9) (fr := (0, 0)) (heap_alloc_new w6 _)) (by simp [Value.oneCell'])
                                (by omega) (by simp only [maxLen]; omega) (by omega) (by simp; omega) (w6.heap.size + 1) (by simp) ?_; intro gg7 cap7 w7 hown7 hg7 hat7 hlt7; have f7 : w7.frozen? ⟨g, 0, none⟩ = false := (hg7.frozen_far ⟨g, 0, none⟩ (by simp; omega) hne).trans (by simpa using fa); have c7 : w7.cell? ⟨g, 0, none⟩ = some (.int .i64 i) := (hg7.cell_far ⟨g, 0, none⟩ (by simp; omega) hne).trans (by simpa using ca)))
                          all_goals
                            have hb7 : Below W4.heap.size W4 w7 := Below.grown (by repeat (first | exact HB6.out | apply below_drew | apply below_alloc)) hg7 (by simp; omega) (Go.Proofs.YtclnjlnpconjmaaDoorW.PrintWords.own_base HO6.out)
                            have Hg7 : w7.heap[g]? = some (.cells #[.int .i64 i] 3 (0, 0)) := (hg7.block g (by simp; omega) hne).trans HGa.out
                            have HR7 : Kd.R Kd.string 9 w7 W4.heap.size (fun _ => True) (.slice (some ⟨gg7, 0, none⟩) (out.length + 1) cap7) (out ++ [y]) := Kd.R_of_own (by simpa [encs] using hown7) (fun _ _ => trivial)
                            have HR8 := Aside0.mk (Kd.R_set HR7 Hg7 (by decide) 0 (.int .i64 (IntKind.i64.wrap (i + (y.size : Int)))))
                            have HB8 := Aside0.mk (below_set (j := 0) (v := .int .i64 (IntKind.i64.wrap (i + (y.size : Int)))) hb7 hge)
                            have c8 : (w7.setCell ⟨g, 0, none⟩ (.int .i64 (IntKind.i64.wrap (i + (y.size : Int))))).cell? ⟨g, 0, none⟩ = some (.int .i64 (IntKind.i64.wrap (i + (y.size : Int)))) := World.cell?_setCell_same' _ _ _ (by rw [c7]; rfl)
                            clear hb7 Hg7 HR7 hown7 hg7 hat7 hlt7 f7 c7 fa ca c116
                            generalize w7.setCell ⟨g, 0, none⟩ (.int .i64 (IntKind.i64.wrap (i + (y.size : Int)))) = w8 at *
                          all_goals go_wp2
                          all_goals
                            go_roundg gg
                            case measure => omega
                            case rel => exact ⟨out ++ [y], wrap64 (i + (y.size : Int)), w8.heap.size, rfl, HB8.out.size, HN, ⟨Kd.R_alloc HR8.out _⟩, ⟨below_alloc HB8.out _⟩, ⟨heap_alloc_new _ _⟩⟩
                        · cases h
                      · cases h
                    · cases h
                  · cases h
                · cases h
              · rename_i hlt
                obtain ⟨rfl, rfl⟩ := Prod.mk.inj (Option.some.inj h)
                go_wp2
                go_ret2
                exact ⟨_, rfl, Kd.R_lower HR.out (Below.size HW4.out), below_step HW4.out HB.out⟩
          · cases h
        · cases h
    · cases h
end Go.Proofs.YtclnjlnpconjmaaDoor.P
end

section
namespace Go.Proofs.YtclnjlnpconjmaaDoor.P
open Go.RowKit Go.Proofs.YtclnjlnpconjmaaDoorW.PrintWords Go.Proofs.YtclnjlnpconjmaaDoorW.PrintLast Go.Proofs.YtclnjlnpconjmaaDoorW.PrintMore
attribute [local go_sem] max2_int min2_int max_two min_two max_three min_three max_four min_four   -- for this text's walks alone
set_option linter.unusedVariables false
set_option linter.unusedSimpArgs false
def impl_FirstFewest.f (k : Nat) (l0 : List ByteArray) (a1 : ByteArray) : Option (List ByteArray × Bool) := (impl_firstSplit.f k l0 a1 true).bind fun bt336 => (some (bt336.1, bt336.2))
theorem impl_FirstFewest.mono : ∀ a0 a1 k, LeO (impl_FirstFewest.f k a0 a1) (impl_FirstFewest.f (k + 1) a0 a1) := by
  intro a0 a1 k
  unfold impl_FirstFewest.f
  repeat' first
      | (with_reducible exact impl_firstSplit.mono _ _ _ _)
      | (with_reducible exact LeO.refl _)
      | (with_reducible exact LeO.none _)
      | (with_reducible refine LeO.ite ?_ ?_)
      | (with_reducible refine LeO.bind ?_ (fun _ => ?_))
      | exact impl_firstSplit.mono _ _ _ _
      | exact LeO.none _
      | refine LeO.ite ?_ ?_
      | refine LeO.bind ?_ (fun _ => ?_)
set_option maxHeartbeats 8000000 in
set_option maxRecDepth 100000 in
theorem impl_FirstFewest.calls (k : Nat) (A0 : Option Addr) (c0 : Nat) (l0 : List ByteArray) (a1 : ByteArray) (r1 : List ByteArray) (r2 : Bool) (w : World) (hr0 : Kd.C Kd.string w A0 l0.length l0) (hc0 : l0.length ≤ c0) (h : impl_FirstFewest.f k l0 a1 = some (r1, r2)) :
    Calls Tryd.prog 22 #[.slice A0 l0.length c0, .string a1] w fun e w' => ∃ v0_ : Value, e = .returned (.tuple #[v0_, .bool r2]) ∧ Kd.R Kd.string 9 w' w.heap.size (fun _ => True) v0_ r1 ∧ Below w.heap.size w w' := by
  have HR0 := Aside0.mk hr0
  have HC0 := Aside0.mk hc0
  clear hr0 hc0
  have HB := Aside0.mk (Below.refl w.heap.size w)
  have H : ((impl_firstSplit.f k l0 a1 true).bind fun bt336 => (some (bt336.1, bt336.2))) = some (r1, r2) := h
  clear h
  replace H := Option.bind_eq_some_iff.mp H
  obtain ⟨⟨t336, t337⟩, A30, H⟩ := H
  replace H : (some (t336, t337)) = some (r1, r2) := H
  have A3 := Aside0.mk A30
  clear A30
  simp only [Option.some.injEq, Prod.mk.injEq] at H
  obtain ⟨rfl, rfl⟩ := H
  go_enter Tryd.func22, Tryd.ntmps22
  go_wp2_with (first | ((with_reducible refine gate_callee (f := 34) rfl ?_); refine goesL_ (some 8) rfl rfl Tryd.func34 (by kernel_rfl) rfl #[.slice A0 l0.length c0, .string a1, .bool true] rfl (by (try simp only [List.map_toArray, List.map_cons, List.map_nil]); first | done | rfl | (simp only [List.length_drop, List.length_take]; rfl)) ?_; (with_reducible refine (impl_firstSplit.calls k _ _ l0 a1 true t336 t337 _ ?side1 ?side2 A3.out).mono ?_); (case side1 => repeat (first | exact HR0.out | (with_reducible refine Kd.C_alloc ?_ _) | (with_reducible refine Kd.C_drewN ?_ _) | (with_reducible refine Kd.C_drew ?_))); (case side2 => exact HC0.out); rintro e w4 ⟨v338, rfl, ho0, hb⟩; refine ⟨_, rfl, ?_⟩; have n0_ := Aside0.mk (Kd.R_lower ho0 (below_size (by repeat (first | (with_reducible first | exact HB.out | apply below_alloc | apply pw_below_drewN | apply below_drew1) | exact HB.out)))); have n1_ := Aside0.mk (below_step (by repeat (first | (with_reducible first | exact HB.out | apply below_alloc | apply pw_below_drewN | apply below_drew1) | exact HB.out)) hb); clear HB; have HO339 := n0_; have HB := n1_; clear n0_ n1_; (try clear hb); (try clear hb2); (try clear hk); (try clear hi); (try clear ho0)))
  go_ret2
  exact ⟨_, by first | rfl | (simp [errW_none, errW_some] <;> rfl) | (simp [*, errW_none, errW_some] <;> rfl), by (with_reducible repeat (first | apply Kd.R_alloc | apply Kd.R_drewN | apply Kd.R_drew)); exact HO339.out, by repeat (first | (with_reducible first | exact HB.out | apply below_alloc | apply pw_below_drewN | apply below_drew1) | exact HB.out)⟩
end Go.Proofs.YtclnjlnpconjmaaDoor.P
end

section
namespace Go.Proofs.YtclnjlnpconjmaaDoor.P
open Go.RowKit Go.Proofs.YtclnjlnpconjmaaDoorW.PrintWords Go.Proofs.YtclnjlnpconjmaaDoorW.PrintLast Go.Proofs.YtclnjlnpconjmaaDoorW.PrintMore
attribute [local go_sem] max2_int min2_int max_two min_two max_three min_three max_four min_four   -- for this text's walks alone
set_option linter.unusedVariables false
set_option linter.unusedSimpArgs false
mutual
def laws_FnExactFirstFewest.j0 : Nat → List ByteArray → ByteArray → List ByteArray → Bool → List ByteArray → List ByteArray → Bool → Bool → Option (Bool)
  | 0, _, _, _, _, _, _, _, _ => none
  | k + 1, x0, x1, x6, x7, x8, x9, x10, x47 => if x47 = true then (some false) else ((laws_toStringS.f k x0).bind fun t356 => ((laws_eqStringS.f k x8 t356).bind fun t359 => (if t359 = true then ((laws_markStringS.f k x8 1).bind fun bt360 => (if bt360.1 < 0 then (laws_FnExactFirstFewest.j1 k x0 x1 x6 x7 x9 true) else ((laws_eqStringS.f k x9 x6).bind fun t362 => (if t362 = true then (laws_FnExactFirstFewest.j1 k x0 x1 x6 x7 x9 (x10 != x7)) else (laws_FnExactFirstFewest.j1 k x0 x1 x6 x7 x9 true))))) else (some false))))
def laws_FnExactFirstFewest.j1 : Nat → List ByteArray → ByteArray → List ByteArray → Bool → List ByteArray → Bool → Option (Bool)
  | 0, _, _, _, _, _, _ => none
  | k + 1, x0, x1, x6, x7, x9, x68 => if x68 = true then (some false) else ((laws_markStringS.f k x9 1).bind fun bt363 => ((laws_heldStringS.f k bt363.2 1).bind fun t365 => (if t365 < 0 then (some false) else (if t365 = bt363.1 then ((laws_toStringS.f k x0).bind fun t366 => ((impl_FirstFewest.f k t366 x1).bind fun bt369 => ((laws_eqStringS.f k bt369.1 x6).bind fun t373 => (if t373 = true then (laws_FnExactFirstFewest.j2 k bt363.2 bt363.1 (bt369.2 != x7)) else (laws_FnExactFirstFewest.j2 k bt363.2 bt363.1 true))))) else (some false)))))
def laws_FnExactFirstFewest.j2 : Nat → List ByteArray → Int → Bool → Option (Bool)
  | 0, _, _, _ => none
  | k + 1, x9, x12, x95 => if x95 = true then (some false) else ((laws_heldStringS.f k x9 1).bind fun t374 => (if t374 < 0 then (some false) else (if t374 = x12 then (some true) else (some false))))
end
def laws_FnExactFirstFewest.f (k : Nat) (l0 : List ByteArray) (a1 : ByteArray) : Option (Bool) := if (a1.size : Int) > 1048576 then (some true) else ((laws_szStringS.f k l0 1048576).bind fun t340 => (if t340 < 0 then (some true) else ((laws_toStringS.f k l0).bind fun t341 => ((spec_FirstFewest.f k t341 a1).bind fun bt344 => ((laws_toStringS.f k l0).bind fun t348 => ((impl_FirstFewest.f k t348 a1).bind fun bt351 => ((laws_eqStringS.f k bt351.1 bt344.1).bind fun t355 => (if t355 = true then (laws_FnExactFirstFewest.j0 k l0 a1 bt344.1 bt344.2 t348 bt351.1 bt351.2 (bt351.2 != bt344.2)) else (laws_FnExactFirstFewest.j0 k l0 a1 bt344.1 bt344.2 t348 bt351.1 bt351.2 true)))))))))
theorem laws_FnExactFirstFewest.mono_l : ∀ k, (∀ y0 y1 y2 y3 y4 y5 y6 y7, LeO (laws_FnExactFirstFewest.j0 k y0 y1 y2 y3 y4 y5 y6 y7) (laws_FnExactFirstFewest.j0 (k + 1) y0 y1 y2 y3 y4 y5 y6 y7)) ∧ (∀ y0 y1 y2 y3 y4 y5, LeO (laws_FnExactFirstFewest.j1 k y0 y1 y2 y3 y4 y5) (laws_FnExactFirstFewest.j1 (k + 1) y0 y1 y2 y3 y4 y5)) ∧ (∀ y0 y1 y2, LeO (laws_FnExactFirstFewest.j2 k y0 y1 y2) (laws_FnExactFirstFewest.j2 (k + 1) y0 y1 y2))
  | 0 => ⟨fun _ _ _ _ _ _ _ _ r h => by simp [laws_FnExactFirstFewest.j0] at h, fun _ _ _ _ _ _ r h => by simp [laws_FnExactFirstFewest.j1] at h, fun _ _ _ r h => by simp [laws_FnExactFirstFewest.j2] at h⟩
  | k + 1 => by
    obtain ⟨ih0, ih1, ih2⟩ := laws_FnExactFirstFewest.mono_l k
    refine ⟨?_, ?_, ?_⟩
    · intro y0 y1 y2 y3 y4 y5 y6 y7
      unfold laws_FnExactFirstFewest.j0
      repeat' first
      | (with_reducible exact ih0 _ _ _ _ _ _ _ _)
      | (with_reducible exact ih1 _ _ _ _ _ _)
      | (with_reducible exact ih2 _ _ _)
      | (with_reducible exact impl_FirstFewest.mono _ _ _)
      | (with_reducible exact laws_eqStringS.mono _ _ _)
      | (with_reducible exact laws_heldStringS.mono _ _ _)
      | (with_reducible exact laws_markStringS.mono _ _ _)
      | (with_reducible exact laws_szStringS.mono _ _ _)
      | (with_reducible exact laws_toStringS.mono _ _)
      | (with_reducible exact spec_FirstFewest.mono _ _ _)
      | (with_reducible exact LeO.refl _)
      | (with_reducible exact LeO.none _)
      | (with_reducible refine LeO.ite ?_ ?_)
      | (with_reducible refine LeO.bind ?_ (fun _ => ?_))
      | exact ih0 _ _ _ _ _ _ _ _
      | exact ih1 _ _ _ _ _ _
      | exact ih2 _ _ _
      | exact impl_FirstFewest.mono _ _ _
      | exact laws_eqStringS.mono _ _ _
      | exact laws_heldStringS.mono _ _ _
      | exact laws_markStringS.mono _ _ _
      | exact laws_szStringS.mono _ _ _
      | exact laws_toStringS.mono _ _
      | exact spec_FirstFewest.mono _ _ _
      | exact LeO.none _
      | refine LeO.ite ?_ ?_
      | refine LeO.bind ?_ (fun _ => ?_)
    · intro y0 y1 y2 y3 y4 y5
      unfold laws_FnExactFirstFewest.j1
      repeat' first
      | (with_reducible exact ih0 _ _ _ _ _ _ _ _)
      | (with_reducible exact ih1 _ _ _ _ _ _)
      | (with_reducible exact ih2 _ _ _)
      | (with_reducible exact impl_FirstFewest.mono _ _ _)
      | (with_reducible exact laws_eqStringS.mono _ _ _)
      | (with_reducible exact laws_heldStringS.mono _ _ _)
      | (with_reducible exact laws_markStringS.mono _ _ _)
      | (with_reducible exact laws_szStringS.mono _ _ _)
      | (with_reducible exact laws_toStringS.mono _ _)
      | (with_reducible exact spec_FirstFewest.mono _ _ _)
      | (with_reducible exact LeO.refl _)
      | (with_reducible exact LeO.none _)
      | (with_reducible refine LeO.ite ?_ ?_)
      | (with_reducible refine LeO.bind ?_ (fun _ => ?_))
      | exact ih0 _ _ _ _ _ _ _ _
      | exact ih1 _ _ _ _ _ _
      | exact ih2 _ _ _
      | exact impl_FirstFewest.mono _ _ _
      | exact laws_eqStringS.mono _ _ _
      | exact laws_heldStringS.mono _ _ _
      | exact laws_markStringS.mono _ _ _
      | exact laws_szStringS.mono _ _ _
      | exact laws_toStringS.mono _ _
      | exact spec_FirstFewest.mono _ _ _
      | exact LeO.none _
      | refine LeO.ite ?_ ?_
      | refine LeO.bind ?_ (fun _ => ?_)
    · intro y0 y1 y2
      unfold laws_FnExactFirstFewest.j2
      repeat' first
      | (with_reducible exact ih0 _ _ _ _ _ _ _ _)
      | (with_reducible exact ih1 _ _ _ _ _ _)
      | (with_reducible exact ih2 _ _ _)
      | (with_reducible exact impl_FirstFewest.mono _ _ _)
      | (with_reducible exact laws_eqStringS.mono _ _ _)
      | (with_reducible exact laws_heldStringS.mono _ _ _)
      | (with_reducible exact laws_markStringS.mono _ _ _)
      | (with_reducible exact laws_szStringS.mono _ _ _)
      | (with_reducible exact laws_toStringS.mono _ _)
      | (with_reducible exact spec_FirstFewest.mono _ _ _)
      | (with_reducible exact LeO.refl _)
      | (with_reducible exact LeO.none _)
      | (with_reducible refine LeO.ite ?_ ?_)
      | (with_reducible refine LeO.bind ?_ (fun _ => ?_))
      | exact ih0 _ _ _ _ _ _ _ _
      | exact ih1 _ _ _ _ _ _
      | exact ih2 _ _ _
      | exact impl_FirstFewest.mono _ _ _
      | exact laws_eqStringS.mono _ _ _
      | exact laws_heldStringS.mono _ _ _
      | exact laws_markStringS.mono _ _ _
      | exact laws_szStringS.mono _ _ _
      | exact laws_toStringS.mono _ _
      | exact spec_FirstFewest.mono _ _ _
      | exact LeO.none _
      | refine LeO.ite ?_ ?_
      | refine LeO.bind ?_ (fun _ => ?_)
theorem laws_FnExactFirstFewest.mono : ∀ a0 a1 k, LeO (laws_FnExactFirstFewest.f k a0 a1) (laws_FnExactFirstFewest.f (k + 1) a0 a1) := by
  intro a0 a1 k
  obtain ⟨ih0, ih1, ih2⟩ := laws_FnExactFirstFewest.mono_l k
  unfold laws_FnExactFirstFewest.f
  repeat' first
      | (with_reducible exact ih0 _ _ _ _ _ _ _ _)
      | (with_reducible exact ih1 _ _ _ _ _ _)
      | (with_reducible exact ih2 _ _ _)
      | (with_reducible exact impl_FirstFewest.mono _ _ _)
      | (with_reducible exact laws_eqStringS.mono _ _ _)
      | (with_reducible exact laws_heldStringS.mono _ _ _)
      | (with_reducible exact laws_markStringS.mono _ _ _)
      | (with_reducible exact laws_szStringS.mono _ _ _)
      | (with_reducible exact laws_toStringS.mono _ _)
      | (with_reducible exact spec_FirstFewest.mono _ _ _)
      | (with_reducible exact LeO.refl _)
      | (with_reducible exact LeO.none _)
      | (with_reducible refine LeO.ite ?_ ?_)
      | (with_reducible refine LeO.bind ?_ (fun _ => ?_))
      | exact ih0 _ _ _ _ _ _ _ _
      | exact ih1 _ _ _ _ _ _
      | exact ih2 _ _ _
      | exact impl_FirstFewest.mono _ _ _
      | exact laws_eqStringS.mono _ _ _
      | exact laws_heldStringS.mono _ _ _
      | exact laws_markStringS.mono _ _ _
      | exact laws_szStringS.mono _ _ _
      | exact laws_toStringS.mono _ _
      | exact spec_FirstFewest.mono _ _ _
      | exact LeO.none _
      | refine LeO.ite ?_ ?_
      | refine LeO.bind ?_ (fun _ => ?_)
set_option maxHeartbeats 8000000 in
set_option maxRecDepth 100000 in
theorem laws_FnExactFirstFewest.calls (k : Nat) (A0 : Option Addr) (c0 : Nat) (l0 : List ByteArray) (a1 : ByteArray) (r : Bool) (w : World) (hr0 : Kd.C Kd.string w A0 l0.length l0) (hc0 : l0.length ≤ c0) (h : laws_FnExactFirstFewest.f k l0 a1 = some r) :
    Calls Tryd.prog 6 #[.slice A0 l0.length c0, .string a1] w fun e w' => e = .returned (.bool r) ∧ Below w.heap.size w w' := by
  have HR0 := Aside0.mk hr0
  have HC0 := Aside0.mk hc0
  clear hr0 hc0
  have HB := Aside0.mk (Below.refl w.heap.size w)
  have H : (if (a1.size : Int) > 1048576 then (some true) else ((laws_szStringS.f k l0 1048576).bind fun t340 => (if t340 < 0 then (some true) else ((laws_toStringS.f k l0).bind fun t341 => ((spec_FirstFewest.f k t341 a1).bind fun bt344 => ((laws_toStringS.f k l0).bind fun t348 => ((impl_FirstFewest.f k t348 a1).bind fun bt351 => ((laws_eqStringS.f k bt351.1 bt344.1).bind fun t355 => (if t355 = true then (laws_FnExactFirstFewest.j0 k l0 a1 bt344.1 bt344.2 t348 bt351.1 bt351.2 (bt351.2 != bt344.2)) else (laws_FnExactFirstFewest.j0 k l0 a1 bt344.1 bt344.2 t348 bt351.1 bt351.2 true)))))))))) = some r := h
  clear h
  by_cases c3 : (a1.size : Int) > 1048576
  · rw [if_pos c3] at H
    have c3b0 : decide (1048576 < (a1.size : Int)) = true := decide_eq_true c3
    have c3b1 : decide (1048576 < a1.size) = true := decide_eq_true (by omega)
    clear c3
    obtain rfl := Option.some.inj H
    go_enter Tryd.func6, Tryd.ntmps6
    go_wp2
    go_ret
    exact ⟨by first | rfl | (simp [errW_none, errW_some] <;> rfl) | (simp [*, errW_none, errW_some] <;> rfl), by repeat (first | (with_reducible first | exact HB.out | apply below_alloc | apply pw_below_drewN | apply below_drew1) | exact HB.out)⟩
  · rw [if_neg c3] at H
    have c3b0 : decide (1048576 < (a1.size : Int)) = false := decide_eq_false c3
    have c3b1 : decide (1048576 < a1.size) = false := decide_eq_false (by omega)
    clear c3
    replace H := Option.bind_eq_some_iff.mp H
    obtain ⟨t340, A40, H⟩ := H
    replace H : (if t340 < 0 then (some true) else ((laws_toStringS.f k l0).bind fun t341 => ((spec_FirstFewest.f k t341 a1).bind fun bt344 => ((laws_toStringS.f k l0).bind fun t348 => ((impl_FirstFewest.f k t348 a1).bind fun bt351 => ((laws_eqStringS.f k bt351.1 bt344.1).bind fun t355 => (if t355 = true then (laws_FnExactFirstFewest.j0 k l0 a1 bt344.1 bt344.2 t348 bt351.1 bt351.2 (bt351.2 != bt344.2)) else (laws_FnExactFirstFewest.j0 k l0 a1 bt344.1 bt344.2 t348 bt351.1 bt351.2 true)))))))) = some r := H
    have A4 := Aside0.mk A40
    clear A40
    by_cases c5 : t340 < 0
    · rw [if_pos c5] at H
      have c5b0 : decide (t340 < 0) = true := decide_eq_true c5
      clear c5
      obtain rfl := Option.some.inj H
      go_enter Tryd.func6, Tryd.ntmps6
      go_wp2_with (first | ((with_reducible refine gate_callee (f := 10) rfl ?_); refine goesL_ (some 21) rfl rfl Tryd.func10 (by kernel_rfl) rfl #[.slice A0 l0.length c0, .int .i64 1048576] rfl (by (try simp only [List.map_toArray, List.map_cons, List.map_nil]); first | done | rfl | (simp only [List.length_drop, List.length_take]; rfl)) ?_; (with_reducible refine (laws_szStringS.calls k _ _ l0 1048576 t340 _ ?side1 ?side2 A4.out).mono ?_); (case side1 => repeat (first | exact HR0.out | (with_reducible refine Kd.C_alloc ?_ _) | (with_reducible refine Kd.C_drewN ?_ _) | (with_reducible refine Kd.C_drew ?_))); (case side2 => exact HC0.out); rintro e w' ⟨rfl, ⟨nd, rfl⟩⟩; refine ⟨_, rfl, ?_⟩))
      go_ret
      exact ⟨by first | rfl | (simp [errW_none, errW_some] <;> rfl) | (simp [*, errW_none, errW_some] <;> rfl), by repeat (first | (with_reducible first | exact HB.out | apply below_alloc | apply pw_below_drewN | apply below_drew1) | exact HB.out)⟩
    · rw [if_neg c5] at H
      have c5b0 : decide (t340 < 0) = false := decide_eq_false c5
      clear c5
      replace H := Option.bind_eq_some_iff.mp H
      obtain ⟨t341, A60, H⟩ := H
      replace H : ((spec_FirstFewest.f k t341 a1).bind fun bt344 => ((laws_toStringS.f k l0).bind fun t348 => ((impl_FirstFewest.f k t348 a1).bind fun bt351 => ((laws_eqStringS.f k bt351.1 bt344.1).bind fun t355 => (if t355 = true then (laws_FnExactFirstFewest.j0 k l0 a1 bt344.1 bt344.2 t348 bt351.1 bt351.2 (bt351.2 != bt344.2)) else (laws_FnExactFirstFewest.j0 k l0 a1 bt344.1 bt344.2 t348 bt351.1 bt351.2 true)))))) = some r := H
      have A6 := Aside0.mk A60
      clear A60
      replace H := Option.bind_eq_some_iff.mp H
      obtain ⟨⟨t344, t345⟩, A70, H⟩ := H
      replace H : ((laws_toStringS.f k l0).bind fun t348 => ((impl_FirstFewest.f k t348 a1).bind fun bt351 => ((laws_eqStringS.f k bt351.1 t344).bind fun t355 => (if t355 = true then (laws_FnExactFirstFewest.j0 k l0 a1 t344 t345 t348 bt351.1 bt351.2 (bt351.2 != t345)) else (laws_FnExactFirstFewest.j0 k l0 a1 t344 t345 t348 bt351.1 bt351.2 true))))) = some r := H
      have A7 := Aside0.mk A70
      clear A70
      replace H := Option.bind_eq_some_iff.mp H
      obtain ⟨t348, A80, H⟩ := H
      replace H : ((impl_FirstFewest.f k t348 a1).bind fun bt351 => ((laws_eqStringS.f k bt351.1 t344).bind fun t355 => (if t355 = true then (laws_FnExactFirstFewest.j0 k l0 a1 t344 t345 t348 bt351.1 bt351.2 (bt351.2 != t345)) else (laws_FnExactFirstFewest.j0 k l0 a1 t344 t345 t348 bt351.1 bt351.2 true)))) = some r := H
      have A8 := Aside0.mk A80
      clear A80
      replace H := Option.bind_eq_some_iff.mp H
      obtain ⟨⟨t351, t352⟩, A90, H⟩ := H
      replace H : ((laws_eqStringS.f k t351 t344).bind fun t355 => (if t355 = true then (laws_FnExactFirstFewest.j0 k l0 a1 t344 t345 t348 t351 t352 (t352 != t345)) else (laws_FnExactFirstFewest.j0 k l0 a1 t344 t345 t348 t351 t352 true))) = some r := H
      have A9 := Aside0.mk A90
      clear A90
      have HC10 := Aside0.mk H
      clear H
      go_enter Tryd.func6, Tryd.ntmps6
      go_upto_region 10 with (first | ((with_reducible refine gate_callee (f := 10) rfl ?_); refine goesL_ (some 21) rfl rfl Tryd.func10 (by kernel_rfl) rfl #[.slice A0 l0.length c0, .int .i64 1048576] rfl (by (try simp only [List.map_toArray, List.map_cons, List.map_nil]); first | done | rfl | (simp only [List.length_drop, List.length_take]; rfl)) ?_; (with_reducible refine (laws_szStringS.calls k _ _ l0 1048576 t340 _ ?side1 ?side2 A4.out).mono ?_); (case side1 => repeat (first | exact HR0.out | (with_reducible refine Kd.C_alloc ?_ _) | (with_reducible refine Kd.C_drewN ?_ _) | (with_reducible refine Kd.C_drew ?_))); (case side2 => exact HC0.out); rintro e w' ⟨rfl, ⟨nd, rfl⟩⟩; refine ⟨_, rfl, ?_⟩) | ((with_reducible refine gate_callee (f := 12) rfl ?_); refine goesL_ (some 26) rfl rfl Tryd.func12 (by kernel_rfl) rfl #[.slice A0 l0.length c0] rfl (by (try simp only [List.map_toArray, List.map_cons, List.map_nil]); first | done | rfl | (simp only [List.length_drop, List.length_take]; rfl)) ?_; (with_reducible refine (laws_toStringS.calls k _ _ l0 t341 _ ?side1 ?side2 A6.out).mono ?_); (case side1 => repeat (first | exact HR0.out | (with_reducible refine Kd.C_alloc ?_ _) | (with_reducible refine Kd.C_drewN ?_ _) | (with_reducible refine Kd.C_drew ?_))); (case side2 => exact HC0.out); rintro e w11 ⟨v342, rfl, ho0, hb⟩; refine ⟨_, rfl, ?_⟩; have n0_ := Aside0.mk (Kd.R_lower ho0 (below_size (by repeat (first | (with_reducible first | exact HB.out | apply below_alloc | apply pw_below_drewN | apply below_drew1) | exact HB.out)))); have n1_ := Aside0.mk (below_step (by repeat (first | (with_reducible first | exact HB.out | apply below_alloc | apply pw_below_drewN | apply below_drew1) | exact HB.out)) hb); clear HB; have HO343 := n0_; have HB := n1_; clear n0_ n1_; (try clear hb); (try clear hb2); (try clear hk); (try clear hi); (try clear ho0); obtain ⟨Ao12, co12, eo12⟩ := Kd.R_slice HO343.out; subst eo12) | ((with_reducible refine gate_callee (f := 21) rfl ?_); refine goesL_ (some 28) rfl rfl Tryd.func21 (by kernel_rfl) rfl #[.slice Ao12 t341.length co12, .string a1] rfl (by (try simp only [List.map_toArray, List.map_cons, List.map_nil]); first | done | rfl | (simp only [List.length_drop, List.length_take]; rfl)) ?_; (with_reducible refine (spec_FirstFewest.calls k _ _ t341 a1 t344 t345 _ ?side1 ?side2 A7.out).mono ?_); (case side1 => repeat (first | exact (Kd.R_reads' HO343.out).2.2 | (with_reducible refine Kd.C_alloc ?_ _) | (with_reducible refine Kd.C_drewN ?_ _) | (with_reducible refine Kd.C_drew ?_))); (case side2 => exact (Kd.R_reads' HO343.out).2.1); rintro e w13 ⟨v346, rfl, ho0, hb⟩; refine ⟨_, rfl, ?_⟩; have n0_ := Aside0.mk (Kd.R_elder' (by (with_reducible repeat (first | apply Kd.R_alloc | apply Kd.R_drewN | apply Kd.R_drew)); exact HO343.out) (Kd.R_base ho0) hb); have n1_ := Aside0.mk (Kd.R_lower (Kd.R_new' ho0 (Kd.R_lt (by (with_reducible repeat (first | apply Kd.R_alloc | apply Kd.R_drewN | apply Kd.R_drew)); exact HO343.out))) (below_size (by repeat (first | (with_reducible first | exact HB.out | apply below_alloc | apply pw_below_drewN | apply below_drew1) | exact HB.out)))); have n2_ := Aside0.mk (below_step (by repeat (first | (with_reducible first | exact HB.out | apply below_alloc | apply pw_below_drewN | apply below_drew1) | exact HB.out)) hb); clear HO343; clear HB; have HO343 := n0_; have HO347 := n1_; have HB := n2_; clear n0_ n1_ n2_; (try clear hb); (try clear hb2); (try clear hk); (try clear hi); (try clear ho0)) | ((with_reducible refine gate_callee (f := 12) rfl ?_); refine goesL_ (some 32) rfl rfl Tryd.func12 (by kernel_rfl) rfl #[.slice A0 l0.length c0] rfl (by (try simp only [List.map_toArray, List.map_cons, List.map_nil]); first | done | rfl | (simp only [List.length_drop, List.length_take]; rfl)) ?_; (with_reducible refine (laws_toStringS.calls k _ _ l0 t348 _ ?side1 ?side2 A8.out).mono ?_); (case side1 => repeat (first | exact (Kd.C_below HR0.out HB.out) | (with_reducible refine Kd.C_alloc ?_ _) | (with_reducible refine Kd.C_drewN ?_ _) | (with_reducible refine Kd.C_drew ?_))); (case side2 => exact HC0.out); rintro e w14 ⟨v349, rfl, ho0, hb⟩; refine ⟨_, rfl, ?_⟩; have n0_ := Aside0.mk (Kd.R_elder' (by (with_reducible repeat (first | apply Kd.R_alloc | apply Kd.R_drewN | apply Kd.R_drew)); exact HO343.out) (Kd.R_base ho0) hb); have n1_ := Aside0.mk (Kd.R_elder' (by (with_reducible repeat (first | apply Kd.R_alloc | apply Kd.R_drewN | apply Kd.R_drew)); exact HO347.out) (Kd.R_base ho0) hb); have n2_ := Aside0.mk (Kd.R_lower (Kd.R_new' (Kd.R_new' ho0 (Kd.R_lt (by (with_reducible repeat (first | apply Kd.R_alloc | apply Kd.R_drewN | apply Kd.R_drew)); exact HO343.out))) (Kd.R_lt (by (with_reducible repeat (first | apply Kd.R_alloc | apply Kd.R_drewN | apply Kd.R_drew)); exact HO347.out))) (below_size (by repeat (first | (with_reducible first | exact HB.out | apply below_alloc | apply pw_below_drewN | apply below_drew1) | exact HB.out)))); have n3_ := Aside0.mk (below_step (by repeat (first | (with_reducible first | exact HB.out | apply below_alloc | apply pw_below_drewN | apply below_drew1) | exact HB.out)) hb); clear HO343; clear HO347; clear HB; have HO343 := n0_; have HO347 := n1_; have HO350 := n2_; have HB := n3_; clear n0_ n1_ n2_ n3_; (try clear hb); (try clear hb2); (try clear hk); (try clear hi); (try clear ho0); obtain ⟨Ao15, co15, eo15⟩ := Kd.R_slice HO350.out; subst eo15) | ((with_reducible refine gate_callee (f := 22) rfl ?_); refine goesL_ (some 36) rfl rfl Tryd.func22 (by kernel_rfl) rfl #[.slice Ao15 t348.length co15, .string a1] rfl (by (try simp only [List.map_toArray, List.map_cons, List.map_nil]); first | done | rfl | (simp only [List.length_drop, List.length_take]; rfl)) ?_; (with_reducible refine (impl_FirstFewest.calls k _ _ t348 a1 t351 t352 _ ?side1 ?side2 A9.out).mono ?_); (case side1 => repeat (first | exact (Kd.R_reads' HO350.out).2.2 | (with_reducible refine Kd.C_alloc ?_ _) | (with_reducible refine Kd.C_drewN ?_ _) | (with_reducible refine Kd.C_drew ?_))); (case side2 => exact (Kd.R_reads' HO350.out).2.1); rintro e w16 ⟨v353, rfl, ho0, hb⟩; refine ⟨_, rfl, ?_⟩; have n0_ := Aside0.mk (Kd.R_elder' (by (with_reducible repeat (first | apply Kd.R_alloc | apply Kd.R_drewN | apply Kd.R_drew)); exact HO343.out) (Kd.R_base ho0) hb); have n1_ := Aside0.mk (Kd.R_elder' (by (with_reducible repeat (first | apply Kd.R_alloc | apply Kd.R_drewN | apply Kd.R_drew)); exact HO347.out) (Kd.R_base ho0) hb); have n2_ := Aside0.mk (Kd.R_elder' (by (with_reducible repeat (first | apply Kd.R_alloc | apply Kd.R_drewN | apply Kd.R_drew)); exact HO350.out) (Kd.R_base ho0) hb); have n3_ := Aside0.mk (Kd.R_lower (Kd.R_new' (Kd.R_new' (Kd.R_new' ho0 (Kd.R_lt (by (with_reducible repeat (first | apply Kd.R_alloc | apply Kd.R_drewN | apply Kd.R_drew)); exact HO343.out))) (Kd.R_lt (by (with_reducible repeat (first | apply Kd.R_alloc | apply Kd.R_drewN | apply Kd.R_drew)); exact HO347.out))) (Kd.R_lt (by (with_reducible repeat (first | apply Kd.R_alloc | apply Kd.R_drewN | apply Kd.R_drew)); exact HO350.out))) (below_size (by repeat (first | (with_reducible first | exact HB.out | apply below_alloc | apply pw_below_drewN | apply below_drew1) | exact HB.out)))); have n4_ := Aside0.mk (below_step (by repeat (first | (with_reducible first | exact HB.out | apply below_alloc | apply pw_below_drewN | apply below_drew1) | exact HB.out)) hb); clear HO343; clear HO347; clear HO350; clear HB; have HO343 := n0_; have HO347 := n1_; have HO350 := n2_; have HO354 := n3_; have HB := n4_; clear n0_ n1_ n2_ n3_ n4_; (try clear hb); (try clear hb2); (try clear hk); (try clear hi); (try clear ho0)))
      (try simp only [Act.put, List.setIfInBounds_toArray, List.set_cons_zero, List.set_cons_succ])
      go_cut [47] (fun v47 wc => ∃ (kq : Nat) (x47_9 : Bool), v47 = .bool x47_9 ∧ Aside0 (laws_FnExactFirstFewest.j0 kq l0 a1 t344 t345 t348 t351 t352 x47_9 = some r) ∧ Aside0 (kq ≤ k) ∧ Aside0 (Kd.R Kd.string 9 wc w.heap.size (fun k_ => some k_ ≠ ((.slice Ao15 t348.length co15) : Value).ownBlock ∧ some k_ ≠ (v353 : Value).ownBlock) v346 t344) ∧ Aside0 (Kd.R Kd.string 9 wc w.heap.size (fun k_ => some k_ ≠ (v346 : Value).ownBlock ∧ some k_ ≠ (v353 : Value).ownBlock) (.slice Ao15 t348.length co15) t348) ∧ Aside0 (Kd.R Kd.string 9 wc w.heap.size (fun k_ => some k_ ≠ (v346 : Value).ownBlock ∧ some k_ ≠ ((.slice Ao15 t348.length co15) : Value).ownBlock) v353 t351) ∧ Aside0 (Below w.heap.size w wc))
      case first =>
        have H := HC10.out
        clear HC10
        replace H := Option.bind_eq_some_iff.mp H
        obtain ⟨t355, A170, H⟩ := H
        replace H : (if t355 = true then (laws_FnExactFirstFewest.j0 k l0 a1 t344 t345 t348 t351 t352 (t352 != t345)) else (laws_FnExactFirstFewest.j0 k l0 a1 t344 t345 t348 t351 t352 true)) = some r := H
        have A17 := Aside0.mk A170
        clear A170
        by_cases c18 : t355 = true
        · subst c18
          have H1 : (laws_FnExactFirstFewest.j0 k l0 a1 t344 t345 t348 t351 t352 (t352 != t345)) = some r := by rw [if_pos rfl] at H; exact H
          clear H
          have H := H1
          clear H1
          have H' := Aside0.mk H
          clear H
          obtain ⟨Ao19, co19, eo19⟩ := Kd.R_slice HO354.out
          subst eo19
          obtain ⟨Ao20, co20, eo20⟩ := Kd.R_slice HO347.out
          subst eo20
          go_wp2_with (first | ((with_reducible refine gate_callee (f := 14) rfl ?_); refine goesL_ (some 41) rfl rfl Tryd.func14 (by kernel_rfl) rfl #[.slice Ao19 t351.length co19, .slice Ao20 t344.length co20] rfl (by (try simp only [List.map_toArray, List.map_cons, List.map_nil]); first | done | rfl | (simp only [List.length_drop, List.length_take]; rfl)) ?_; (with_reducible refine (laws_eqStringS.calls k _ _ t351 _ _ t344 true _ ?side1 ?side2 ?side3 ?side4 A17.out).mono ?_); (case side1 => repeat (first | exact (Kd.R_reads' HO354.out).2.2 | (with_reducible refine Kd.C_alloc ?_ _) | (with_reducible refine Kd.C_drewN ?_ _) | (with_reducible refine Kd.C_drew ?_))); (case side2 => exact (Kd.R_reads' HO354.out).2.1); (case side3 => repeat (first | exact (Kd.R_reads' HO347.out).2.2 | (with_reducible refine Kd.C_alloc ?_ _) | (with_reducible refine Kd.C_drewN ?_ _) | (with_reducible refine Kd.C_drew ?_))); (case side4 => exact (Kd.R_reads' HO347.out).2.1); rintro e w' ⟨rfl, ⟨nd, rfl⟩⟩; refine ⟨_, rfl, ?_⟩))
          go_meet
          case rel => exact ⟨_, ((t352 != t345)), (by first | rfl | (simp; done) | (simp [*]; done)), H', ⟨by first | omega | exact Nat.le_refl _⟩, ⟨by (with_reducible repeat (first | apply Kd.R_alloc | apply Kd.R_drewN | apply Kd.R_drew)); exact Kd.R_mono HO347.out (fun _ hk => ⟨hk.1.2, hk.2⟩)⟩, ⟨by (with_reducible repeat (first | apply Kd.R_alloc | apply Kd.R_drewN | apply Kd.R_drew)); exact Kd.R_mono HO350.out (fun _ hk => ⟨hk.1.2, hk.2⟩)⟩, ⟨by (with_reducible repeat (first | apply Kd.R_alloc | apply Kd.R_drewN | apply Kd.R_drew)); exact Kd.R_mono HO354.out (fun _ hk => ⟨hk.1.2, hk.2⟩)⟩, ⟨by repeat (first | (with_reducible first | exact HB.out | apply below_alloc | apply pw_below_drewN | apply below_drew1) | exact HB.out)⟩⟩
        · replace c18 := Bool.eq_false_iff.mpr c18
          subst c18
          have H1 : (laws_FnExactFirstFewest.j0 k l0 a1 t344 t345 t348 t351 t352 true) = some r := by rw [if_neg (show ¬ (false = true) by decide)] at H; exact H
          clear H
          have H := H1
          clear H1
          have H' := Aside0.mk H
          clear H
          obtain ⟨Ao21, co21, eo21⟩ := Kd.R_slice HO354.out
          subst eo21
          obtain ⟨Ao22, co22, eo22⟩ := Kd.R_slice HO347.out
          subst eo22
          go_wp2_with (first | ((with_reducible refine gate_callee (f := 14) rfl ?_); refine goesL_ (some 41) rfl rfl Tryd.func14 (by kernel_rfl) rfl #[.slice Ao21 t351.length co21, .slice Ao22 t344.length co22] rfl (by (try simp only [List.map_toArray, List.map_cons, List.map_nil]); first | done | rfl | (simp only [List.length_drop, List.length_take]; rfl)) ?_; (with_reducible refine (laws_eqStringS.calls k _ _ t351 _ _ t344 false _ ?side1 ?side2 ?side3 ?side4 A17.out).mono ?_); (case side1 => repeat (first | exact (Kd.R_reads' HO354.out).2.2 | (with_reducible refine Kd.C_alloc ?_ _) | (with_reducible refine Kd.C_drewN ?_ _) | (with_reducible refine Kd.C_drew ?_))); (case side2 => exact (Kd.R_reads' HO354.out).2.1); (case side3 => repeat (first | exact (Kd.R_reads' HO347.out).2.2 | (with_reducible refine Kd.C_alloc ?_ _) | (with_reducible refine Kd.C_drewN ?_ _) | (with_reducible refine Kd.C_drew ?_))); (case side4 => exact (Kd.R_reads' HO347.out).2.1); rintro e w' ⟨rfl, ⟨nd, rfl⟩⟩; refine ⟨_, rfl, ?_⟩))
          go_meet
          case rel => exact ⟨_, (true), (by first | rfl | (simp; done) | (simp [*]; done)), H', ⟨by first | omega | exact Nat.le_refl _⟩, ⟨by (with_reducible repeat (first | apply Kd.R_alloc | apply Kd.R_drewN | apply Kd.R_drew)); exact Kd.R_mono HO347.out (fun _ hk => ⟨hk.1.2, hk.2⟩)⟩, ⟨by (with_reducible repeat (first | apply Kd.R_alloc | apply Kd.R_drewN | apply Kd.R_drew)); exact Kd.R_mono HO350.out (fun _ hk => ⟨hk.1.2, hk.2⟩)⟩, ⟨by (with_reducible repeat (first | apply Kd.R_alloc | apply Kd.R_drewN | apply Kd.R_drew)); exact Kd.R_mono HO354.out (fun _ hk => ⟨hk.1.2, hk.2⟩)⟩, ⟨by repeat (first | (with_reducible first | exact HB.out | apply below_alloc | apply pw_below_drewN | apply below_drew1) | exact HB.out)⟩⟩
      case rest =>
        clear HC10
        try clear c1
        try clear c2
        try clear p2
        try clear c3
        try clear c3b0
        try clear c3b1
        try clear c5
        try clear c5b0
        try clear c6
        try clear c10
        try clear c12
        try clear c14
        try clear c18
        try clear c21
        try clear c22
        obtain ⟨kq, x47_9, rfl, HA, HJ9, HO_6, HO_8, HO_9, HB⟩ := hcut
        cases kq with
        | zero => exact absurd HA.out (by simp [laws_FnExactFirstFewest.j0])
        | succ kj9 =>
          have H := HA.out
          clear HA
          simp only [laws_FnExactFirstFewest.j0] at H
          by_cases c23 : x47_9 = true
          · subst c23
            have H1 : (some false) = some r := by rw [if_pos rfl] at H; exact H
            clear H
            have H := H1
            clear H1
            obtain rfl := Option.some.inj H
            go_wp2
            go_ret
            exact ⟨by first | rfl | (simp [errW_none, errW_some] <;> rfl) | (simp [*, errW_none, errW_some] <;> rfl), by repeat (first | (with_reducible first | exact HB.out | apply below_alloc | apply pw_below_drewN | apply below_drew1) | exact HB.out)⟩
          · replace c23 := Bool.eq_false_iff.mpr c23
            subst c23
            have H1 : ((laws_toStringS.f kj9 l0).bind fun t356 => ((laws_eqStringS.f kj9 t348 t356).bind fun t359 => (if t359 = true then ((laws_markStringS.f kj9 t348 1).bind fun bt360 => (if bt360.1 < 0 then (laws_FnExactFirstFewest.j1 kj9 l0 a1 t344 t345 t351 true) else ((laws_eqStringS.f kj9 t351 t344).bind fun t362 => (if t362 = true then (laws_FnExactFirstFewest.j1 kj9 l0 a1 t344 t345 t351 (t352 != t345)) else (laws_FnExactFirstFewest.j1 kj9 l0 a1 t344 t345 t351 true))))) else (some false)))) = some r := by rw [if_neg (show ¬ (false = true) by decide)] at H; exact H
            clear H
            have H := H1
            clear H1
            replace H := Option.bind_eq_some_iff.mp H
            obtain ⟨t356, A240, H⟩ := H
            replace H : ((laws_eqStringS.f kj9 t348 t356).bind fun t359 => (if t359 = true then ((laws_markStringS.f kj9 t348 1).bind fun bt360 => (if bt360.1 < 0 then (laws_FnExactFirstFewest.j1 kj9 l0 a1 t344 t345 t351 true) else ((laws_eqStringS.f kj9 t351 t344).bind fun t362 => (if t362 = true then (laws_FnExactFirstFewest.j1 kj9 l0 a1 t344 t345 t351 (t352 != t345)) else (laws_FnExactFirstFewest.j1 kj9 l0 a1 t344 t345 t351 true))))) else (some false))) = some r := H
            have A24 := Aside0.mk A240
            clear A240
            replace H := Option.bind_eq_some_iff.mp H
            obtain ⟨t359, A250, H⟩ := H
            replace H : (if t359 = true then ((laws_markStringS.f kj9 t348 1).bind fun bt360 => (if bt360.1 < 0 then (laws_FnExactFirstFewest.j1 kj9 l0 a1 t344 t345 t351 true) else ((laws_eqStringS.f kj9 t351 t344).bind fun t362 => (if t362 = true then (laws_FnExactFirstFewest.j1 kj9 l0 a1 t344 t345 t351 (t352 != t345)) else (laws_FnExactFirstFewest.j1 kj9 l0 a1 t344 t345 t351 true))))) else (some false)) = some r := H
            have A25 := Aside0.mk A250
            clear A250
            by_cases c26 : t359 = true
            · subst c26
              have H1 : ((laws_markStringS.f kj9 t348 1).bind fun bt360 => (if bt360.1 < 0 then (laws_FnExactFirstFewest.j1 kj9 l0 a1 t344 t345 t351 true) else ((laws_eqStringS.f kj9 t351 t344).bind fun t362 => (if t362 = true then (laws_FnExactFirstFewest.j1 kj9 l0 a1 t344 t345 t351 (t352 != t345)) else (laws_FnExactFirstFewest.j1 kj9 l0 a1 t344 t345 t351 true))))) = some r := by rw [if_pos rfl] at H; exact H
              clear H
              have H := H1
              clear H1
              replace H := Option.bind_eq_some_iff.mp H
              obtain ⟨⟨t360, t361⟩, A270, H⟩ := H
              replace H : (if t360 < 0 then (laws_FnExactFirstFewest.j1 kj9 l0 a1 t344 t345 t351 true) else ((laws_eqStringS.f kj9 t351 t344).bind fun t362 => (if t362 = true then (laws_FnExactFirstFewest.j1 kj9 l0 a1 t344 t345 t351 (t352 != t345)) else (laws_FnExactFirstFewest.j1 kj9 l0 a1 t344 t345 t351 true)))) = some r := H
              have A27 := Aside0.mk A270
              clear A270
              have HC28 := Aside0.mk H
              clear H
              go_upto_region 16 with (first | ((with_reducible refine gate_callee (f := 12) rfl ?_); refine goesL_ (some 50) rfl rfl Tryd.func12 (by kernel_rfl) rfl #[.slice A0 l0.length c0] rfl (by (try simp only [List.map_toArray, List.map_cons, List.map_nil]); first | done | rfl | (simp only [List.length_drop, List.length_take]; rfl)) ?_; (with_reducible refine (laws_toStringS.calls kj9 _ _ l0 t356 _ ?side1 ?side2 A24.out).mono ?_); (case side1 => repeat (first | exact (Kd.C_below HR0.out HB.out) | (with_reducible refine Kd.C_alloc ?_ _) | (with_reducible refine Kd.C_drewN ?_ _) | (with_reducible refine Kd.C_drew ?_))); (case side2 => exact HC0.out); rintro e w29 ⟨v357, rfl, ho0, hb⟩; refine ⟨_, rfl, ?_⟩; have n0_ := Aside0.mk (Kd.R_elder' (by (with_reducible repeat (first | apply Kd.R_alloc | apply Kd.R_drewN | apply Kd.R_drew)); exact HO_6.out) (Kd.R_base ho0) hb); have n1_ := Aside0.mk (Kd.R_elder' (by (with_reducible repeat (first | apply Kd.R_alloc | apply Kd.R_drewN | apply Kd.R_drew)); exact HO_8.out) (Kd.R_base ho0) hb); have n2_ := Aside0.mk (Kd.R_elder' (by (with_reducible repeat (first | apply Kd.R_alloc | apply Kd.R_drewN | apply Kd.R_drew)); exact HO_9.out) (Kd.R_base ho0) hb); have n3_ := Aside0.mk (Kd.R_lower (Kd.R_new' (Kd.R_new' (Kd.R_new' ho0 (Kd.R_lt (by (with_reducible repeat (first | apply Kd.R_alloc | apply Kd.R_drewN | apply Kd.R_drew)); exact HO_6.out))) (Kd.R_lt (by (with_reducible repeat (first | apply Kd.R_alloc | apply Kd.R_drewN | apply Kd.R_drew)); exact HO_8.out))) (Kd.R_lt (by (with_reducible repeat (first | apply Kd.R_alloc | apply Kd.R_drewN | apply Kd.R_drew)); exact HO_9.out))) (below_size (by repeat (first | (with_reducible first | exact HB.out | apply below_alloc | apply pw_below_drewN | apply below_drew1) | exact HB.out)))); have n4_ := Aside0.mk (below_step (by repeat (first | (with_reducible first | exact HB.out | apply below_alloc | apply pw_below_drewN | apply below_drew1) | exact HB.out)) hb); clear HO_6; clear HO_8; clear HO_9; clear HB; have HO_6 := n0_; have HO_8 := n1_; have HO_9 := n2_; have HO358 := n3_; have HB := n4_; clear n0_ n1_ n2_ n3_ n4_; (try clear hb); (try clear hb2); (try clear hk); (try clear hi); (try clear ho0); obtain ⟨Ao30, co30, eo30⟩ := Kd.R_slice HO358.out; subst eo30) | ((with_reducible refine gate_callee (f := 14) rfl ?_); refine goesL_ (some 51) rfl rfl Tryd.func14 (by kernel_rfl) rfl #[.slice Ao15 t348.length co15, .slice Ao30 t356.length co30] rfl (by (try simp only [List.map_toArray, List.map_cons, List.map_nil]); first | done | rfl | (simp only [List.length_drop, List.length_take]; rfl)) ?_; (with_reducible refine (laws_eqStringS.calls kj9 _ _ t348 _ _ t356 true _ ?side1 ?side2 ?side3 ?side4 A25.out).mono ?_); (case side1 => repeat (first | exact (Kd.R_reads' HO_8.out).2.2 | (with_reducible refine Kd.C_alloc ?_ _) | (with_reducible refine Kd.C_drewN ?_ _) | (with_reducible refine Kd.C_drew ?_))); (case side2 => exact (Kd.R_reads' HO_8.out).2.1); (case side3 => repeat (first | exact (Kd.R_reads' HO358.out).2.2 | (with_reducible refine Kd.C_alloc ?_ _) | (with_reducible refine Kd.C_drewN ?_ _) | (with_reducible refine Kd.C_drew ?_))); (case side4 => exact (Kd.R_reads' HO358.out).2.1); rintro e w' ⟨rfl, ⟨nd, rfl⟩⟩; refine ⟨_, rfl, ?_⟩) | ((with_reducible refine gate_callee (f := 15) rfl ?_); refine goesL_ (some 55) rfl rfl Tryd.func15 (by kernel_rfl) rfl #[.slice Ao15 t348.length co15, .int .i64 1] rfl (by (try simp only [List.map_toArray, List.map_cons, List.map_nil]); first | done | rfl | (simp only [List.length_drop, List.length_take]; rfl)) ?_; (with_reducible refine (laws_markStringS.calls kj9 (fun k_ => some k_ = (.slice Ao15 t348.length co15 : Value).ownBlock) (.slice Ao15 t348.length co15) t348 1 t360 t361 w _ ?side1 ?side2 A27.out).mono ?_); (case side1 => repeat (first | (with_reducible first | exact HB.out | apply below_alloc | apply pw_below_drewN | apply below_drew1) | exact HB.out)); (case side2 => exact Kd.R_tight rfl HO_8.out); rintro e w31 ⟨rfl, hy0, hb, hkp⟩; refine ⟨_, rfl, ?_⟩; have n0_ := Aside0.mk (Kd.R_mono (ok' := fun k_ => some k_ ≠ (.slice Ao15 t348.length co15 : Value).ownBlock ∧ some k_ ≠ (v353 : Value).ownBlock ∧ some k_ ≠ (.slice Ao30 t356.length co30 : Value).ownBlock) (Kd.R_keptB (HO_6.out) hkp (fun k_ hk_ hs_ => (hk_.1.1) hs_)) (fun k_ hk_ => ⟨hk_.1.1.1, hk_.1.1.2, hk_.1.2⟩)); have n1_ := Aside0.mk (Kd.R_reok rfl hy0 (fun k_ e_ => HO_8.out.1 k_ e_)); have n2_ := Aside0.mk (Kd.R_mono (ok' := fun k_ => some k_ ≠ (v346 : Value).ownBlock ∧ some k_ ≠ (.slice Ao15 t348.length co15 : Value).ownBlock ∧ some k_ ≠ (.slice Ao30 t356.length co30 : Value).ownBlock) (Kd.R_keptB (HO_9.out) hkp (fun k_ hk_ hs_ => (hk_.1.2) hs_)) (fun k_ hk_ => ⟨hk_.1.1.1, hk_.1.1.2, hk_.1.2⟩)); have n3_ := Aside0.mk (Kd.R_mono (ok' := fun k_ => some k_ ≠ (v346 : Value).ownBlock ∧ some k_ ≠ (.slice Ao15 t348.length co15 : Value).ownBlock ∧ some k_ ≠ (v353 : Value).ownBlock) (Kd.R_keptB (HO358.out) hkp (fun k_ hk_ hs_ => (hk_.1.2) hs_)) (fun k_ hk_ => ⟨hk_.1.1.1.2, hk_.1.1.2, hk_.1.2⟩)); have n4_ := Aside0.mk (hb); clear HO_6; clear HO_8; clear HO_9; clear HO358; clear HB; have HO_6 := n0_; have HO_8 := n1_; have HO_9 := n2_; have HO358 := n3_; have HB := n4_; clear n0_ n1_ n2_ n3_ n4_; (try clear hb); (try clear hkp); (try clear hy0)))
              (try simp only [Act.put, List.setIfInBounds_toArray, List.set_cons_zero, List.set_cons_succ])
              go_cut [68] (fun v68 wc => ∃ (kq : Nat) (x68_27 : Bool), v68 = .bool x68_27 ∧ Aside0 (laws_FnExactFirstFewest.j1 kq l0 a1 t344 t345 t351 x68_27 = some r) ∧ Aside0 (kq ≤ kj9) ∧ Aside0 (Kd.R Kd.string 9 wc w.heap.size (fun k_ => some k_ ≠ (v353 : Value).ownBlock) v346 t344) ∧ Aside0 (Kd.R Kd.string 9 wc w.heap.size (fun k_ => some k_ ≠ (v346 : Value).ownBlock) v353 t351) ∧ Aside0 (Below w.heap.size w wc))
              case first =>
                have H := HC28.out
                clear HC28
                by_cases c32 : t360 < 0
                · rw [if_pos c32] at H
                  have c32b0 : decide (t360 < 0) = true := decide_eq_true c32
                  clear c32
                  (first | rw [c32b0] | (simp only [i64_w, i32_w]; rw [c32b0]) | skip)
                  have H' := Aside0.mk H
                  clear H
                  go_wp2
                  go_meet
                  case rel => exact ⟨_, (true), (by first | rfl | (simp; done) | (simp [*]; done)), H', ⟨by have := HJ9.out; first | omega | exact Nat.le_refl _⟩, ⟨by (with_reducible repeat (first | apply Kd.R_alloc | apply Kd.R_drewN | apply Kd.R_drew)); exact Kd.R_mono HO_6.out (fun _ hk => hk.2.1)⟩, ⟨by (with_reducible repeat (first | apply Kd.R_alloc | apply Kd.R_drewN | apply Kd.R_drew)); exact Kd.R_mono HO_9.out (fun _ hk => hk.1)⟩, ⟨by repeat (first | (with_reducible first | exact HB.out | apply below_alloc | apply pw_below_drewN | apply below_drew1) | exact HB.out)⟩⟩
                · rw [if_neg c32] at H
                  have c32b0 : decide (t360 < 0) = false := decide_eq_false c32
                  clear c32
                  (first | rw [c32b0] | (simp only [i64_w, i32_w]; rw [c32b0]) | skip)
                  replace H := Option.bind_eq_some_iff.mp H
                  obtain ⟨t362, A330, H⟩ := H
                  replace H : (if t362 = true then (laws_FnExactFirstFewest.j1 kj9 l0 a1 t344 t345 t351 (t352 != t345)) else (laws_FnExactFirstFewest.j1 kj9 l0 a1 t344 t345 t351 true)) = some r := H
                  have A33 := Aside0.mk A330
                  clear A330
                  by_cases c34 : t362 = true
                  · subst c34
                    have H1 : (laws_FnExactFirstFewest.j1 kj9 l0 a1 t344 t345 t351 (t352 != t345)) = some r := by rw [if_pos rfl] at H; exact H
                    clear H
                    have H := H1
                    clear H1
                    have H' := Aside0.mk H
                    clear H
                    obtain ⟨Ao35, co35, eo35⟩ := Kd.R_slice HO_9.out
                    subst eo35
                    obtain ⟨Ao36, co36, eo36⟩ := Kd.R_slice HO_6.out
                    subst eo36
                    go_wp2_with (first | (go_at_call 14; (with_reducible refine (laws_eqStringS.calls kj9 _ _ t351 _ _ t344 true _ ?side1 ?side2 ?side3 ?side4 A33.out).mono ?_); (case side1 => repeat (first | exact (Kd.R_reads' HO_9.out).2.2 | (with_reducible refine Kd.C_alloc ?_ _) | (with_reducible refine Kd.C_drewN ?_ _) | (with_reducible refine Kd.C_drew ?_))); (case side2 => exact (Kd.R_reads' HO_9.out).2.1); (case side3 => repeat (first | exact (Kd.R_reads' HO_6.out).2.2 | (with_reducible refine Kd.C_alloc ?_ _) | (with_reducible refine Kd.C_drewN ?_ _) | (with_reducible refine Kd.C_drew ?_))); (case side4 => exact (Kd.R_reads' HO_6.out).2.1); rintro e w' ⟨rfl, ⟨nd, rfl⟩⟩))
                    go_meet
                    case rel => exact ⟨_, ((t352 != t345)), (by first | rfl | (simp; done) | (simp [*]; done)), H', ⟨by have := HJ9.out; first | omega | exact Nat.le_refl _⟩, ⟨by (with_reducible repeat (first | apply Kd.R_alloc | apply Kd.R_drewN | apply Kd.R_drew)); exact Kd.R_mono HO_6.out (fun _ hk => hk.2.1)⟩, ⟨by (with_reducible repeat (first | apply Kd.R_alloc | apply Kd.R_drewN | apply Kd.R_drew)); exact Kd.R_mono HO_9.out (fun _ hk => hk.1)⟩, ⟨by repeat (first | (with_reducible first | exact HB.out | apply below_alloc | apply pw_below_drewN | apply below_drew1) | exact HB.out)⟩⟩
                  · replace c34 := Bool.eq_false_iff.mpr c34
                    subst c34
                    have H1 : (laws_FnExactFirstFewest.j1 kj9 l0 a1 t344 t345 t351 true) = some r := by rw [if_neg (show ¬ (false = true) by decide)] at H; exact H
                    clear H
                    have H := H1
                    clear H1
                    have H' := Aside0.mk H
                    clear H
                    obtain ⟨Ao37, co37, eo37⟩ := Kd.R_slice HO_9.out
                    subst eo37
                    obtain ⟨Ao38, co38, eo38⟩ := Kd.R_slice HO_6.out
                    subst eo38
                    go_wp2_with (first | (go_at_call 14; (with_reducible refine (laws_eqStringS.calls kj9 _ _ t351 _ _ t344 false _ ?side1 ?side2 ?side3 ?side4 A33.out).mono ?_); (case side1 => repeat (first | exact (Kd.R_reads' HO_9.out).2.2 | (with_reducible refine Kd.C_alloc ?_ _) | (with_reducible refine Kd.C_drewN ?_ _) | (with_reducible refine Kd.C_drew ?_))); (case side2 => exact (Kd.R_reads' HO_9.out).2.1); (case side3 => repeat (first | exact (Kd.R_reads' HO_6.out).2.2 | (with_reducible refine Kd.C_alloc ?_ _) | (with_reducible refine Kd.C_drewN ?_ _) | (with_reducible refine Kd.C_drew ?_))); (case side4 => exact (Kd.R_reads' HO_6.out).2.1); rintro e w' ⟨rfl, ⟨nd, rfl⟩⟩))
                    go_meet
                    case rel => exact ⟨_, (true), (by first | rfl | (simp; done) | (simp [*]; done)), H', ⟨by have := HJ9.out; first | omega | exact Nat.le_refl _⟩, ⟨by (with_reducible repeat (first | apply Kd.R_alloc | apply Kd.R_drewN | apply Kd.R_drew)); exact Kd.R_mono HO_6.out (fun _ hk => hk.2.1)⟩, ⟨by (with_reducible repeat (first | apply Kd.R_alloc | apply Kd.R_drewN | apply Kd.R_drew)); exact Kd.R_mono HO_9.out (fun _ hk => hk.1)⟩, ⟨by repeat (first | (with_reducible first | exact HB.out | apply below_alloc | apply pw_below_drewN | apply below_drew1) | exact HB.out)⟩⟩
              case rest =>
                clear HC28
                try clear c1
                try clear c2
                try clear p2
                try clear c3
                try clear c3b0
                try clear c3b1
                try clear c5
                try clear c5b0
                try clear c6
                try clear c10
                try clear c12
                try clear c14
                try clear c15
                try clear c18
                try clear c21
                try clear c22
                try clear c23
                try clear c26
                try clear c32
                try clear c32b0
                try clear c34
                try clear p2
                obtain ⟨kq, x68_27, rfl, HA, HJ27, HO_6, HO_9, HB⟩ := hcut
                cases kq with
                | zero => exact absurd HA.out (by simp [laws_FnExactFirstFewest.j1])
                | succ kj27 =>
                  have H := HA.out
                  clear HA
                  simp only [laws_FnExactFirstFewest.j1] at H
                  by_cases c39 : x68_27 = true
                  · subst c39
                    have H1 : (some false) = some r := by rw [if_pos rfl] at H; exact H
                    clear H
                    have H := H1
                    clear H1
                    obtain rfl := Option.some.inj H
                    go_wp2
                    go_ret
                    exact ⟨by first | rfl | (simp [errW_none, errW_some] <;> rfl) | (simp [*, errW_none, errW_some] <;> rfl), by repeat (first | (with_reducible first | exact HB.out | apply below_alloc | apply pw_below_drewN | apply below_drew1) | exact HB.out)⟩
                  · replace c39 := Bool.eq_false_iff.mpr c39
                    subst c39
                    have H1 : ((laws_markStringS.f kj27 t351 1).bind fun bt363 => ((laws_heldStringS.f kj27 bt363.2 1).bind fun t365 => (if t365 < 0 then (some false) else (if t365 = bt363.1 then ((laws_toStringS.f kj27 l0).bind fun t366 => ((impl_FirstFewest.f kj27 t366 a1).bind fun bt369 => ((laws_eqStringS.f kj27 bt369.1 t344).bind fun t373 => (if t373 = true then (laws_FnExactFirstFewest.j2 kj27 bt363.2 bt363.1 (bt369.2 != t345)) else (laws_FnExactFirstFewest.j2 kj27 bt363.2 bt363.1 true))))) else (some false))))) = some r := by rw [if_neg (show ¬ (false = true) by decide)] at H; exact H
                    clear H
                    have H := H1
                    clear H1
                    replace H := Option.bind_eq_some_iff.mp H
                    obtain ⟨⟨t363, t364⟩, A400, H⟩ := H
                    replace H : ((laws_heldStringS.f kj27 t364 1).bind fun t365 => (if t365 < 0 then (some false) else (if t365 = t363 then ((laws_toStringS.f kj27 l0).bind fun t366 => ((impl_FirstFewest.f kj27 t366 a1).bind fun bt369 => ((laws_eqStringS.f kj27 bt369.1 t344).bind fun t373 => (if t373 = true then (laws_FnExactFirstFewest.j2 kj27 t364 t363 (bt369.2 != t345)) else (laws_FnExactFirstFewest.j2 kj27 t364 t363 true))))) else (some false)))) = some r := H
                    have A40 := Aside0.mk A400
                    clear A400
                    replace H := Option.bind_eq_some_iff.mp H
                    obtain ⟨t365, A410, H⟩ := H
                    replace H : (if t365 < 0 then (some false) else (if t365 = t363 then ((laws_toStringS.f kj27 l0).bind fun t366 => ((impl_FirstFewest.f kj27 t366 a1).bind fun bt369 => ((laws_eqStringS.f kj27 bt369.1 t344).bind fun t373 => (if t373 = true then (laws_FnExactFirstFewest.j2 kj27 t364 t363 (bt369.2 != t345)) else (laws_FnExactFirstFewest.j2 kj27 t364 t363 true))))) else (some false))) = some r := H
                    have A41 := Aside0.mk A410
                    clear A410
                    by_cases c42 : t365 < 0
                    · rw [if_pos c42] at H
                      have c42b0 : decide (t365 < 0) = true := decide_eq_true c42
                      clear c42
                      obtain rfl := Option.some.inj H
                      obtain ⟨Ao43, co43, eo43⟩ := Kd.R_slice HO_9.out
                      subst eo43
                      go_wp2_with (first | ((with_reducible refine gate_callee (f := 15) rfl ?_); refine goesL_ (some 71) rfl rfl Tryd.func15 (by kernel_rfl) rfl #[.slice Ao43 t351.length co43, .int .i64 1] rfl (by (try simp only [List.map_toArray, List.map_cons, List.map_nil]); first | done | rfl | (simp only [List.length_drop, List.length_take]; rfl)) ?_; (with_reducible refine (laws_markStringS.calls kj27 (fun k_ => some k_ = (.slice Ao43 t351.length co43 : Value).ownBlock) (.slice Ao43 t351.length co43) t351 1 t363 t364 w _ ?side1 ?side2 A40.out).mono ?_); (case side1 => repeat (first | (with_reducible first | exact HB.out | apply below_alloc | apply pw_below_drewN | apply below_drew1) | exact HB.out)); (case side2 => exact Kd.R_tight rfl HO_9.out); rintro e w44 ⟨rfl, hy0, hb, hkp⟩; refine ⟨_, rfl, ?_⟩; have n0_ := Aside0.mk (Kd.R_mono (ok' := fun k_ => some k_ ≠ (.slice Ao43 t351.length co43 : Value).ownBlock) (Kd.R_keptB (HO_6.out) hkp (fun k_ hk_ hs_ => (hk_) hs_)) (fun k_ hk_ => hk_.1)); have n1_ := Aside0.mk (Kd.R_reok rfl hy0 (fun k_ e_ => HO_9.out.1 k_ e_)); have n2_ := Aside0.mk (hb); clear HO_6; clear HO_9; clear HB; have HO_6 := n0_; have HO_9 := n1_; have HB := n2_; clear n0_ n1_ n2_; (try clear hb); (try clear hkp); (try clear hy0)) | ((with_reducible refine gate_callee (f := 16) rfl ?_); refine goesL_ (some 74) rfl rfl Tryd.func16 (by kernel_rfl) rfl #[.slice Ao43 t364.length co43, .int .i64 1] rfl (by (try simp only [List.map_toArray, List.map_cons, List.map_nil]); first | done | (rw [show t364.length = t351.length from (Kd.R_reads' HO_9.out).1.symm] <;> rfl) | rfl | (simp only [List.length_drop, List.length_take]; rfl)) ?_; (with_reducible refine (laws_heldStringS.calls kj27 _ _ t364 1 t365 _ ?side1 ?side2 A41.out).mono ?_); (case side1 => repeat (first | exact (Kd.R_reads' HO_9.out).2.2 | (with_reducible refine Kd.C_alloc ?_ _) | (with_reducible refine Kd.C_drewN ?_ _) | (with_reducible refine Kd.C_drew ?_))); (case side2 => rw [show t364.length = t351.length from (Kd.R_reads' HO_9.out).1.symm]; exact (Kd.R_reads' HO_9.out).2.1); rintro e w45 ⟨rfl, hb⟩; refine ⟨_, rfl, ?_⟩; have n0_ := Aside0.mk (Kd.R_below (by (with_reducible repeat (first | apply Kd.R_alloc | apply Kd.R_drewN | apply Kd.R_drew)); exact HO_6.out) hb); have n1_ := Aside0.mk (Kd.R_below (by (with_reducible repeat (first | apply Kd.R_alloc | apply Kd.R_drewN | apply Kd.R_drew)); exact HO_9.out) hb); have n2_ := Aside0.mk (below_step (by repeat (first | (with_reducible first | exact HB.out | apply below_alloc | apply pw_below_drewN | apply below_drew1) | exact HB.out)) hb); clear HO_6; clear HO_9; clear HB; have HO_6 := n0_; have HO_9 := n1_; have HB := n2_; clear n0_ n1_ n2_; (try clear hb); (try clear hb2); (try clear hk); (try clear hi)))
                      go_ret
                      exact ⟨by first | rfl | (simp [errW_none, errW_some] <;> rfl) | (simp [*, errW_none, errW_some] <;> rfl), by repeat (first | (with_reducible first | exact HB.out | apply below_alloc | apply pw_below_drewN | apply below_drew1) | exact HB.out)⟩
                    · rw [if_neg c42] at H
                      have c42b0 : decide (t365 < 0) = false := decide_eq_false c42
                      clear c42
                      by_cases c46 : t365 = t363
                      · rw [if_pos c46] at H
                        have c46b0 : (t365 == t363) = true := beq_iff_eq.mpr c46
                        have c46b1 : (t365 != t363) = false := bne_eq_false_iff_eq.mpr c46
                        clear c46
                        replace H := Option.bind_eq_some_iff.mp H
                        obtain ⟨t366, A470, H⟩ := H
                        replace H : ((impl_FirstFewest.f kj27 t366 a1).bind fun bt369 => ((laws_eqStringS.f kj27 bt369.1 t344).bind fun t373 => (if t373 = true then (laws_FnExactFirstFewest.j2 kj27 t364 t363 (bt369.2 != t345)) else (laws_FnExactFirstFewest.j2 kj27 t364 t363 true)))) = some r := H
                        have A47 := Aside0.mk A470
                        clear A470
                        replace H := Option.bind_eq_some_iff.mp H
                        obtain ⟨⟨t369, t370⟩, A480, H⟩ := H
                        replace H : ((laws_eqStringS.f kj27 t369 t344).bind fun t373 => (if t373 = true then (laws_FnExactFirstFewest.j2 kj27 t364 t363 (t370 != t345)) else (laws_FnExactFirstFewest.j2 kj27 t364 t363 true))) = some r := H
                        have A48 := Aside0.mk A480
                        clear A480
                        have HC49 := Aside0.mk H
                        clear H
                        obtain ⟨Ao50, co50, eo50⟩ := Kd.R_slice HO_9.out
                        subst eo50
                        go_upto_region 27 with (first | ((with_reducible refine gate_callee (f := 15) rfl ?_); refine goesL_ (some 71) rfl rfl Tryd.func15 (by kernel_rfl) rfl #[.slice Ao50 t351.length co50, .int .i64 1] rfl (by (try simp only [List.map_toArray, List.map_cons, List.map_nil]); first | done | rfl | (simp only [List.length_drop, List.length_take]; rfl)) ?_; (with_reducible refine (laws_markStringS.calls kj27 (fun k_ => some k_ = (.slice Ao50 t351.length co50 : Value).ownBlock) (.slice Ao50 t351.length co50) t351 1 t363 t364 w _ ?side1 ?side2 A40.out).mono ?_); (case side1 => repeat (first | (with_reducible first | exact HB.out | apply below_alloc | apply pw_below_drewN | apply below_drew1) | exact HB.out)); (case side2 => exact Kd.R_tight rfl HO_9.out); rintro e w51 ⟨rfl, hy0, hb, hkp⟩; refine ⟨_, rfl, ?_⟩; have n0_ := Aside0.mk (Kd.R_mono (ok' := fun k_ => some k_ ≠ (.slice Ao50 t351.length co50 : Value).ownBlock) (Kd.R_keptB (HO_6.out) hkp (fun k_ hk_ hs_ => (hk_) hs_)) (fun k_ hk_ => hk_.1)); have n1_ := Aside0.mk (Kd.R_reok rfl hy0 (fun k_ e_ => HO_9.out.1 k_ e_)); have n2_ := Aside0.mk (hb); clear HO_6; clear HO_9; clear HB; have HO_6 := n0_; have HO_9 := n1_; have HB := n2_; clear n0_ n1_ n2_; (try clear hb); (try clear hkp); (try clear hy0)) | ((with_reducible refine gate_callee (f := 16) rfl ?_); refine goesL_ (some 74) rfl rfl Tryd.func16 (by kernel_rfl) rfl #[.slice Ao50 t364.length co50, .int .i64 1] rfl (by (try simp only [List.map_toArray, List.map_cons, List.map_nil]); first | done | (rw [show t364.length = t351.length from (Kd.R_reads' HO_9.out).1.symm] <;> rfl) | rfl | (simp only [List.length_drop, List.length_take]; rfl)) ?_; (with_reducible refine (laws_heldStringS.calls kj27 _ _ t364 1 t365 _ ?side1 ?side2 A41.out).mono ?_); (case side1 => repeat (first | exact (Kd.R_reads' HO_9.out).2.2 | (with_reducible refine Kd.C_alloc ?_ _) | (with_reducible refine Kd.C_drewN ?_ _) | (with_reducible refine Kd.C_drew ?_))); (case side2 => rw [show t364.length = t351.length from (Kd.R_reads' HO_9.out).1.symm]; exact (Kd.R_reads' HO_9.out).2.1); rintro e w52 ⟨rfl, hb⟩; refine ⟨_, rfl, ?_⟩; have n0_ := Aside0.mk (Kd.R_below (by (with_reducible repeat (first | apply Kd.R_alloc | apply Kd.R_drewN | apply Kd.R_drew)); exact HO_6.out) hb); have n1_ := Aside0.mk (Kd.R_below (by (with_reducible repeat (first | apply Kd.R_alloc | apply Kd.R_drewN | apply Kd.R_drew)); exact HO_9.out) hb); have n2_ := Aside0.mk (below_step (by repeat (first | (with_reducible first | exact HB.out | apply below_alloc | apply pw_below_drewN | apply below_drew1) | exact HB.out)) hb); clear HO_6; clear HO_9; clear HB; have HO_6 := n0_; have HO_9 := n1_; have HB := n2_; clear n0_ n1_ n2_; (try clear hb); (try clear hb2); (try clear hk); (try clear hi)) | ((with_reducible refine gate_callee (f := 12) rfl ?_); refine goesL_ (some 82) rfl rfl Tryd.func12 (by kernel_rfl) rfl #[.slice A0 l0.length c0] rfl (by (try simp only [List.map_toArray, List.map_cons, List.map_nil]); first | done | rfl | (simp only [List.length_drop, List.length_take]; rfl)) ?_; (with_reducible refine (laws_toStringS.calls kj27 _ _ l0 t366 _ ?side1 ?side2 A47.out).mono ?_); (case side1 => repeat (first | exact (Kd.C_below HR0.out HB.out) | (with_reducible refine Kd.C_alloc ?_ _) | (with_reducible refine Kd.C_drewN ?_ _) | (with_reducible refine Kd.C_drew ?_))); (case side2 => exact HC0.out); rintro e w53 ⟨v367, rfl, ho0, hb⟩; refine ⟨_, rfl, ?_⟩; have n0_ := Aside0.mk (Kd.R_elder' (by (with_reducible repeat (first | apply Kd.R_alloc | apply Kd.R_drewN | apply Kd.R_drew)); exact HO_6.out) (Kd.R_base ho0) hb); have n1_ := Aside0.mk (Kd.R_elder' (by (with_reducible repeat (first | apply Kd.R_alloc | apply Kd.R_drewN | apply Kd.R_drew)); exact HO_9.out) (Kd.R_base ho0) hb); have n2_ := Aside0.mk (Kd.R_lower (Kd.R_new' (Kd.R_new' ho0 (Kd.R_lt (by (with_reducible repeat (first | apply Kd.R_alloc | apply Kd.R_drewN | apply Kd.R_drew)); exact HO_6.out))) (Kd.R_lt (by (with_reducible repeat (first | apply Kd.R_alloc | apply Kd.R_drewN | apply Kd.R_drew)); exact HO_9.out))) (below_size (by repeat (first | (with_reducible first | exact HB.out | apply below_alloc | apply pw_below_drewN | apply below_drew1) | exact HB.out)))); have n3_ := Aside0.mk (below_step (by repeat (first | (with_reducible first | exact HB.out | apply below_alloc | apply pw_below_drewN | apply below_drew1) | exact HB.out)) hb); clear HO_6; clear HO_9; clear HB; have HO_6 := n0_; have HO_9 := n1_; have HO368 := n2_; have HB := n3_; clear n0_ n1_ n2_ n3_; (try clear hb); (try clear hb2); (try clear hk); (try clear hi); (try clear ho0); obtain ⟨Ao54, co54, eo54⟩ := Kd.R_slice HO368.out; subst eo54) | ((with_reducible refine gate_callee (f := 22) rfl ?_); refine goesL_ (some 84) rfl rfl Tryd.func22 (by kernel_rfl) rfl #[.slice Ao54 t366.length co54, .string a1] rfl (by (try simp only [List.map_toArray, List.map_cons, List.map_nil]); first | done | rfl | (simp only [List.length_drop, List.length_take]; rfl)) ?_; (with_reducible refine (impl_FirstFewest.calls kj27 _ _ t366 a1 t369 t370 _ ?side1 ?side2 A48.out).mono ?_); (case side1 => repeat (first | exact (Kd.R_reads' HO368.out).2.2 | (with_reducible refine Kd.C_alloc ?_ _) | (with_reducible refine Kd.C_drewN ?_ _) | (with_reducible refine Kd.C_drew ?_))); (case side2 => exact (Kd.R_reads' HO368.out).2.1); rintro e w55 ⟨v371, rfl, ho0, hb⟩; refine ⟨_, rfl, ?_⟩; have n0_ := Aside0.mk (Kd.R_elder' (by (with_reducible repeat (first | apply Kd.R_alloc | apply Kd.R_drewN | apply Kd.R_drew)); exact HO_6.out) (Kd.R_base ho0) hb); have n1_ := Aside0.mk (Kd.R_elder' (by (with_reducible repeat (first | apply Kd.R_alloc | apply Kd.R_drewN | apply Kd.R_drew)); exact HO_9.out) (Kd.R_base ho0) hb); have n2_ := Aside0.mk (Kd.R_elder' (by (with_reducible repeat (first | apply Kd.R_alloc | apply Kd.R_drewN | apply Kd.R_drew)); exact HO368.out) (Kd.R_base ho0) hb); have n3_ := Aside0.mk (Kd.R_lower (Kd.R_new' (Kd.R_new' (Kd.R_new' ho0 (Kd.R_lt (by (with_reducible repeat (first | apply Kd.R_alloc | apply Kd.R_drewN | apply Kd.R_drew)); exact HO_6.out))) (Kd.R_lt (by (with_reducible repeat (first | apply Kd.R_alloc | apply Kd.R_drewN | apply Kd.R_drew)); exact HO_9.out))) (Kd.R_lt (by (with_reducible repeat (first | apply Kd.R_alloc | apply Kd.R_drewN | apply Kd.R_drew)); exact HO368.out))) (below_size (by repeat (first | (with_reducible first | exact HB.out | apply below_alloc | apply pw_below_drewN | apply below_drew1) | exact HB.out)))); have n4_ := Aside0.mk (below_step (by repeat (first | (with_reducible first | exact HB.out | apply below_alloc | apply pw_below_drewN | apply below_drew1) | exact HB.out)) hb); clear HO_6; clear HO_9; clear HO368; clear HB; have HO_6 := n0_; have HO_9 := n1_; have HO368 := n2_; have HO372 := n3_; have HB := n4_; clear n0_ n1_ n2_ n3_ n4_; (try clear hb); (try clear hb2); (try clear hk); (try clear hi); (try clear ho0)))
                        (try simp only [Act.put, List.setIfInBounds_toArray, List.set_cons_zero, List.set_cons_succ])
                        go_cut [95] (fun v95 wc => ∃ (kq : Nat) (x95_48 : Bool), v95 = .bool x95_48 ∧ Aside0 (laws_FnExactFirstFewest.j2 kq t364 t363 x95_48 = some r) ∧ Aside0 (kq ≤ kj27) ∧ Aside0 (Kd.R Kd.string 9 wc w.heap.size (fun _ => True) (.slice Ao50 t351.length co50) t364) ∧ Aside0 (Below w.heap.size w wc))
                        case first =>
                          have H := HC49.out
                          clear HC49
                          replace H := Option.bind_eq_some_iff.mp H
                          obtain ⟨t373, A560, H⟩ := H
                          replace H : (if t373 = true then (laws_FnExactFirstFewest.j2 kj27 t364 t363 (t370 != t345)) else (laws_FnExactFirstFewest.j2 kj27 t364 t363 true)) = some r := H
                          have A56 := Aside0.mk A560
                          clear A560
                          by_cases c57 : t373 = true
                          · subst c57
                            have H1 : (laws_FnExactFirstFewest.j2 kj27 t364 t363 (t370 != t345)) = some r := by rw [if_pos rfl] at H; exact H
                            clear H
                            have H := H1
                            clear H1
                            have H' := Aside0.mk H
                            clear H
                            obtain ⟨Ao58, co58, eo58⟩ := Kd.R_slice HO372.out
                            subst eo58
                            obtain ⟨Ao59, co59, eo59⟩ := Kd.R_slice HO_6.out
                            subst eo59
                            go_wp2_with (first | ((with_reducible refine gate_callee (f := 14) rfl ?_); refine goesL_ (some 89) rfl rfl Tryd.func14 (by kernel_rfl) rfl #[.slice Ao58 t369.length co58, .slice Ao59 t344.length co59] rfl (by (try simp only [List.map_toArray, List.map_cons, List.map_nil]); first | done | rfl | (simp only [List.length_drop, List.length_take]; rfl)) ?_; (with_reducible refine (laws_eqStringS.calls kj27 _ _ t369 _ _ t344 true _ ?side1 ?side2 ?side3 ?side4 A56.out).mono ?_); (case side1 => repeat (first | exact (Kd.R_reads' HO372.out).2.2 | (with_reducible refine Kd.C_alloc ?_ _) | (with_reducible refine Kd.C_drewN ?_ _) | (with_reducible refine Kd.C_drew ?_))); (case side2 => exact (Kd.R_reads' HO372.out).2.1); (case side3 => repeat (first | exact (Kd.R_reads' HO_6.out).2.2 | (with_reducible refine Kd.C_alloc ?_ _) | (with_reducible refine Kd.C_drewN ?_ _) | (with_reducible refine Kd.C_drew ?_))); (case side4 => exact (Kd.R_reads' HO_6.out).2.1); rintro e w' ⟨rfl, ⟨nd, rfl⟩⟩; refine ⟨_, rfl, ?_⟩))
                            go_meet
                            case rel => exact ⟨_, ((t370 != t345)), (by first | rfl | (simp; done) | (simp [*]; done)), H', ⟨by have := HJ9.out; have := HJ27.out; first | omega | exact Nat.le_refl _⟩, ⟨by (with_reducible repeat (first | apply Kd.R_alloc | apply Kd.R_drewN | apply Kd.R_drew)); exact Kd.R_mono HO_9.out (fun _ hk => trivial)⟩, ⟨by repeat (first | (with_reducible first | exact HB.out | apply below_alloc | apply pw_below_drewN | apply below_drew1) | exact HB.out)⟩⟩
                          · replace c57 := Bool.eq_false_iff.mpr c57
                            subst c57
                            have H1 : (laws_FnExactFirstFewest.j2 kj27 t364 t363 true) = some r := by rw [if_neg (show ¬ (false = true) by decide)] at H; exact H
                            clear H
                            have H := H1
                            clear H1
                            have H' := Aside0.mk H
                            clear H
                            obtain ⟨Ao60, co60, eo60⟩ := Kd.R_slice HO372.out
                            subst eo60
                            obtain ⟨Ao61, co61, eo61⟩ := Kd.R_slice HO_6.out
                            subst eo61
                            go_wp2_with (first | ((with_reducible refine gate_callee (f := 14) rfl ?_); refine goesL_ (some 89) rfl rfl Tryd.func14 (by kernel_rfl) rfl #[.slice Ao60 t369.length co60, .slice Ao61 t344.length co61] rfl (by (try simp only [List.map_toArray, List.map_cons, List.map_nil]); first | done | rfl | (simp only [List.length_drop, List.length_take]; rfl)) ?_; (with_reducible refine (laws_eqStringS.calls kj27 _ _ t369 _ _ t344 false _ ?side1 ?side2 ?side3 ?side4 A56.out).mono ?_); (case side1 => repeat (first | exact (Kd.R_reads' HO372.out).2.2 | (with_reducible refine Kd.C_alloc ?_ _) | (with_reducible refine Kd.C_drewN ?_ _) | (with_reducible refine Kd.C_drew ?_))); (case side2 => exact (Kd.R_reads' HO372.out).2.1); (case side3 => repeat (first | exact (Kd.R_reads' HO_6.out).2.2 | (with_reducible refine Kd.C_alloc ?_ _) | (with_reducible refine Kd.C_drewN ?_ _) | (with_reducible refine Kd.C_drew ?_))); (case side4 => exact (Kd.R_reads' HO_6.out).2.1); rintro e w' ⟨rfl, ⟨nd, rfl⟩⟩; refine ⟨_, rfl, ?_⟩))
                            go_meet
                            case rel => exact ⟨_, (true), (by first | rfl | (simp; done) | (simp [*]; done)), H', ⟨by have := HJ9.out; have := HJ27.out; first | omega | exact Nat.le_refl _⟩, ⟨by (with_reducible repeat (first | apply Kd.R_alloc | apply Kd.R_drewN | apply Kd.R_drew)); exact Kd.R_mono HO_9.out (fun _ hk => trivial)⟩, ⟨by repeat (first | (with_reducible first | exact HB.out | apply below_alloc | apply pw_below_drewN | apply below_drew1) | exact HB.out)⟩⟩
                        case rest =>
                          clear HC49
                          try clear c1
                          try clear c2
                          try clear p2
                          try clear c3
                          try clear c3b0
                          try clear c3b1
                          try clear c4
                          try clear c5
                          try clear c5b0
                          try clear c6
                          try clear c10
                          try clear c12
                          try clear c14
                          try clear c15
                          try clear c16
                          try clear c18
                          try clear c21
                          try clear c22
                          try clear c23
                          try clear c26
                          try clear c32
                          try clear c32b0
                          try clear c34
                          try clear c39
                          try clear c42
                          try clear c42b0
                          try clear c46
                          try clear c46b0
                          try clear c46b1
                          try clear c57
                          try clear p2
                          obtain ⟨kq, x95_48, rfl, HA, HJ48, HO_9, HB⟩ := hcut
                          have hl9_48 := (Kd.R_reads' HO_9.out).1
                          rw [hl9_48] at HO_9
                          (try simp only [hl9_48])
                          cases kq with
                          | zero => exact absurd HA.out (by simp [laws_FnExactFirstFewest.j2])
                          | succ kj48 =>
                            have H := HA.out
                            clear HA
                            simp only [laws_FnExactFirstFewest.j2] at H
                            by_cases c62 : x95_48 = true
                            · subst c62
                              have H1 : (some false) = some r := by rw [if_pos rfl] at H; exact H
                              clear H
                              have H := H1
                              clear H1
                              obtain rfl := Option.some.inj H
                              go_wp2
                              go_ret
                              exact ⟨by first | rfl | (simp [errW_none, errW_some] <;> rfl) | (simp [*, errW_none, errW_some] <;> rfl), by repeat (first | (with_reducible first | exact HB.out | apply below_alloc | apply pw_below_drewN | apply below_drew1) | exact HB.out)⟩
                            · replace c62 := Bool.eq_false_iff.mpr c62
                              subst c62
                              have H1 : ((laws_heldStringS.f kj48 t364 1).bind fun t374 => (if t374 < 0 then (some false) else (if t374 = t363 then (some true) else (some false)))) = some r := by rw [if_neg (show ¬ (false = true) by decide)] at H; exact H
                              clear H
                              have H := H1
                              clear H1
                              replace H := Option.bind_eq_some_iff.mp H
                              obtain ⟨t374, A630, H⟩ := H
                              replace H : (if t374 < 0 then (some false) else (if t374 = t363 then (some true) else (some false))) = some r := H
                              have A63 := Aside0.mk A630
                              clear A630
                              by_cases c64 : t374 < 0
                              · rw [if_pos c64] at H
                                have c64b0 : decide (t374 < 0) = true := decide_eq_true c64
                                clear c64
                                obtain rfl := Option.some.inj H
                                go_wp2_with (first | ((with_reducible refine gate_callee (f := 16) rfl ?_); refine goesL_ (some 98) rfl rfl Tryd.func16 (by kernel_rfl) rfl #[.slice Ao50 t364.length co50, .int .i64 1] rfl (by (try simp only [List.map_toArray, List.map_cons, List.map_nil]); first | done | rfl | (simp only [List.length_drop, List.length_take]; rfl)) ?_; (with_reducible refine (laws_heldStringS.calls kj48 _ _ t364 1 t374 _ ?side1 ?side2 A63.out).mono ?_); (case side1 => repeat (first | exact (Kd.R_reads' HO_9.out).2.2 | (with_reducible refine Kd.C_alloc ?_ _) | (with_reducible refine Kd.C_drewN ?_ _) | (with_reducible refine Kd.C_drew ?_))); (case side2 => exact (Kd.R_reads' HO_9.out).2.1); rintro e w65 ⟨rfl, hb⟩; refine ⟨_, rfl, ?_⟩; have n0_ := Aside0.mk (Kd.R_below (by (with_reducible repeat (first | apply Kd.R_alloc | apply Kd.R_drewN | apply Kd.R_drew)); exact HO_9.out) hb); have n1_ := Aside0.mk (below_step (by repeat (first | (with_reducible first | exact HB.out | apply below_alloc | apply pw_below_drewN | apply below_drew1) | exact HB.out)) hb); clear HO_9; clear HB; have HO_9 := n0_; have HB := n1_; clear n0_ n1_; (try clear hb); (try clear hb2); (try clear hk); (try clear hi)))
                                go_ret
                                exact ⟨by first | rfl | (simp [errW_none, errW_some] <;> rfl) | (simp [*, errW_none, errW_some] <;> rfl), by repeat (first | (with_reducible first | exact HB.out | apply below_alloc | apply pw_below_drewN | apply below_drew1) | exact HB.out)⟩
                              · rw [if_neg c64] at H
                                have c64b0 : decide (t374 < 0) = false := decide_eq_false c64
                                clear c64
                                by_cases c66 : t374 = t363
                                · rw [if_pos c66] at H
                                  have c66b0 : (t374 == t363) = true := beq_iff_eq.mpr c66
                                  have c66b1 : (t374 != t363) = false := bne_eq_false_iff_eq.mpr c66
                                  clear c66
                                  obtain rfl := Option.some.inj H
                                  go_wp2_with (first | ((with_reducible refine gate_callee (f := 16) rfl ?_); refine goesL_ (some 98) rfl rfl Tryd.func16 (by kernel_rfl) rfl #[.slice Ao50 t364.length co50, .int .i64 1] rfl (by (try simp only [List.map_toArray, List.map_cons, List.map_nil]); first | done | rfl | (simp only [List.length_drop, List.length_take]; rfl)) ?_; (with_reducible refine (laws_heldStringS.calls kj48 _ _ t364 1 t374 _ ?side1 ?side2 A63.out).mono ?_); (case side1 => repeat (first | exact (Kd.R_reads' HO_9.out).2.2 | (with_reducible refine Kd.C_alloc ?_ _) | (with_reducible refine Kd.C_drewN ?_ _) | (with_reducible refine Kd.C_drew ?_))); (case side2 => exact (Kd.R_reads' HO_9.out).2.1); rintro e w67 ⟨rfl, hb⟩; refine ⟨_, rfl, ?_⟩; have n0_ := Aside0.mk (Kd.R_below (by (with_reducible repeat (first | apply Kd.R_alloc | apply Kd.R_drewN | apply Kd.R_drew)); exact HO_9.out) hb); have n1_ := Aside0.mk (below_step (by repeat (first | (with_reducible first | exact HB.out | apply below_alloc | apply pw_below_drewN | apply below_drew1) | exact HB.out)) hb); clear HO_9; clear HB; have HO_9 := n0_; have HB := n1_; clear n0_ n1_; (try clear hb); (try clear hb2); (try clear hk); (try clear hi)))
                                  go_ret
                                  exact ⟨by first | rfl | (simp [errW_none, errW_some] <;> rfl) | (simp [*, errW_none, errW_some] <;> rfl), by repeat (first | (with_reducible first | exact HB.out | apply below_alloc | apply pw_below_drewN | apply below_drew1) | exact HB.out)⟩
                                · rw [if_neg c66] at H
                                  have c66b0 : (t374 == t363) = false := beq_eq_false_iff_ne.mpr c66
                                  have c66b1 : (t374 != t363) = true := bne_iff_ne.mpr c66
                                  obtain rfl := Option.some.inj H
                                  go_wp2_with (first | ((with_reducible refine gate_callee (f := 16) rfl ?_); refine goesL_ (some 98) rfl rfl Tryd.func16 (by kernel_rfl) rfl #[.slice Ao50 t364.length co50, .int .i64 1] rfl (by (try simp only [List.map_toArray, List.map_cons, List.map_nil]); first | done | rfl | (simp only [List.length_drop, List.length_take]; rfl)) ?_; (with_reducible refine (laws_heldStringS.calls kj48 _ _ t364 1 t374 _ ?side1 ?side2 A63.out).mono ?_); (case side1 => repeat (first | exact (Kd.R_reads' HO_9.out).2.2 | (with_reducible refine Kd.C_alloc ?_ _) | (with_reducible refine Kd.C_drewN ?_ _) | (with_reducible refine Kd.C_drew ?_))); (case side2 => exact (Kd.R_reads' HO_9.out).2.1); rintro e w68 ⟨rfl, hb⟩; refine ⟨_, rfl, ?_⟩; have n0_ := Aside0.mk (Kd.R_below (by (with_reducible repeat (first | apply Kd.R_alloc | apply Kd.R_drewN | apply Kd.R_drew)); exact HO_9.out) hb); have n1_ := Aside0.mk (below_step (by repeat (first | (with_reducible first | exact HB.out | apply below_alloc | apply pw_below_drewN | apply below_drew1) | exact HB.out)) hb); clear HO_9; clear HB; have HO_9 := n0_; have HB := n1_; clear n0_ n1_; (try clear hb); (try clear hb2); (try clear hk); (try clear hi)))
                                  go_ret
                                  exact ⟨by first | rfl | (simp [errW_none, errW_some] <;> rfl) | (simp [*, errW_none, errW_some] <;> rfl), by repeat (first | (with_reducible first | exact HB.out | apply below_alloc | apply pw_below_drewN | apply below_drew1) | exact HB.out)⟩
                      · rw [if_neg c46] at H
                        have c46b0 : (t365 == t363) = false := beq_eq_false_iff_ne.mpr c46
                        have c46b1 : (t365 != t363) = true := bne_iff_ne.mpr c46
                        obtain rfl := Option.some.inj H
                        obtain ⟨Ao69, co69, eo69⟩ := Kd.R_slice HO_9.out
                        subst eo69
                        go_wp2_with (first | ((with_reducible refine gate_callee (f := 15) rfl ?_); refine goesL_ (some 71) rfl rfl Tryd.func15 (by kernel_rfl) rfl #[.slice Ao69 t351.length co69, .int .i64 1] rfl (by (try simp only [List.map_toArray, List.map_cons, List.map_nil]); first | done | rfl | (simp only [List.length_drop, List.length_take]; rfl)) ?_; (with_reducible refine (laws_markStringS.calls kj27 (fun k_ => some k_ = (.slice Ao69 t351.length co69 : Value).ownBlock) (.slice Ao69 t351.length co69) t351 1 t363 t364 w _ ?side1 ?side2 A40.out).mono ?_); (case side1 => repeat (first | (with_reducible first | exact HB.out | apply below_alloc | apply pw_below_drewN | apply below_drew1) | exact HB.out)); (case side2 => exact Kd.R_tight rfl HO_9.out); rintro e w70 ⟨rfl, hy0, hb, hkp⟩; refine ⟨_, rfl, ?_⟩; have n0_ := Aside0.mk (Kd.R_mono (ok' := fun k_ => some k_ ≠ (.slice Ao69 t351.length co69 : Value).ownBlock) (Kd.R_keptB (HO_6.out) hkp (fun k_ hk_ hs_ => (hk_) hs_)) (fun k_ hk_ => hk_.1)); have n1_ := Aside0.mk (Kd.R_reok rfl hy0 (fun k_ e_ => HO_9.out.1 k_ e_)); have n2_ := Aside0.mk (hb); clear HO_6; clear HO_9; clear HB; have HO_6 := n0_; have HO_9 := n1_; have HB := n2_; clear n0_ n1_ n2_; (try clear hb); (try clear hkp); (try clear hy0)) | ((with_reducible refine gate_callee (f := 16) rfl ?_); refine goesL_ (some 74) rfl rfl Tryd.func16 (by kernel_rfl) rfl #[.slice Ao69 t364.length co69, .int .i64 1] rfl (by (try simp only [List.map_toArray, List.map_cons, List.map_nil]); first | done | (rw [show t364.length = t351.length from (Kd.R_reads' HO_9.out).1.symm] <;> rfl) | rfl | (simp only [List.length_drop, List.length_take]; rfl)) ?_; (with_reducible refine (laws_heldStringS.calls kj27 _ _ t364 1 t365 _ ?side1 ?side2 A41.out).mono ?_); (case side1 => repeat (first | exact (Kd.R_reads' HO_9.out).2.2 | (with_reducible refine Kd.C_alloc ?_ _) | (with_reducible refine Kd.C_drewN ?_ _) | (with_reducible refine Kd.C_drew ?_))); (case side2 => rw [show t364.length = t351.length from (Kd.R_reads' HO_9.out).1.symm]; exact (Kd.R_reads' HO_9.out).2.1); rintro e w71 ⟨rfl, hb⟩; refine ⟨_, rfl, ?_⟩; have n0_ := Aside0.mk (Kd.R_below (by (with_reducible repeat (first | apply Kd.R_alloc | apply Kd.R_drewN | apply Kd.R_drew)); exact HO_6.out) hb); have n1_ := Aside0.mk (Kd.R_below (by (with_reducible repeat (first | apply Kd.R_alloc | apply Kd.R_drewN | apply Kd.R_drew)); exact HO_9.out) hb); have n2_ := Aside0.mk (below_step (by repeat (first | (with_reducible first | exact HB.out | apply below_alloc | apply pw_below_drewN | apply below_drew1) | exact HB.out)) hb); clear HO_6; clear HO_9; clear HB; have HO_6 := n0_; have HO_9 := n1_; have HB := n2_; clear n0_ n1_ n2_; (try clear hb); (try clear hb2); (try clear hk); (try clear hi)))
                        go_ret
                        exact ⟨by first | rfl | (simp [errW_none, errW_some] <;> rfl) | (simp [*, errW_none, errW_some] <;> rfl), by repeat (first | (with_reducible first | exact HB.out | apply below_alloc | apply pw_below_drewN | apply below_drew1) | exact HB.out)⟩
            · replace c26 := Bool.eq_false_iff.mpr c26
              subst c26
              have H1 : (some false) = some r := by rw [if_neg (show ¬ (false = true) by decide)] at H; exact H
              clear H
              have H := H1
              clear H1
              obtain rfl := Option.some.inj H
              go_wp2_with (first | ((with_reducible refine gate_callee (f := 12) rfl ?_); refine goesL_ (some 50) rfl rfl Tryd.func12 (by kernel_rfl) rfl #[.slice A0 l0.length c0] rfl (by (try simp only [List.map_toArray, List.map_cons, List.map_nil]); first | done | rfl | (simp only [List.length_drop, List.length_take]; rfl)) ?_; (with_reducible refine (laws_toStringS.calls kj9 _ _ l0 t356 _ ?side1 ?side2 A24.out).mono ?_); (case side1 => repeat (first | exact (Kd.C_below HR0.out HB.out) | (with_reducible refine Kd.C_alloc ?_ _) | (with_reducible refine Kd.C_drewN ?_ _) | (with_reducible refine Kd.C_drew ?_))); (case side2 => exact HC0.out); rintro e w72 ⟨v357, rfl, ho0, hb⟩; refine ⟨_, rfl, ?_⟩; have n0_ := Aside0.mk (Kd.R_elder' (by (with_reducible repeat (first | apply Kd.R_alloc | apply Kd.R_drewN | apply Kd.R_drew)); exact HO_6.out) (Kd.R_base ho0) hb); have n1_ := Aside0.mk (Kd.R_elder' (by (with_reducible repeat (first | apply Kd.R_alloc | apply Kd.R_drewN | apply Kd.R_drew)); exact HO_8.out) (Kd.R_base ho0) hb); have n2_ := Aside0.mk (Kd.R_elder' (by (with_reducible repeat (first | apply Kd.R_alloc | apply Kd.R_drewN | apply Kd.R_drew)); exact HO_9.out) (Kd.R_base ho0) hb); have n3_ := Aside0.mk (Kd.R_lower (Kd.R_new' (Kd.R_new' (Kd.R_new' ho0 (Kd.R_lt (by (with_reducible repeat (first | apply Kd.R_alloc | apply Kd.R_drewN | apply Kd.R_drew)); exact HO_6.out))) (Kd.R_lt (by (with_reducible repeat (first | apply Kd.R_alloc | apply Kd.R_drewN | apply Kd.R_drew)); exact HO_8.out))) (Kd.R_lt (by (with_reducible repeat (first | apply Kd.R_alloc | apply Kd.R_drewN | apply Kd.R_drew)); exact HO_9.out))) (below_size (by repeat (first | (with_reducible first | exact HB.out | apply below_alloc | apply pw_below_drewN | apply below_drew1) | exact HB.out)))); have n4_ := Aside0.mk (below_step (by repeat (first | (with_reducible first | exact HB.out | apply below_alloc | apply pw_below_drewN | apply below_drew1) | exact HB.out)) hb); clear HO_6; clear HO_8; clear HO_9; clear HB; have HO_6 := n0_; have HO_8 := n1_; have HO_9 := n2_; have HO358 := n3_; have HB := n4_; clear n0_ n1_ n2_ n3_ n4_; (try clear hb); (try clear hb2); (try clear hk); (try clear hi); (try clear ho0); obtain ⟨Ao73, co73, eo73⟩ := Kd.R_slice HO358.out; subst eo73) | ((with_reducible refine gate_callee (f := 14) rfl ?_); refine goesL_ (some 51) rfl rfl Tryd.func14 (by kernel_rfl) rfl #[.slice Ao15 t348.length co15, .slice Ao73 t356.length co73] rfl (by (try simp only [List.map_toArray, List.map_cons, List.map_nil]); first | done | rfl | (simp only [List.length_drop, List.length_take]; rfl)) ?_; (with_reducible refine (laws_eqStringS.calls kj9 _ _ t348 _ _ t356 false _ ?side1 ?side2 ?side3 ?side4 A25.out).mono ?_); (case side1 => repeat (first | exact (Kd.R_reads' HO_8.out).2.2 | (with_reducible refine Kd.C_alloc ?_ _) | (with_reducible refine Kd.C_drewN ?_ _) | (with_reducible refine Kd.C_drew ?_))); (case side2 => exact (Kd.R_reads' HO_8.out).2.1); (case side3 => repeat (first | exact (Kd.R_reads' HO358.out).2.2 | (with_reducible refine Kd.C_alloc ?_ _) | (with_reducible refine Kd.C_drewN ?_ _) | (with_reducible refine Kd.C_drew ?_))); (case side4 => exact (Kd.R_reads' HO358.out).2.1); rintro e w' ⟨rfl, ⟨nd, rfl⟩⟩; refine ⟨_, rfl, ?_⟩))
              go_ret
              exact ⟨by first | rfl | (simp [errW_none, errW_some] <;> rfl) | (simp [*, errW_none, errW_some] <;> rfl), by repeat (first | (with_reducible first | exact HB.out | apply below_alloc | apply pw_below_drewN | apply below_drew1) | exact HB.out)⟩
def laws_FnExactFirstFewest.Pure : Prop := ∀ (l0 : List ByteArray) (a1 : ByteArray), l0.length ≤ maxLen → l0.length * 16 ≤ 140737488351232 → (∀ x ∈ l0, x.size ≤ maxLen) → a1.size ≤ 140737488351232 → ∃ k, laws_FnExactFirstFewest.f k l0 a1 = some true
theorem laws_FnExactFirstFewest.walk (P : laws_FnExactFirstFewest.Pure) (a0 : Option Addr) (len0 cap0 : Nat) (z0 : List ByteArray) (a1 : ByteArray) (w : World) (w0 : (a0 = none ∧ len0 = 0 ∧ cap0 = 0 ∧ z0 = []) ∨ ∃ x, a0 = some x ∧ len0 ≤ cap0 ∧ cap0 ≤ maxLen ∧ z0.length = cap0 ∧ (∀ i, i < z0.length → w.cell? (x.add i) = some (.string (z0.getD i ByteArray.empty))) ∧ ∀ n ∈ z0, n.size ≤ maxLen) (y0 : len0 * 16 ≤ 140737488351232) (w1 : a1.size ≤ 140737488351232) :
    Calls Tryd.prog 6 #[.slice a0 len0 cap0, .string a1] w fun e w' => e = .returned (.bool true) ∧ Below w.heap.size w w' := by
  obtain ⟨l0, rfl, hr0, hm0, hw0, hc0⟩ := Go.Proofs.YtclnjlnpconjmaaDoor.Strs.strs_ofRowC w0
  obtain ⟨k, h⟩ := P l0 a1 hm0 y0 hw0 w1
  refine (laws_FnExactFirstFewest.calls k _ _ l0 a1 true w hr0 hc0 h).mono ?_
  rintro e w' ⟨rfl, hd⟩
  exact ⟨rfl, hd⟩
end Go.Proofs.YtclnjlnpconjmaaDoor.P
end

section
namespace Go.Proofs.YtclnjlnpconjmaaDoor.P
open Go.RowKit Go.Proofs.YtclnjlnpconjmaaDoorW.PrintWords Go.Proofs.YtclnjlnpconjmaaDoorW.PrintLast Go.Proofs.YtclnjlnpconjmaaDoorW.PrintMore
attribute [local go_sem] max2_int min2_int max_two min_two max_three min_three max_four min_four   -- for this text's walks alone
set_option linter.unusedVariables false
set_option linter.unusedSimpArgs false
end Go.Proofs.YtclnjlnpconjmaaDoor.P
end

section
namespace Go.Proofs.YtclnjlnpconjmaaDoor.P
open Go.RowKit Go.Proofs.YtclnjlnpconjmaaDoorW.PrintWords Go.Proofs.YtclnjlnpconjmaaDoorW.PrintLast Go.Proofs.YtclnjlnpconjmaaDoorW.PrintMore
attribute [local go_sem] max2_int min2_int max_two min_two max_three min_three max_four min_four   -- for this text's walks alone
set_option linter.unusedVariables false
set_option linter.unusedSimpArgs false
end Go.Proofs.YtclnjlnpconjmaaDoor.P
end

section
namespace Go.Proofs.YtclnjlnpconjmaaDoor.P
open Go.RowKit Go.Proofs.YtclnjlnpconjmaaDoorW.PrintWords Go.Proofs.YtclnjlnpconjmaaDoorW.PrintLast Go.Proofs.YtclnjlnpconjmaaDoorW.PrintMore
attribute [local go_sem] max2_int min2_int max_two min_two max_three min_three max_four min_four   -- for this text's walks alone
set_option linter.unusedVariables false
set_option linter.unusedSimpArgs false
end Go.Proofs.YtclnjlnpconjmaaDoor.P
end

section
namespace Go.Proofs.YtclnjlnpconjmaaDoor.P
open Go.RowKit Go.Proofs.YtclnjlnpconjmaaDoorW.PrintWords Go.Proofs.YtclnjlnpconjmaaDoorW.PrintLast Go.Proofs.YtclnjlnpconjmaaDoorW.PrintMore
attribute [local go_sem] max2_int min2_int max_two min_two max_three min_three max_four min_four   -- for this text's walks alone
set_option linter.unusedVariables false
set_option linter.unusedSimpArgs false
end Go.Proofs.YtclnjlnpconjmaaDoor.P
end

section
namespace Go.Proofs.YtclnjlnpconjmaaDoor.P
open Go.RowKit Go.Proofs.YtclnjlnpconjmaaDoorW.PrintWords Go.Proofs.YtclnjlnpconjmaaDoorW.PrintLast Go.Proofs.YtclnjlnpconjmaaDoorW.PrintMore
attribute [local go_sem] max2_int min2_int max_two min_two max_three min_three max_four min_four   -- for this text's walks alone
set_option linter.unusedVariables false
set_option linter.unusedSimpArgs false
end Go.Proofs.YtclnjlnpconjmaaDoor.P
end

section
namespace Go.Proofs.YtclnjlnpconjmaaDoor.P
open Go.RowKit Go.Proofs.YtclnjlnpconjmaaDoorW.PrintWords Go.Proofs.YtclnjlnpconjmaaDoorW.PrintLast Go.Proofs.YtclnjlnpconjmaaDoorW.PrintMore
attribute [local go_sem] max2_int min2_int max_two min_two max_three min_three max_four min_four   -- for this text's walks alone
set_option linter.unusedVariables false
set_option linter.unusedSimpArgs false
end Go.Proofs.YtclnjlnpconjmaaDoor.P
end

section
namespace Go.Proofs.YtclnjlnpconjmaaDoor.P
open Go.RowKit Go.Proofs.YtclnjlnpconjmaaDoorW.PrintWords Go.Proofs.YtclnjlnpconjmaaDoorW.PrintLast Go.Proofs.YtclnjlnpconjmaaDoorW.PrintMore
attribute [local go_sem] max2_int min2_int max_two min_two max_three min_three max_four min_four   -- for this text's walks alone
set_option linter.unusedVariables false
set_option linter.unusedSimpArgs false
end Go.Proofs.YtclnjlnpconjmaaDoor.P
end

section
namespace Go.Proofs.YtclnjlnpconjmaaDoor.P
open Go.RowKit Go.Proofs.YtclnjlnpconjmaaDoorW.PrintWords Go.Proofs.YtclnjlnpconjmaaDoorW.PrintLast Go.Proofs.YtclnjlnpconjmaaDoorW.PrintMore
attribute [local go_sem] max2_int min2_int max_two min_two max_three min_three max_four min_four   -- for this text's walks alone
set_option linter.unusedVariables false
set_option linter.unusedSimpArgs false
end Go.Proofs.YtclnjlnpconjmaaDoor.P
end

section
namespace Go.Proofs.YtclnjlnpconjmaaDoor.Pu
open Go.RowKit Go.Proofs.YtclnjlnpconjmaaDoorW.PrintWords Go.Proofs.YtclnjlnpconjmaaDoorW.PrintLast Go.Proofs.YtclnjlnpconjmaaDoorW.PrintMore
theorem ev_from {α : Type} {g : Nat → Option α} {r : α} (K : Nat) (h : ∀ k, K ≤ k → g (k + 1) = some r) : Ev g r := by
  refine ⟨K + 1, fun n hn => ?_⟩
  obtain ⟨m, rfl⟩ : ∃ m, n = m + 1 := ⟨n - 1, by omega⟩
  exact h m (by omega)
theorem bsome {α β : Type} (a : α) (f : α → Option β) : (some a).bind f = f a := Option.bind_some a f
theorem wr {x : Int} (h0 : -9223372036854775808 ≤ x) (h1 : x ≤ 9223372036854775807) : wrap64 x = x := by unfold wrap64; omega
theorem wr32 {x : Int} (h0 : -2147483648 ≤ x) (h1 : x ≤ 2147483647) : wrap32 x = x := by unfold wrap32; omega
theorem bytes_ext {s t : ByteArray} (h : bytesOf s = bytesOf t) : s = t := by
  have h1 : s.data.toList = t.data.toList := by
    unfold bytesOf at h
    refine List.ext_getElem (by simpa using congrArg List.length h) fun i h1 h2 => ?_
    have := congrArg (fun l => l[i]?) h
    simp only [List.getElem?_map, List.getElem?_eq_getElem h1, List.getElem?_eq_getElem h2, Option.map_some, Option.some.injEq] at this
    exact UInt8.toNat_inj.1 (by omega)
  cases s; cases t
  simp only [ByteArray.mk.injEq]
  exact Array.toList_inj.1 h1
theorem bt_bytes (s : ByteArray) (i : Int) : bt s i = (bytesOf s).getD i.toNat 0 := by rw [← rd_bytesOf]; rfl
theorem bytes_nums {L : List Int} (h : ∀ c ∈ L, 0 ≤ c ∧ c ≤ 255) : bytesOf (strOfNums L) = L := by
  unfold bytesOf strOfNums
  simp only [List.map_map]
  conv => rhs; rw [← List.map_id L]
  refine List.map_congr_left fun c hc => ?_
  have := h c hc
  show ((UInt8.ofNat c.toNat).toNat : Int) = c
  rw [UInt8.toNat_ofNat']
  omega
theorem size_nums (L : List Int) : (strOfNums L).size = L.length := by
  unfold strOfNums
  simp [ByteArray.size]
theorem numsApp (L M : List Int) : strOfNums (L ++ M) = strOfNums L ++ strOfNums M := by
  unfold strOfNums
  simp only [List.map_append]
  cases h : (ByteArray.mk (L.map fun x => x.toNat.toUInt8).toArray ++ ByteArray.mk (M.map fun x => x.toNat.toUInt8).toArray) with
  | mk d =>
    have := congrArg ByteArray.data h
    rw [ByteArray.data_append] at this
    simp only at this
    rw [← this]
    congr 1
    simp
theorem toList_bytes {s t : ByteArray} : s.toList = t.toList ↔ s = t := by
  rw [Lib.toList_data, Lib.toList_data]
  refine ⟨fun h => bytes_ext (by unfold bytesOf; rw [h]), fun h => by rw [h]⟩
theorem encode_small {c : Int} (h0 : 0 ≤ c) (h1 : c < 128) : Utf8.encode c = strOfNums [c] := by
  unfold Utf8.encode strOfNums
  have hv : Utf8.valid c = true := by unfold Utf8.valid; simp; omega
  have hc : c.toNat < 128 := by omega
  simp only [hv, if_true, hc]
  simp
theorem bytes_all {p : UInt8 → Bool} {q : Int → Bool} (h : ∀ b : UInt8, p b = q b.toNat) (s : ByteArray) : s.data.toList.all p = (bytesOf s).all q := by
  unfold bytesOf
  rw [List.all_map]
  congr 1
  funext b
  exact h b
theorem drop_bytes (s : ByteArray) (i : Nat) (h : i < s.size) : (bytesOf s).drop i = bt s i :: (bytesOf s).drop (i + 1) := by
  have hl : i < (bytesOf s).length := by rw [bytesOf_length]; exact h
  rw [List.drop_eq_getElem_cons hl, bt_bytes, Int.toNat_natCast, List.getD_eq_getElem?_getD, List.getElem?_eq_getElem hl]
  rfl
theorem drop_end (s : ByteArray) : (bytesOf s).drop s.size = [] := List.drop_eq_nil_of_le (by rw [bytesOf_length]; exact Nat.le_refl _)
theorem bt_mem (s : ByteArray) (i : Nat) (h : i < s.size) : bt s i ∈ bytesOf s := by
  have hd := drop_bytes s i h
  have : bt s i ∈ (bytesOf s).drop i := by rw [hd]; exact List.mem_cons_self
  exact List.mem_of_mem_drop this
theorem dropWhile_nil_all {α : Type} (p : α → Bool) (l : List α) : l.dropWhile p = [] ↔ l.all p = true := by
  induction l with
  | nil => simp
  | cons a l ih =>
    rw [List.dropWhile_cons, List.all_cons]
    cases h : p a <;> simp [ih]
theorem trimS_nil (l cs : List UInt8) : Lib.trimS l cs = [] ↔ l.all (fun b => cs.contains b) = true := by
  unfold Lib.trimS Lib.trimLeftS Lib.trimRightS
  rw [dropWhile_nil_all]
  constructor
  · intro h
    have hr : ∀ (m : List UInt8), ((m.dropWhile (cs.contains ·)).reverse).all (fun b => cs.contains b) = true → m.all (fun b => cs.contains b) = true := by
      intro m
      induction m with
      | nil => simp
      | cons a m ih =>
        rw [List.dropWhile_cons]
        cases ha : cs.contains a with
        | true => intro h; rw [if_pos rfl] at h; simp only [List.all_cons, ha, Bool.true_and]; exact ih h
        | false => intro h; simp at h; simpa using And.intro h.2 h.1
    have := hr l.reverse h
    simpa using this
  · intro h
    have : l.reverse.dropWhile (cs.contains ·) = [] := (dropWhile_nil_all _ _).2 (by simpa using h)
    rw [this]
    rfl
end Go.Proofs.YtclnjlnpconjmaaDoor.Pu
end

section
namespace Go.Proofs.YtclnjlnpconjmaaDoor.Pu
open Go.RowKit Go.Proofs.YtclnjlnpconjmaaDoor.P Go.Proofs.YtclnjlnpconjmaaDoorW.PrintWords Go.Proofs.YtclnjlnpconjmaaDoorW.PrintLast Go.Proofs.YtclnjlnpconjmaaDoorW.PrintMore
theorem in_is (a b c : Int) : impl_in.f a b c = some (decide (b ≤ a) && decide (a ≤ c)) := by
  unfold impl_in.f
  by_cases h : b ≤ a <;> simp [h]
theorem l1In_is (a b c : Int) : spec_l1In.f a b c = some (decide (b ≤ a) && decide (a ≤ c)) := by
  unfold spec_l1In.f
  by_cases h : b ≤ a <;> simp [h]
end Go.Proofs.YtclnjlnpconjmaaDoor.Pu
end

section
namespace Go.Proofs.YtclnjlnpconjmaaDoor.Pu
open Go.RowKit Go.Proofs.YtclnjlnpconjmaaDoor.P Go.Proofs.YtclnjlnpconjmaaDoorW.PrintWords Go.Proofs.YtclnjlnpconjmaaDoorW.PrintLast Go.Proofs.YtclnjlnpconjmaaDoorW.PrintMore
def isLow (c : Int) : Bool := decide (97 ≤ c) && decide (c ≤ 122)
def isDig (c : Int) : Bool := decide (50 ≤ c) && decide (c ≤ 57)
def lenB (s : ByteArray) (lo hi : Nat) : Bool := decide (lo ≤ s.size) && decide (s.size ≤ hi)
def wordB (s : ByteArray) : Bool := lenB s 1 40 && (bytesOf s).all isLow
def keysB (s : ByteArray) : Bool := lenB s 1 40 && (bytesOf s).all isDig
theorem wordB_iff {s : ByteArray} : wordB s = true ↔ (1 ≤ s.size ∧ s.size ≤ 40) ∧ ∀ c ∈ bytesOf s, 97 ≤ c ∧ c ≤ 122 := by
  unfold wordB lenB isLow
  simp [List.all_eq_true]
theorem lenB_int (s : ByteArray) (lo hi : Nat) : (decide ((lo : Int) ≤ (s.size : Int)) && decide ((s.size : Int) ≤ (hi : Int))) = lenB s lo hi := by
  unfold lenB
  rw [decide_eq_decide.2 (Int.ofNat_le (m := lo) (n := s.size)), decide_eq_decide.2 (Int.ofNat_le (m := s.size) (n := hi))]
theorem over_is (s cs : ByteArray) (hs : s.size ≤ 9223372036854775807) (hc : cs.size < 4294967281) (ha : cs.data.toList.all (fun b => decide (b.toNat < 128)) = true) (q : Int → Bool)
    (hq : ∀ b : UInt8, cs.data.toList.contains b = q b.toNat) : impl_over.f s cs = some ((bytesOf s).all q) := by
  unfold impl_over.f strings_Trim.f
  rw [if_pos hs, if_pos hc, if_pos ha]
  simp only [bsome, Option.some.injEq]
  rw [← bytes_all hq, Bool.eq_iff_iff, beq_iff_eq, Lib.toList_data, ← trimS_nil]
theorem low_contains (b : UInt8) : (⟨#[97, 98, 99, 100, 101, 102, 103, 104, 105, 106, 107, 108, 109, 110, 111, 112, 113, 114, 115, 116, 117, 118, 119, 120, 121, 122]⟩ : ByteArray).data.toList.contains b = isLow b.toNat := by
  have key : ∀ n : Fin 256, (⟨#[97, 98, 99, 100, 101, 102, 103, 104, 105, 106, 107, 108, 109, 110, 111, 112, 113, 114, 115, 116, 117, 118, 119, 120, 121, 122]⟩ : ByteArray).data.toList.contains (UInt8.ofNat n.val) = isLow (UInt8.ofNat n.val).toNat := by decide +kernel
  have := key ⟨b.toNat, b.toNat_lt⟩
  simpa using this
theorem dig_contains (b : UInt8) : (⟨#[50, 51, 52, 53, 54, 55, 56, 57]⟩ : ByteArray).data.toList.contains b = isDig b.toNat := by
  have key : ∀ n : Fin 256, (⟨#[50, 51, 52, 53, 54, 55, 56, 57]⟩ : ByteArray).data.toList.contains (UInt8.ofNat n.val) = isDig (UInt8.ofNat n.val).toNat := by decide +kernel
  have := key ⟨b.toNat, b.toNat_lt⟩
  simpa using this
theorem low_over (s : ByteArray) (hs : s.size ≤ 9223372036854775807) : impl_over.f s (⟨#[97, 98, 99, 100, 101, 102, 103, 104, 105, 106, 107, 108, 109, 110, 111, 112, 113, 114, 115, 116, 117, 118, 119, 120, 121, 122]⟩ : ByteArray) = some ((bytesOf s).all isLow) :=
  over_is s _ hs (by decide) (by decide) isLow low_contains
theorem isWord_is (s : ByteArray) (hs : s.size ≤ 140737488351232) : impl_IsWord.f s = some (wordB s) := by
  unfold impl_IsWord.f wordB
  rw [in_is, show (1 : Int) = ((1 : Nat) : Int) from rfl, show (40 : Int) = ((40 : Nat) : Int) from rfl, lenB_int, low_over s (by omega)]
  simp only [bsome]
  cases lenB s 1 40 <;> simp
theorem prWord_l0 (s : ByteArray) (hs : s.size ≤ 140737488351232) : ∀ (d i : Nat), i + d = s.size → Ev (fun k => spec_prWord.l0 k s i) (((bytesOf s).drop i).all isLow)
  | 0, i, h => by
    obtain rfl : i = s.size := by omega
    rw [drop_end]
    refine ev_from 0 fun k _ => ?_
    simp only [spec_prWord.l0]
    rw [if_neg (by omega)]
    rfl
  | d + 1, i, h => by
    obtain ⟨K, ih⟩ := prWord_l0 s hs d (i + 1) (by omega)
    rw [drop_bytes s i (by omega), List.all_cons]
    refine ev_from K fun k hk => ?_
    have e := ih k hk
    rw [show ((i + 1 : Nat) : Int) = (i : Int) + 1 from rfl] at e
    dsimp only at e
    simp only [spec_prWord.l0]
    rw [if_pos (by omega), if_pos (by omega), wr (by omega) (by omega), e]
    unfold isLow
    by_cases h1 : bt s i < 97
    · rw [if_pos h1, decide_eq_false (by omega)]; rfl
    · rw [if_neg h1, decide_eq_true (show 97 ≤ bt s i by omega)]
      by_cases h2 : bt s i > 122
      · rw [if_pos h2, decide_eq_false (by omega)]; rfl
      · rw [if_neg h2, decide_eq_true (by omega)]; rfl
theorem prWord_ev (s : ByteArray) (hs : s.size ≤ 140737488351232) : Ev (fun k => spec_prWord.f k s) (wordB s) := by
  obtain ⟨K, h⟩ := prWord_l0 s hs s.size 0 (by omega)
  refine ⟨K, fun k hk => ?_⟩
  have e := h k hk
  unfold spec_prWord.f wordB
  rw [l1In_is, show (1 : Int) = ((1 : Nat) : Int) from rfl, show (40 : Int) = ((40 : Nat) : Int) from rfl, lenB_int]
  simp only [bsome]
  cases lenB s 1 40
  · rfl
  · rw [if_pos rfl]; exact e
end Go.Proofs.YtclnjlnpconjmaaDoor.Pu
end

section
namespace Go.Proofs.YtclnjlnpconjmaaDoor.Pu
open Go.RowKit Go.Proofs.YtclnjlnpconjmaaDoor.P Go.Proofs.YtclnjlnpconjmaaDoorW.PrintWords Go.Proofs.YtclnjlnpconjmaaDoorW.PrintLast Go.Proofs.YtclnjlnpconjmaaDoorW.PrintMore
theorem rds_drop (L : List ByteArray) (i : Nat) (h : i < L.length) : L.drop i = rdOf ByteArray.empty L i :: L.drop (i + 1) := by
  rw [List.drop_eq_getElem_cons h, rdOf, Int.toNat_natCast, List.getD_eq_getElem?_getD, List.getElem?_eq_getElem h]
  rfl
theorem rds_mem (L : List ByteArray) (i : Nat) (h : i < L.length) : rdOf ByteArray.empty L i ∈ L := by
  have : rdOf ByteArray.empty L i ∈ L.drop i := by rw [rds_drop L i h]; exact List.mem_cons_self
  exact List.mem_of_mem_drop this
theorem rds_mid (P : List ByteArray) (v : ByteArray) (R : List ByteArray) : rdOf ByteArray.empty (P ++ v :: R) (P.length : Int) = v := by
  unfold rdOf
  rw [Int.toNat_natCast]
  simp
theorem sets_mid (P : List ByteArray) (r v : ByteArray) (R : List ByteArray) : (P ++ r :: R).set P.length v = (P ++ [v]) ++ R := by
  simp
theorem szS_l0 (L : List ByteArray) (hl : L.length ≤ 17592186044416) (hL : ∀ x ∈ L, x.size ≤ 9223372036854775807) : ∀ (d i : Nat) (n : Int), i + d = L.length → 0 ≤ n → n ≤ 1048576 → ∃ r, Ev (fun k => laws_szStringS.l0 k L n i) r ∧ (r < 0 ∨ ∀ x ∈ L.drop i, (x.size : Int) ≤ n)
  | 0, i, n, hi, h0, h1 => by
    obtain rfl : i = L.length := by omega
    refine ⟨n, ev_from 0 fun k _ => ?_, Or.inr (by simp)⟩
    simp only [laws_szStringS.l0]
    rw [if_neg (by omega)]
  | d + 1, i, n, hi, h0, h1 => by
    have hm := hL _ (rds_mem L i (by omega))
    by_cases hn : n - ((rdOf ByteArray.empty L i).size : Int) < 0
    · refine ⟨-1, ev_from 0 fun k _ => ?_, Or.inl (by omega)⟩
      simp only [laws_szStringS.l0]
      rw [if_pos (by omega), if_pos (by omega), wr (x := n - ((rdOf ByteArray.empty L i).size : Int)) (by omega) (by omega), if_pos hn]
    · obtain ⟨r, ⟨K, ih⟩, hr⟩ := szS_l0 L hl hL d (i + 1) (n - ((rdOf ByteArray.empty L i).size : Int)) (by omega) (by omega) (by omega)
      refine ⟨r, ev_from K fun k hk => ?_, ?_⟩
      · have e := ih k hk
        rw [show ((i + 1 : Nat) : Int) = (i : Int) + 1 from rfl] at e
        dsimp only at e
        simp only [laws_szStringS.l0]
        rw [if_pos (by omega), if_pos (by omega), wr (x := n - ((rdOf ByteArray.empty L i).size : Int)) (by omega) (by omega), if_neg hn, wr (by omega) (by omega), e]
      · rcases hr with h | h
        · exact Or.inl h
        · refine Or.inr fun x hx => ?_
          rw [rds_drop L i (by omega)] at hx
          rcases List.mem_cons.1 hx with rfl | hx
          · omega
          · have := h x hx; omega
theorem szS_ev (L : List ByteArray) (hl : L.length ≤ 17592186044416) (hL : ∀ x ∈ L, x.size ≤ 9223372036854775807) : ∃ r, Ev (fun k => laws_szStringS.f k L 1048576) r ∧ (r < 0 ∨ L.length ≤ 1048576 ∧ ∀ x ∈ L, x.size ≤ 1048576) := by
  by_cases hn : (1048576 : Int) - (L.length : Int) < 0
  · refine ⟨-1, ⟨0, fun k _ => ?_⟩, Or.inl (by omega)⟩
    dsimp only
    unfold laws_szStringS.f
    rw [wr (by omega) (by omega), if_pos hn]
  · obtain ⟨r, ⟨K, e⟩, hr⟩ := szS_l0 L hl hL L.length 0 ((1048576 : Int) - (L.length : Int)) (by omega) (by omega) (by omega)
    refine ⟨r, ⟨K, fun k hk => ?_⟩, ?_⟩
    · have e := e k hk
      dsimp only at e ⊢
      unfold laws_szStringS.f
      rw [wr (by omega) (by omega), if_neg hn]
      exact e
    · rcases hr with h | h
      · exact Or.inl h
      · refine Or.inr ⟨by omega, fun x hx => ?_⟩
        have := h x (by simpa using hx)
        omega
theorem toS_l0 (L : List ByteArray) (hl : L.length ≤ 1099511627776) : ∀ (d : Nat) (P S : List ByteArray), S.length = d → L = P ++ S → Ev (fun k => laws_toStringS.l0 k L (P ++ List.replicate d (⟨#[]⟩ : ByteArray)) (P.length : Int)) L
  | 0, P, S, hd, hL => by
    obtain rfl := List.eq_nil_of_length_eq_zero hd
    refine ev_from 0 fun k _ => ?_
    simp only [laws_toStringS.l0]
    rw [if_neg (by rw [hL]; simp)]
    rw [hL]
    simp
  | d + 1, P, S, hd, hL => by
    match S, hd, hL with
    | s :: S, hd, hL =>
      have hd : S.length = d := by simpa using hd
      have hlen : L.length = P.length + (d + 1) := by rw [hL, List.length_append, List.length_cons, hd]
      have hr : rdOf ByteArray.empty L (P.length : Int) = s := by rw [hL]; exact rds_mid P s S
      obtain ⟨K, ih⟩ := toS_l0 L hl d (P ++ [s]) S hd (by rw [hL]; simp)
      refine ev_from K fun k hk => ?_
      have e := ih k hk
      rw [List.length_append, List.length_singleton, show ((P.length + 1 : Nat) : Int) = (P.length : Int) + 1 from rfl] at e
      dsimp only at e
      simp only [laws_toStringS.l0]
      rw [if_pos (by omega), if_pos (by omega), if_pos (by rw [List.length_append, List.length_replicate]; omega), Int.toNat_natCast, List.replicate_succ, sets_mid, hr, wr (by omega) (by omega), e]
theorem toS_ev (L : List ByteArray) (hl : L.length ≤ 1048576) : Ev (fun k => laws_toStringS.f k L) L := by
  obtain ⟨K, e⟩ := toS_l0 L (by omega) L.length [] L rfl rfl
  refine ⟨K, fun k hk => ?_⟩
  have e := e k hk
  dsimp only at e ⊢
  unfold laws_toStringS.f
  rw [if_pos (by omega), if_pos (by omega), Int.toNat_natCast]
  exact e
theorem eqS_l0 : ∀ (d : Nat) (P R : List ByteArray), R.length = d → P.length + d < 9223372036854775807 → Ev (fun k => laws_eqStringS.l0 k (P ++ R) (P ++ R) (P.length : Int)) true
  | 0, P, R, hd, h2 => by
    obtain rfl := List.eq_nil_of_length_eq_zero hd
    refine ev_from 0 fun k _ => ?_
    simp only [laws_eqStringS.l0]
    rw [if_neg (by simp)]
  | d + 1, P, R, hd, h2 => by
    match R, hd with
    | r :: R, hd =>
      have hd : R.length = d := by simpa using hd
      obtain ⟨K, ih⟩ := eqS_l0 d (P ++ [r]) R hd (by rw [List.length_append, List.length_singleton]; omega)
      refine ev_from K fun k hk => ?_
      have e := ih k hk
      dsimp only at e
      rw [List.length_append, List.length_singleton, show ((P.length + 1 : Nat) : Int) = (P.length : Int) + 1 from rfl, List.append_assoc, List.singleton_append] at e
      simp only [laws_eqStringS.l0]
      rw [if_pos (by simp only [List.length_append, List.length_cons]; omega), if_pos (by omega), if_pos (by simp only [List.length_append, List.length_cons]; omega), if_pos trivial, wr (by omega) (by omega), e]
theorem eqS_ev (L : List ByteArray) (hl : L.length ≤ 1099511627776) : Ev (fun k => laws_eqStringS.f k L L) true := by
  obtain ⟨K, e⟩ := eqS_l0 L.length [] L rfl (by simp; omega)
  exact ⟨K, fun k hk => by have e := e k hk; dsimp only at e ⊢; unfold laws_eqStringS.f; rw [if_pos rfl]; simpa using e⟩
end Go.Proofs.YtclnjlnpconjmaaDoor.Pu
end

section
namespace Go.Proofs.YtclnjlnpconjmaaDoor.Pu
open Go.RowKit Go.Proofs.YtclnjlnpconjmaaDoor.P Go.Proofs.YtclnjlnpconjmaaDoorW.PrintWords Go.Proofs.YtclnjlnpconjmaaDoorW.PrintLast Go.Proofs.YtclnjlnpconjmaaDoorW.PrintMore
def shortB (s : ByteArray) : Bool := wordB s && decide (s.size ≤ 10)
theorem short_is (s : ByteArray) (hs : s.size ≤ 140737488351232) : impl_short.f s = some (shortB s) := by
  unfold impl_short.f shortB
  rw [isWord_is s hs, bsome]
  cases wordB s with
  | false => rfl
  | true => rw [if_pos rfl, Bool.true_and, decide_eq_decide.2 (show (s.size : Int) ≤ 10 ↔ s.size ≤ 10 by omega)]
theorem wdWord_ev (s : ByteArray) (hs : s.size ≤ 140737488351232) : Ev (fun k => spec_wdWord.f k s) (shortB s) := by
  obtain ⟨K, e⟩ := prWord_ev s hs
  refine ⟨K, fun k hk => ?_⟩
  have e := e k hk
  dsimp only at e ⊢
  unfold spec_wdWord.f shortB
  rw [e, bsome]
  cases wordB s with
  | false => rfl
  | true => rw [if_pos rfl, Bool.true_and, decide_eq_decide.2 (show (s.size : Int) ≤ 10 ↔ s.size ≤ 10 by omega)]
def lessB (s t : ByteArray) : Bool := Op.bytesLess s.toList t.toList
def goodN (L : List ByteArray) : Nat → Nat → Bool
  | 0, _ => true
  | d + 1, i => shortB (rdOf ByteArray.empty L i) && ((decide (i = 0) || lessB (rdOf ByteArray.empty L ((i : Int) - 1)) (rdOf ByteArray.empty L i)) && goodN L d (i + 1))
def lenL (L : List ByteArray) : Bool := decide (1 ≤ (L.length : Int)) && decide ((L.length : Int) ≤ 12)
theorem wdGood_l0 (L : List ByteArray) (hl : L.length ≤ 1099511627776) (hL : ∀ x ∈ L, x.size ≤ 140737488351232) : ∀ (d i : Nat), i + d = L.length → Ev (fun k => spec_wdGood.l0 k L L L.length i) (goodN L d i)
  | 0, i, hi => by
    obtain rfl : i = L.length := by omega
    refine ev_from 0 fun k _ => ?_
    simp only [spec_wdGood.l0]
    rw [if_neg (by omega)]
    rfl
  | d + 1, i, hi => by
    obtain ⟨K0, e0⟩ := wdWord_ev _ (hL _ (rds_mem L i (by omega)))
    obtain ⟨K, ih⟩ := wdGood_l0 L hl hL d (i + 1) (by omega)
    refine ev_from (K0 + K) fun k hk => ?_
    have e := ih k (by omega)
    have e0 := e0 k (by omega)
    rw [show ((i + 1 : Nat) : Int) = (i : Int) + 1 from rfl] at e
    dsimp only at e e0
    simp only [spec_wdGood.l0, goodN]
    rw [if_pos (by omega), if_pos (by omega), if_pos (by omega), e0, bsome, wr (x := (i : Int) + 1) (by omega) (by omega), wr (x := (i : Int) - 1) (by omega) (by omega)]
    cases hs : shortB (rdOf ByteArray.empty L i) with
    | false => rw [Bool.false_and]; rfl
    | true =>
      rw [if_pos rfl, Bool.true_and]
      by_cases h0 : i = 0
      · rw [if_neg (by omega), decide_eq_true h0, Bool.true_or, Bool.true_and, e]
      · rw [if_pos (by omega), if_pos (by omega), if_pos (by omega), decide_eq_false h0, Bool.false_or]
        unfold lessB
        cases Op.bytesLess (rdOf ByteArray.empty L ((i : Int) - 1)).toList (rdOf ByteArray.empty L i).toList with
        | false => rfl
        | true => rw [if_pos rfl, Bool.true_and, e]
theorem isDict_l0 (L : List ByteArray) (hl : L.length ≤ 1099511627776) (hL : ∀ x ∈ L, x.size ≤ 140737488351232) : ∀ (d i : Nat), i + d = L.length → Ev (fun k => impl_IsDictionary.l0 k L L L.length i) (goodN L d i && lenL L)
  | 0, i, hi => by
    obtain rfl : i = L.length := by omega
    refine ev_from 0 fun k _ => ?_
    simp only [impl_IsDictionary.l0]
    rw [if_neg (by omega), in_is, bsome]
    rfl
  | d + 1, i, hi => by
    have hs0 := hL _ (rds_mem L i (by omega))
    obtain ⟨K, ih⟩ := isDict_l0 L hl hL d (i + 1) (by omega)
    refine ev_from K fun k hk => ?_
    have e := ih k (by omega)
    rw [show ((i + 1 : Nat) : Int) = (i : Int) + 1 from rfl] at e
    dsimp only at e
    simp only [impl_IsDictionary.l0, goodN]
    rw [if_pos (by omega), if_pos (by omega), if_pos (by omega), short_is _ hs0, bsome, wr (x := (i : Int) + 1) (by omega) (by omega), wr (x := (i : Int) - 1) (by omega) (by omega)]
    cases hs : shortB (rdOf ByteArray.empty L i) with
    | false => rw [Bool.false_and, Bool.false_and]; rfl
    | true =>
      rw [if_pos rfl, Bool.true_and]
      by_cases h0 : i = 0
      · rw [if_neg (by omega), decide_eq_true h0, Bool.true_or, Bool.true_and, e]
      · rw [if_pos (by omega), if_pos (by omega), if_pos (by omega), decide_eq_false h0, Bool.false_or]
        unfold lessB
        cases Op.bytesLess (rdOf ByteArray.empty L ((i : Int) - 1)).toList (rdOf ByteArray.empty L i).toList with
        | false => rfl
        | true => rw [if_pos rfl, Bool.true_and, e]
def dictB (L : List ByteArray) : Bool := lenL L && goodN L L.length 0
theorem wdGood_ev (L : List ByteArray) (hl : L.length ≤ 1099511627776) (hL : ∀ x ∈ L, x.size ≤ 140737488351232) : Ev (fun k => spec_wdGood.f k L) (dictB L) := by
  obtain ⟨K, e⟩ := wdGood_l0 L hl hL L.length 0 (by omega)
  refine ⟨K, fun k hk => ?_⟩
  have e := e k hk
  dsimp only at e ⊢
  unfold spec_wdGood.f dictB
  rw [l1In_is, bsome]
  show (if lenL L = true then _ else _) = _
  cases lenL L with
  | false => rfl
  | true => rw [if_pos rfl, Bool.true_and]; exact e
theorem isDict_ev (L : List ByteArray) (hl : L.length ≤ 1099511627776) (hL : ∀ x ∈ L, x.size ≤ 140737488351232) : Ev (fun k => impl_IsDictionary.f k L) (dictB L) := by
  obtain ⟨K, e⟩ := isDict_l0 L hl hL L.length 0 (by omega)
  refine ⟨K, fun k hk => ?_⟩
  have e := e k hk
  dsimp only at e ⊢
  unfold impl_IsDictionary.f dictB
  rw [Bool.and_comm]
  exact e
end Go.Proofs.YtclnjlnpconjmaaDoor.Pu
end

section
namespace Go.Proofs.YtclnjlnpconjmaaDoor.Pu
open Go.RowKit Go.Proofs.YtclnjlnpconjmaaDoor.P Go.Proofs.YtclnjlnpconjmaaDoorW.PrintWords Go.Proofs.YtclnjlnpconjmaaDoorW.PrintLast Go.Proofs.YtclnjlnpconjmaaDoorW.PrintMore
def keyN (c : Int) : Int := if c ≤ 99 then 50 else if c ≤ 102 then 51 else if c ≤ 105 then 52 else if c ≤ 108 then 53 else if c ≤ 111 then 54 else if c ≤ 115 then 55 else if c ≤ 118 then 56 else 57
def posN (c : Int) : Int := if c ≤ 99 then c - 97 else if c ≤ 102 then c - 100 else if c ≤ 105 then c - 103 else if c ≤ 108 then c - 106 else if c ≤ 111 then c - 109 else if c ≤ 115 then c - 112 else if c ≤ 118 then c - 116 else c - 119
theorem keyN_range (c : Int) : 50 ≤ keyN c ∧ keyN c ≤ 57 := by unfold keyN; omega
theorem onPad_ev (c : Int) (h : 97 ≤ c ∧ c ≤ 122) : Ev (fun k => impl_onPad.f k c) (keyN c - 50, posN c) := by
  have key : ∀ n : Fin 26, impl_onPad.f 12 (97 + (n.val : Int)) = some (keyN (97 + (n.val : Int)) - 50, posN (97 + (n.val : Int))) := by decide +kernel
  have e := key ⟨(c - 97).toNat, by omega⟩
  rw [show (97 : Int) + (((c - 97).toNat : Nat) : Int) = c by omega] at e
  exact Ev.of (impl_onPad.mono c) e
theorem prKey_ev (c : Int) (h : 97 ≤ c ∧ c ≤ 122) : Ev (fun k => spec_prKey.f k c) (keyN c, posN c + 1) := by
  have key : ∀ n : Fin 26, spec_prKey.f 60 (97 + (n.val : Int)) = some (keyN (97 + (n.val : Int)), posN (97 + (n.val : Int)) + 1) := by decide +kernel
  have e := key ⟨(c - 97).toNat, by omega⟩
  rw [show (97 : Int) + (((c - 97).toNat : Nat) : Int) = c by omega] at e
  exact Ev.of (spec_prKey.mono c) e
end Go.Proofs.YtclnjlnpconjmaaDoor.Pu
end

section
namespace Go.Proofs.YtclnjlnpconjmaaDoor.Pu
open Go.RowKit Go.Proofs.YtclnjlnpconjmaaDoor.P Go.Proofs.YtclnjlnpconjmaaDoorW.PrintWords Go.Proofs.YtclnjlnpconjmaaDoorW.PrintLast Go.Proofs.YtclnjlnpconjmaaDoorW.PrintMore
theorem keyOf_ev (c : Int) (h : 97 ≤ c ∧ c ≤ 122) : Ev (fun k => impl_keyOf.f k c) (keyN c) := by
  obtain ⟨K, e⟩ := onPad_ev c h
  have hp := keyN_range c
  refine ⟨K, fun k hk => ?_⟩
  have e := e k hk
  dsimp only at e
  dsimp only
  unfold impl_keyOf.f
  rw [e]
  simp only [bsome, Option.some.injEq]
  omega
def keysN (s : ByteArray) : ByteArray := strOfNums ((bytesOf s).map keyN)
theorem keysN_bytes (s : ByteArray) : bytesOf (keysN s) = (bytesOf s).map keyN := by
  refine bytes_nums fun c hc => ?_
  obtain ⟨b, _, rfl⟩ := List.mem_map.1 hc
  have := keyN_range b
  omega
theorem keysN_size (s : ByteArray) : (keysN s).size = s.size := by rw [keysN, size_nums, List.length_map, bytesOf_length]
theorem keysOf_l0 (s : ByteArray) (hs : s.size ≤ 1000000) (hl : ∀ c ∈ bytesOf s, 97 ≤ c ∧ c ≤ 122) : ∀ (d i : Nat) (A : List Int), i + d = s.size → A.length ≤ i →
    Ev (fun k => impl_keysOf.l0 k s A s.size i) (strOfNums (A ++ ((bytesOf s).drop i).map keyN))
  | 0, i, A, h, hA => by
    obtain rfl : i = s.size := by omega
    rw [drop_end]
    refine ev_from 0 fun k _ => ?_
    simp only [impl_keysOf.l0]
    rw [if_neg (by omega)]
    simp
  | d + 1, i, A, h, hA => by
    obtain ⟨K, ih⟩ := keysOf_l0 s hs hl d (i + 1) (A ++ [keyN (bt s i)]) (by omega) (by simp; omega)
    obtain ⟨K', ek⟩ := keyOf_ev (bt s i) (hl _ (bt_mem s i (by omega)))
    rw [drop_bytes s i (by omega)]
    refine ev_from (K + K') fun k hk => ?_
    have e := ih k (by omega)
    have e' := ek k (by omega)
    rw [show ((i + 1 : Nat) : Int) = (i : Int) + 1 from rfl] at e
    dsimp only at e e'
    simp only [impl_keysOf.l0]
    rw [if_pos (by omega), if_pos (by omega), if_pos (by omega), e']
    simp only [bsome]
    rw [if_pos (by omega), wr (by omega) (by omega), e]
    simp
theorem keysOf_ev (s : ByteArray) (hs : s.size ≤ 1000000) (hl : ∀ c ∈ bytesOf s, 97 ≤ c ∧ c ≤ 122) : Ev (fun k => impl_keysOf.f k s) (keysN s) := by
  obtain ⟨K, e⟩ := keysOf_l0 s hs hl s.size 0 [] (by omega) (by simp)
  exact ⟨K, fun k hk => by have e := e k hk; dsimp only at e; unfold impl_keysOf.f; simpa [keysN] using e⟩
theorem prKeys_l0 (s : ByteArray) (hs : s.size ≤ 1000000) (hl : ∀ c ∈ bytesOf s, 97 ≤ c ∧ c ≤ 122) : ∀ (d i : Nat) (A : List Int), i + d = s.size → A.length ≤ i →
    Ev (fun k => spec_prKeys.l0 k s (strOfNums A) i) (strOfNums (A ++ ((bytesOf s).drop i).map keyN))
  | 0, i, A, h, hA => by
    obtain rfl : i = s.size := by omega
    rw [drop_end]
    refine ev_from 0 fun k _ => ?_
    simp only [spec_prKeys.l0]
    rw [if_neg (by omega)]
    simp
  | d + 1, i, A, h, hA => by
    obtain ⟨K, ih⟩ := prKeys_l0 s hs hl d (i + 1) (A ++ [keyN (bt s i)]) (by omega) (by simp; omega)
    obtain ⟨K', ek⟩ := prKey_ev (bt s i) (hl _ (bt_mem s i (by omega)))
    have hk := keyN_range (bt s i)
    rw [drop_bytes s i (by omega)]
    refine ev_from (K + K') fun k hk' => ?_
    have e := ih k (by omega)
    have e' := ek k (by omega)
    rw [show ((i + 1 : Nat) : Int) = (i : Int) + 1 from rfl] at e
    dsimp only at e e'
    simp only [spec_prKeys.l0]
    rw [if_pos (by omega), if_pos (by omega), e']
    simp only [bsome]
    rw [wr32 (by omega) (by omega), encode_small (by omega) (by omega), if_pos (by rw [size_nums, size_nums]; simp; omega), wr (by omega) (by omega), ← numsApp, e]
    simp
theorem prKeys_ev (s : ByteArray) (hs : s.size ≤ 1000000) (hl : ∀ c ∈ bytesOf s, 97 ≤ c ∧ c ≤ 122) : Ev (fun k => spec_prKeys.f k s) (keysN s) := by
  obtain ⟨K, e⟩ := prKeys_l0 s hs hl s.size 0 [] (by omega) (by simp)
  exact ⟨K, fun k hk => by have e := e k hk; dsimp only at e; unfold spec_prKeys.f; rw [show strOfNums [] = (⟨#[]⟩ : ByteArray) from rfl] at e; simpa [keysN] using e⟩
end Go.Proofs.YtclnjlnpconjmaaDoor.Pu
end

section
namespace Go.Proofs.YtclnjlnpconjmaaDoor.Pu
open Go.RowKit Go.Proofs.YtclnjlnpconjmaaDoor.P Go.Proofs.YtclnjlnpconjmaaDoorW.PrintWords Go.Proofs.YtclnjlnpconjmaaDoorW.PrintLast Go.Proofs.YtclnjlnpconjmaaDoorW.PrintMore Go.Proofs.YtclnjlnpconjmaaDoor.Pick
theorem goodN_short (L : List ByteArray) : ∀ (d i : Nat), i + d = L.length → goodN L d i = true → ∀ x ∈ L.drop i, shortB x = true
  | 0, i, h, _ => by
    obtain rfl : i = L.length := by omega
    simp
  | d + 1, i, h, hg => by
    rw [goodN, Bool.and_eq_true, Bool.and_eq_true] at hg
    intro x hx
    rw [rds_drop L i (by omega)] at hx
    rcases List.mem_cons.1 hx with rfl | hx
    · exact hg.1
    · exact goodN_short L d (i + 1) (by omega) hg.2.2 x hx
theorem dict_short {L : List ByteArray} (h : dictB L = true) : ∀ x ∈ L, shortB x = true := by
  unfold dictB at h
  rw [Bool.and_eq_true] at h
  have := goodN_short L L.length 0 (by omega) h.2
  rwa [List.drop_zero] at this
theorem dict_length {L : List ByteArray} (h : dictB L = true) : 1 ≤ L.length ∧ L.length ≤ 12 := by
  unfold dictB lenL at h
  simp only [Bool.and_eq_true, decide_eq_true_eq] at h
  omega
theorem short_size {x : ByteArray} (h : shortB x = true) : 1 ≤ x.size ∧ x.size ≤ 10 := by
  unfold shortB at h
  rw [Bool.and_eq_true, decide_eq_true_eq] at h
  exact ⟨(wordB_iff.1 h.1).1.1, h.2⟩
theorem short_low {x : ByteArray} (h : shortB x = true) : ∀ c ∈ bytesOf x, 97 ≤ c ∧ c ≤ 122 := by
  unfold shortB at h
  rw [Bool.and_eq_true] at h
  exact (wordB_iff.1 h.1).2
theorem isPrefix_take {α : Type} [BEq α] [LawfulBEq α] : ∀ (p l : List α), p.isPrefixOf l = (decide (p.length ≤ l.length) && (l.take p.length == p))
  | [], l => by simp
  | a :: p, [] => by simp
  | a :: p, b :: l => by
    rw [List.isPrefixOf, isPrefix_take p l]
    rw [Bool.eq_iff_iff]
    simp only [Bool.and_eq_true, beq_iff_eq, decide_eq_true_eq, List.length_cons, List.take_succ_cons, List.cons.injEq]
    constructor
    · rintro ⟨rfl, h1, h2⟩; exact ⟨by omega, rfl, h2⟩
    · rintro ⟨h1, rfl, h2⟩; exact ⟨rfl, by omega, h2⟩
theorem size_data (s : ByteArray) : s.data.toList.length = s.size := by rw [Array.length_toList]; rfl
end Go.Proofs.YtclnjlnpconjmaaDoor.Pu
end

section
namespace Go.Proofs.YtclnjlnpconjmaaDoor.Pu
open Go.RowKit Go.Proofs.YtclnjlnpconjmaaDoor.P Go.Proofs.YtclnjlnpconjmaaDoorW.PrintWords Go.Proofs.YtclnjlnpconjmaaDoorW.PrintLast Go.Proofs.YtclnjlnpconjmaaDoorW.PrintMore
theorem isKeys_is (s : ByteArray) (hs : s.size ≤ 140737488351232) : impl_isKeys.f s = some (keysB s) := by
  unfold impl_isKeys.f keysB
  rw [in_is, show (1 : Int) = ((1 : Nat) : Int) from rfl, show (40 : Int) = ((40 : Nat) : Int) from rfl, lenB_int, over_is s _ (by omega) (by decide) (by decide) isDig dig_contains]
  simp only [bsome]
  cases lenB s 1 40 <;> simp
theorem prGood_l0 (s : ByteArray) (hs : s.size ≤ 140737488351232) : ∀ (d i : Nat), i + d = s.size → Ev (fun k => spec_prGood.l0 k s i) (((bytesOf s).drop i).all isDig)
  | 0, i, h => by
    obtain rfl : i = s.size := by omega
    rw [drop_end]
    refine ev_from 0 fun k _ => ?_
    simp only [spec_prGood.l0]
    rw [if_neg (by omega)]
    rfl
  | d + 1, i, h => by
    obtain ⟨K, ih⟩ := prGood_l0 s hs d (i + 1) (by omega)
    rw [drop_bytes s i (by omega), List.all_cons]
    refine ev_from K fun k hk => ?_
    have e := ih k hk
    rw [show ((i + 1 : Nat) : Int) = (i : Int) + 1 from rfl] at e
    dsimp only at e
    simp only [spec_prGood.l0]
    rw [if_pos (by omega), if_pos (by omega), wr (by omega) (by omega), e]
    unfold isDig
    by_cases h1 : bt s i < 50
    · rw [if_pos h1, decide_eq_false (by omega)]; rfl
    · rw [if_neg h1, decide_eq_true (show 50 ≤ bt s i by omega)]
      by_cases h2 : bt s i > 57
      · rw [if_pos h2, decide_eq_false (by omega)]; rfl
      · rw [if_neg h2, decide_eq_true (by omega)]; rfl
theorem prGood_ev (s : ByteArray) (hs : s.size ≤ 140737488351232) : Ev (fun k => spec_prGood.f k s) (keysB s) := by
  obtain ⟨K, h⟩ := prGood_l0 s hs s.size 0 (by omega)
  refine ⟨K, fun k hk => ?_⟩
  have e := h k hk
  unfold spec_prGood.f keysB
  rw [l1In_is, show (1 : Int) = ((1 : Nat) : Int) from rfl, show (40 : Int) = ((40 : Nat) : Int) from rfl, lenB_int]
  simp only [bsome]
  cases lenB s 1 40
  · rfl
  · rw [if_pos rfl]; exact e
end Go.Proofs.YtclnjlnpconjmaaDoor.Pu
end

section
namespace Go.Proofs.YtclnjlnpconjmaaDoor.Pu
open Go.RowKit Go.Proofs.YtclnjlnpconjmaaDoor.P Go.Proofs.YtclnjlnpconjmaaDoorW.PrintWords Go.Proofs.YtclnjlnpconjmaaDoorW.PrintLast Go.Proofs.YtclnjlnpconjmaaDoorW.PrintMore Go.Proofs.YtclnjlnpconjmaaDoor.Pick
def askedB (L : List ByteArray) (keys : ByteArray) : Bool := dictB L && (keysB keys && decide (keys.size ≤ 20))
theorem wdAsked_ev (L : List ByteArray) (hl : L.length ≤ 1099511627776) (hL : ∀ x ∈ L, x.size ≤ 140737488351232) (keys : ByteArray) (hk : keys.size ≤ 140737488351232) : Ev (fun k => spec_wdAsked.f k L keys) (askedB L keys) := by
  obtain ⟨K1, e1⟩ := wdGood_ev L hl hL
  obtain ⟨K2, e2⟩ := prGood_ev keys hk
  refine ⟨K1 + K2, fun k hk => ?_⟩
  have e1 := e1 k (by omega)
  have e2 := e2 k (by omega)
  dsimp only at e1 e2 ⊢
  unfold spec_wdAsked.f spec_wdKeys.f askedB
  rw [e1, bsome]
  cases dictB L with
  | false => rfl
  | true =>
    rw [if_pos rfl, e2, bsome]
    cases keysB keys with
    | false => rfl
    | true => rw [if_pos rfl, bsome, Bool.true_and, Bool.true_and, decide_eq_decide.2 (show (keys.size : Int) ≤ 20 ↔ keys.size ≤ 20 by omega)]
theorem splitOk_ev (L : List ByteArray) (hl : L.length ≤ 1099511627776) (hL : ∀ x ∈ L, x.size ≤ 140737488351232) (keys : ByteArray) (hk : keys.size ≤ 140737488351232) : Ev (fun k => impl_splitOk.f k L keys) (askedB L keys) := by
  obtain ⟨K1, e1⟩ := isDict_ev L hl hL
  refine ⟨K1, fun k hk' => ?_⟩
  have e1 := e1 k (by omega)
  dsimp only at e1 ⊢
  unfold impl_splitOk.f askedB
  rw [e1, bsome]
  cases dictB L with
  | false => rfl
  | true =>
    rw [if_pos rfl, isKeys_is keys hk, bsome]
    cases keysB keys with
    | false => rfl
    | true => rw [if_pos rfl, Bool.true_and, Bool.true_and, decide_eq_decide.2 (show (keys.size : Int) ≤ 20 ↔ keys.size ≤ 20 by omega)]
theorem askedB_iff {L : List ByteArray} {keys : ByteArray} (h : askedB L keys = true) : dictB L = true ∧ keys.size ≤ 20 := by
  unfold askedB at h
  rw [Bool.and_eq_true, Bool.and_eq_true, decide_eq_true_eq] at h
  exact ⟨h.1, h.2.2⟩
end Go.Proofs.YtclnjlnpconjmaaDoor.Pu
end

section
namespace Go.Proofs.YtclnjlnpconjmaaDoor.Pu
open Go.RowKit Go.Proofs.YtclnjlnpconjmaaDoor.P Go.Proofs.YtclnjlnpconjmaaDoorW.PrintWords Go.Proofs.YtclnjlnpconjmaaDoorW.PrintLast Go.Proofs.YtclnjlnpconjmaaDoorW.PrintMore
theorem bl_trans : ∀ (x y z : List UInt8), Op.bytesLess x y = true → Op.bytesLess y z = true → Op.bytesLess x z = true
  | _, [], _, h, _ => by cases ‹List UInt8› <;> simp [Op.bytesLess] at h
  | _, _ :: _, [], _, h => by simp [Op.bytesLess] at h
  | [], _ :: _, _ :: _, _, _ => rfl
  | a :: x, b :: y, c :: z, h1, h2 => by
    simp only [Op.bytesLess, Bool.or_eq_true, Bool.and_eq_true, decide_eq_true_eq, beq_iff_eq] at h1 h2 ⊢
    rcases h1 with h1 | ⟨rfl, h1⟩
    · rcases h2 with h2 | ⟨rfl, _⟩
      · exact Or.inl (UInt8.lt_trans h1 h2)
      · exact Or.inl h1
    · rcases h2 with h2 | ⟨rfl, h2⟩
      · exact Or.inl h2
      · exact Or.inr ⟨rfl, bl_trans x y z h1 h2⟩
theorem lessB_trans {x y z : ByteArray} (h1 : lessB x y = true) (h2 : lessB y z = true) : lessB x z = true := bl_trans _ _ _ h1 h2
theorem goodN_iff (L : List ByteArray) : ∀ (d i : Nat), i + d = L.length → (goodN L d i = true ↔ ∀ j, i ≤ j → j < L.length → shortB (rdOf ByteArray.empty L j) = true ∧ (j = 0 ∨ lessB (rdOf ByteArray.empty L ((j : Int) - 1)) (rdOf ByteArray.empty L j) = true))
  | 0, i, h => ⟨fun _ j h1 h2 => by omega, fun _ => rfl⟩
  | d + 1, i, h => by
    rw [goodN, Bool.and_eq_true, Bool.and_eq_true, Bool.or_eq_true, decide_eq_true_eq, goodN_iff L d (i + 1) (by omega)]
    constructor
    · rintro ⟨h1, h2, h3⟩ j hj hl
      by_cases e : j = i
      · subst e; exact ⟨h1, h2⟩
      · exact h3 j (by omega) hl
    · intro h1
      exact ⟨(h1 i (Nat.le_refl _) (by omega)).1, (h1 i (Nat.le_refl _) (by omega)).2, fun j hj hl => h1 j (by omega) hl⟩
theorem rds_get (L : List ByteArray) (i : Nat) (h : i < L.length) : rdOf ByteArray.empty L i = L[i] := by
  rw [rdOf, Int.toNat_natCast, List.getD_eq_getElem?_getD, List.getElem?_eq_getElem h]
  rfl
theorem goodN_pairwise (L : List ByteArray) : goodN L L.length 0 = true ↔ (∀ x ∈ L, shortB x = true) ∧ L.Pairwise (fun x y => lessB x y = true) := by
  rw [goodN_iff L L.length 0 (by omega)]
  constructor
  · intro h
    refine ⟨fun x hx => ?_, ?_⟩
    · obtain ⟨i, hi, rfl⟩ := List.mem_iff_getElem.1 hx
      have := (h i (Nat.zero_le _) hi).1
      rwa [rds_get L i hi] at this
    · rw [List.pairwise_iff_getElem]
      intro i j hi hj hij
      induction j with
      | zero => omega
      | succ j ih =>
        have h1 := (h (j + 1) (Nat.zero_le _) hj).2
        rw [rds_get L (j + 1) hj, show ((j + 1 : Nat) : Int) - 1 = (j : Int) by omega, rds_get L j (by omega)] at h1
        have h1 := h1.resolve_left (by omega)
        by_cases e : i = j
        · subst e; exact h1
        · exact lessB_trans (ih (by omega) (by omega)) h1
  · rintro ⟨hs, hp⟩ j _ hj
    rw [List.pairwise_iff_getElem] at hp
    rw [rds_get L j hj]
    refine ⟨hs _ (List.getElem_mem hj), ?_⟩
    by_cases e : j = 0
    · exact Or.inl e
    · right
      rw [show (j : Int) - 1 = ((j - 1 : Nat) : Int) by omega, rds_get L (j - 1) (by omega)]
      exact hp (j - 1) j (by omega) hj (by omega)
theorem dictB_iff {L : List ByteArray} : dictB L = true ↔ (1 ≤ L.length ∧ L.length ≤ 12) ∧ (∀ x ∈ L, shortB x = true) ∧ L.Pairwise (fun x y => lessB x y = true) := by
  unfold dictB lenL
  rw [Bool.and_eq_true, goodN_pairwise]
  simp only [Bool.and_eq_true, decide_eq_true_eq]
  constructor
  · rintro ⟨h, h'⟩; exact ⟨by omega, h'⟩
  · rintro ⟨h, h'⟩; exact ⟨by omega, h'⟩
end Go.Proofs.YtclnjlnpconjmaaDoor.Pu
end

section
namespace Go.Proofs.YtclnjlnpconjmaaDoor.Pu
open Go.RowKit Go.Proofs.YtclnjlnpconjmaaDoor.P Go.Proofs.YtclnjlnpconjmaaDoorW.PrintWords Go.Proofs.YtclnjlnpconjmaaDoorW.PrintLast Go.Proofs.YtclnjlnpconjmaaDoorW.PrintMore
def okW (keys : ByteArray) (i : Nat) (w : ByteArray) : Bool := decide (i + w.size ≤ keys.size) && ((keysN w).toList == (keys.extract i (i + w.size)).toList)
def rowf (keys : ByteArray) (i : Nat) (tb : List (Int × Int)) : List ByteArray → Int → Int → Int × Int
  | [], a, b => (a, b)
  | w :: R, a, b =>
    if okW keys i w = true ∧ 0 < (tb.getD (w.size - 1) (0, -1)).1 then
      rowf keys i tb R (a + (tb.getD (w.size - 1) (0, -1)).1) (if b < 0 ∨ (tb.getD (w.size - 1) (0, -1)).2 + 1 < b then (tb.getD (w.size - 1) (0, -1)).2 + 1 else b)
    else rowf keys i tb R a b
def tbl (L : List ByteArray) (keys : ByteArray) : Nat → List (Int × Int)
  | 0 => [(1, 0)]
  | m + 1 => rowf keys (keys.size - (m + 1)) (tbl L keys m) L 0 (-1) :: tbl L keys m
theorem tbl_length (L : List ByteArray) (keys : ByteArray) : ∀ m, (tbl L keys m).length = m + 1
  | 0 => rfl
  | m + 1 => by rw [tbl, List.length_cons, tbl_length L keys m]
def goodE (p : Int × Int) (B : Int) (m : Int) : Prop := ((0 < p.1 ∧ 0 ≤ p.2) ∨ p = (0, -1)) ∧ p.1 ≤ B ∧ p.2 ≤ m
theorem rowf_good (keys : ByteArray) (i : Nat) (tb : List (Int × Int)) (m : Int) (hm : 0 ≤ m) : ∀ (R : List ByteArray) (a b : Int), (∀ w ∈ R, okW keys i w = true → ∃ B, goodE (tb.getD (w.size - 1) (0, -1)) B m) → ((0 < a ∧ 0 ≤ b) ∨ (a = 0 ∧ b = -1)) → b ≤ m + 1 →
    ((0 < (rowf keys i tb R a b).1 ∧ 0 ≤ (rowf keys i tb R a b).2) ∨ rowf keys i tb R a b = (0, -1)) ∧ (rowf keys i tb R a b).2 ≤ m + 1 ∧ a ≤ (rowf keys i tb R a b).1
  | [], a, b, _, h1, h2 => by
    rw [rowf]
    refine ⟨?_, h2, Int.le_refl _⟩
    rcases h1 with h | ⟨rfl, rfl⟩
    · exact Or.inl h
    · exact Or.inr rfl
  | w :: R, a, b, hR, h1, h2 => by
    rw [rowf]
    split
    · rename_i hc
      obtain ⟨B, hg, _, hm2⟩ := hR w List.mem_cons_self hc.1
      have hp : 0 ≤ (tb.getD (w.size - 1) (0, -1)).2 := by
        rcases hg with h | h
        · exact h.2
        · have := hc.2; rw [h] at this; simp at this
      have hpos := hc.2
      obtain ⟨c1, c2, c3⟩ := rowf_good keys i tb m hm R (a + (tb.getD (w.size - 1) (0, -1)).1) (if b < 0 ∨ (tb.getD (w.size - 1) (0, -1)).2 + 1 < b then (tb.getD (w.size - 1) (0, -1)).2 + 1 else b) (fun x hx => hR x (List.mem_cons_of_mem w hx))
        (Or.inl ⟨by rcases h1 with h | h <;> omega, by split <;> omega⟩) (by split <;> omega)
      exact ⟨c1, c2, by omega⟩
    · exact rowf_good keys i tb m hm R a b (fun x hx => hR x (List.mem_cons_of_mem w hx)) h1 h2
def oneW (keys : ByteArray) (i : Nat) (w : ByteArray) : Bool := okW keys i w && decide (w.size = 1)
theorem rowf_bound (keys : ByteArray) (i : Nat) (tb : List (Int × Int)) (B Q : Int) (hB0 : 0 ≤ B) (hQ0 : 0 ≤ Q) : ∀ (R : List ByteArray) (a b : Int), (∀ w ∈ R, okW keys i w = true → (w.size = 1 → (tb.getD (w.size - 1) (0, -1)).1 ≤ B) ∧ (w.size ≠ 1 → (tb.getD (w.size - 1) (0, -1)).1 ≤ Q)) →
    (rowf keys i tb R a b).1 ≤ a + ((R.filter (oneW keys i)).length : Int) * B + (R.length : Int) * Q
  | [], a, b, _ => by rw [rowf]; simp
  | w :: R, a, b, hR => by
    have hl : ((w :: R).length : Int) * Q = (R.length : Int) * Q + Q := by rw [List.length_cons, show ((R.length + 1 : Nat) : Int) = (R.length : Int) + 1 from rfl, Int.add_mul, Int.one_mul]
    have hnn : 0 ≤ ((R.filter (oneW keys i)).length : Int) * B := Int.mul_nonneg (by omega) hB0
    rw [rowf, hl, List.filter_cons]
    have ihs := fun a b => rowf_bound keys i tb B Q hB0 hQ0 R a b (fun x hx => hR x (List.mem_cons_of_mem w hx))
    by_cases h1 : oneW keys i w = true
    · rw [if_pos h1]
      have hl2 : (((w :: R.filter (oneW keys i)).length : Nat) : Int) * B = ((R.filter (oneW keys i)).length : Int) * B + B := by rw [List.length_cons, show (((R.filter (oneW keys i)).length + 1 : Nat) : Int) = ((R.filter (oneW keys i)).length : Int) + 1 from rfl, Int.add_mul, Int.one_mul]
      rw [hl2]
      unfold oneW at h1
      rw [Bool.and_eq_true, decide_eq_true_eq] at h1
      have hb := (hR w List.mem_cons_self h1.1).1 h1.2
      split
      · have := ihs (a + (tb.getD (w.size - 1) (0, -1)).1) (if b < 0 ∨ (tb.getD (w.size - 1) (0, -1)).2 + 1 < b then (tb.getD (w.size - 1) (0, -1)).2 + 1 else b)
        omega
      · have := ihs a b
        omega
    · rw [if_neg h1]
      split
      · rename_i hc
        have h2 : w.size ≠ 1 := fun e => h1 (by unfold oneW; rw [hc.1, decide_eq_true e]; rfl)
        have hb := (hR w List.mem_cons_self hc.1).2 h2
        have := ihs (a + (tb.getD (w.size - 1) (0, -1)).1) (if b < 0 ∨ (tb.getD (w.size - 1) (0, -1)).2 + 1 < b then (tb.getD (w.size - 1) (0, -1)).2 + 1 else b)
        omega
      · have := ihs a b
        omega
theorem rising_short : ∀ (l : List Int) (lo hi : Int), l.Pairwise (fun x y => x < y) → (∀ y ∈ l, lo ≤ y ∧ y ≤ hi) → l = [] ∨ (l.length : Int) ≤ hi - lo + 1
  | [], _, _, _, _ => Or.inl rfl
  | x :: xs, lo, hi, hp, h => by
    obtain ⟨h1, h2⟩ := List.pairwise_cons.1 hp
    have hx := h x List.mem_cons_self
    right
    rcases rising_short xs (x + 1) hi h2 (fun y hy => ⟨by have := h1 y hy; omega, (h y (List.mem_cons_of_mem x hy)).2⟩) with e | e
    · subst e; simp; omega
    · rw [List.length_cons]; omega
theorem keyN_near (c c' : Int) (h : 97 ≤ c ∧ c ≤ 122) (h' : 97 ≤ c' ∧ c' ≤ 122) (e : keyN c = keyN c') (hl : c ≤ c') : c' ≤ c + 3 := by
  unfold keyN at e
  repeat' split at e
  all_goals omega
theorem one_list {w : ByteArray} (h : w.size = 1) : bytesOf w = [bt w 0] := by
  have hl := bytesOf_length w
  have := drop_bytes w 0 (by omega)
  rw [List.drop_zero] at this
  rw [this, List.drop_of_length_le (by omega)]
  rfl
theorem one_less {w w' : ByteArray} (h : w.size = 1) (h' : w'.size = 1) (hl : lessB w w' = true) : bt w 0 < bt w' 0 := by
  have e1 := one_list h
  have e2 := one_list h'
  unfold lessB at hl
  rw [Lib.toList_data, Lib.toList_data] at hl
  unfold bytesOf at e1 e2
  match hd : w.data.toList, hd' : w'.data.toList with
  | [a], [b] =>
    rw [hd] at e1 hl
    rw [hd'] at e2 hl
    simp only [List.map_cons, List.map_nil, List.cons.injEq, and_true] at e1 e2
    simp only [Op.bytesLess, Bool.or_eq_true, decide_eq_true_eq, Bool.and_false, Bool.false_eq_true, or_false] at hl
    have := UInt8.lt_iff_toNat_lt.1 hl
    omega
  | [], _ => rw [hd] at e1; simp at e1
  | _ :: _ :: _, _ => rw [hd] at e1; simp at e1
  | [_], [] => rw [hd'] at e2; simp at e2
  | [_], _ :: _ :: _ => rw [hd'] at e2; simp at e2
theorem ones_few {L : List ByteArray} (hd : dictB L = true) (keys : ByteArray) (i : Nat) : (L.filter (oneW keys i)).length ≤ 4 := by
  obtain ⟨_, hs, hp⟩ := dictB_iff.1 hd
  have hw : ∀ w ∈ L.filter (oneW keys i), w.size = 1 ∧ (97 ≤ bt w 0 ∧ bt w 0 ≤ 122) ∧ [keyN (bt w 0)] = bytesOf (keys.extract i (i + 1)) := by
    intro w hw
    obtain ⟨hm, ho⟩ := List.mem_filter.1 hw
    unfold oneW okW at ho
    simp only [Bool.and_eq_true, decide_eq_true_eq, beq_iff_eq] at ho
    obtain ⟨⟨_, h2⟩, h3⟩ := ho
    have hl := short_low (hs w hm) (bt w 0) (bt_mem w 0 (by omega))
    refine ⟨h3, hl, ?_⟩
    rw [h3] at h2
    have h2 := toList_bytes.1 h2
    rw [← h2, keysN_bytes, one_list h3]
    rfl
  have hpw : ((L.filter (oneW keys i)).map fun w => bt w 0).Pairwise (fun x y => x < y) := by
    rw [List.pairwise_map]
    have := List.Pairwise.filter (oneW keys i) hp
    exact List.Pairwise.imp_of_mem (fun {a b} ha hb h => one_less (hw a ha).1 (hw b hb).1 h) this
  match hF : L.filter (oneW keys i) with
  | [] => simp
  | x :: xs =>
    rw [hF] at hw hpw
    have hx := hw x List.mem_cons_self
    have := rising_short _ (bt x 0) (bt x 0 + 3) hpw (fun y hy => by
      obtain ⟨w, hwm, rfl⟩ := List.mem_map.1 hy
      have h1 := hw w hwm
      have hle : bt x 0 ≤ bt w 0 := by
        rcases List.mem_cons.1 hwm with rfl | h
        · exact Int.le_refl _
        · have : bt x 0 < bt w 0 := (List.pairwise_cons.1 hpw).1 (bt w 0) (List.mem_map_of_mem h)
          omega
      have hk : keyN (bt x 0) = keyN (bt w 0) := by
        have := hx.2.2.trans h1.2.2.symm
        simpa using this
      exact ⟨hle, keyN_near _ _ hx.2.1 h1.2.1 hk hle⟩)
    rcases this with e | e
    · simp at e
    · rw [List.length_map] at e
      omega
theorem six_pow (m : Nat) : 4 * (6 : Int) ^ (m + 1) + 12 * (6 : Int) ^ m = 6 ^ (m + 2) := by
  rw [Int.pow_succ, Int.pow_succ, Int.pow_succ]
  omega
theorem six_mono (m k : Nat) : (6 : Int) ^ m ≤ 6 ^ (m + k) := by
  induction k with
  | zero => exact Int.le_refl _
  | succ k ih =>
    rw [← Nat.add_assoc, Int.pow_succ]
    have : (0 : Int) < 6 ^ (m + k) := Int.pow_pos (by decide)
    omega
theorem getD_lt {tb : List (Int × Int)} {j : Nat} (h : j < tb.length) : tb.getD j (0, -1) = tb[j] := by
  rw [List.getD_eq_getElem?_getD, List.getElem?_eq_getElem h]
  rfl
theorem okW_size {keys : ByteArray} {i : Nat} {w : ByteArray} (h : okW keys i w = true) : i + w.size ≤ keys.size ∧ keysN w = keys.extract i (i + w.size) := by
  unfold okW at h
  rw [Bool.and_eq_true, decide_eq_true_eq, beq_iff_eq] at h
  exact ⟨h.1, toList_bytes.1 h.2⟩
theorem tbl_good {L : List ByteArray} (hd : dictB L = true) (keys : ByteArray) : ∀ m, m ≤ keys.size → ∀ j (h : j < (tbl L keys m).length), goodE ((tbl L keys m)[j]) (6 ^ (m - j)) m
  | 0, _, j, h => by
    have : j = 0 := by rw [tbl_length] at h; omega
    subst this
    show goodE (1, 0) (6 ^ (0 - 0)) ((0 : Nat) : Int)
    exact ⟨Or.inl ⟨by decide, by decide⟩, by decide, by decide⟩
  | m + 1, hm, j, h => by
    have ih := tbl_good hd keys m (by omega)
    have hlen := tbl_length L keys m
    have hL := dict_length hd
    have hsz : ∀ w ∈ L, okW keys (keys.size - (m + 1)) w = true → 1 ≤ w.size ∧ w.size - 1 < (tbl L keys m).length := fun w hw ho => by
      have h1 := (okW_size ho).1
      have h2 := (short_size (dict_short hd w hw)).1
      rw [hlen]
      omega
    match j, h with
    | 0, _ =>
      show goodE (rowf keys (keys.size - (m + 1)) (tbl L keys m) L 0 (-1)) _ _
      obtain ⟨c1, c2, _⟩ := rowf_good keys (keys.size - (m + 1)) (tbl L keys m) m (by omega) L 0 (-1) (fun w hw ho => by
        have hz := hsz w hw ho
        rw [getD_lt hz.2]
        exact ⟨_, ih _ hz.2⟩) (Or.inr ⟨rfl, rfl⟩) (by omega)
      refine ⟨c1, ?_, by omega⟩
      have hfew := ones_few hd keys (keys.size - (m + 1))
      cases m with
      | zero =>
        have hb := rowf_bound keys (keys.size - 1) (tbl L keys 0) 1 0 (by decide) (by decide) L 0 (-1) (fun w hw ho => by
          have hz := hsz w hw ho
          have h1 : w.size = 1 := by rw [hlen] at hz; omega
          rw [getD_lt hz.2]
          exact ⟨fun _ => Int.le_trans (ih _ hz.2).2.1 (by rw [h1]; decide), fun h => absurd h1 h⟩)
        have h6 : (6 : Int) ^ 1 = 6 := by decide
        show (rowf keys (keys.size - 1) (tbl L keys 0) L 0 (-1)).1 ≤ (6 : Int) ^ 1
        rw [h6]
        rw [Int.mul_one, Int.mul_zero] at hb
        have hfew' : (L.filter (oneW keys (keys.size - 1))).length ≤ 4 := hfew
        omega
      | succ m =>
        have hp1 : (0 : Int) < 6 ^ (m + 1) := Int.pow_pos (by decide)
        have hp0 : (0 : Int) < 6 ^ m := Int.pow_pos (by decide)
        have hb := rowf_bound keys (keys.size - (m + 1 + 1)) (tbl L keys (m + 1)) (6 ^ (m + 1)) (6 ^ m) (by omega) (by omega) L 0 (-1) (fun w hw ho => by
          have hz := hsz w hw ho
          rw [getD_lt hz.2]
          have hg := (ih _ hz.2).2.1
          refine ⟨fun h1 => ?_, fun h1 => ?_⟩
          · have e : m + 1 - (w.size - 1) = m + 1 := by omega
            rw [e] at hg
            exact hg
          · refine Int.le_trans hg ?_
            rw [hlen] at hz
            have := six_mono (m + 1 - (w.size - 1)) (m - (m + 1 - (w.size - 1)))
            rwa [show m + 1 - (w.size - 1) + (m - (m + 1 - (w.size - 1))) = m by omega] at this)
        have h6 := six_pow m
        have g1 : ((L.filter (oneW keys (keys.size - (m + 1 + 1)))).length : Int) * 6 ^ (m + 1) ≤ 4 * 6 ^ (m + 1) := Int.mul_le_mul_of_nonneg_right (by omega) (by omega)
        have g2 : (L.length : Int) * 6 ^ m ≤ 12 * 6 ^ m := Int.mul_le_mul_of_nonneg_right (by omega) (by omega)
        show _ ≤ (6 : Int) ^ (m + 2)
        omega
    | j + 1, h =>
      have hj : j < (tbl L keys m).length := by rw [tbl, List.length_cons] at h; omega
      show goodE ((tbl L keys m)[j]) _ _
      obtain ⟨g1, g2, g3⟩ := ih j hj
      refine ⟨g1, ?_, by omega⟩
      rw [show m + 1 - (j + 1) = m - j by omega]
      exact g2
end Go.Proofs.YtclnjlnpconjmaaDoor.Pu
end

section
namespace Go.Proofs.YtclnjlnpconjmaaDoor.Pu
open Go.RowKit Go.Proofs.YtclnjlnpconjmaaDoor.P Go.Proofs.YtclnjlnpconjmaaDoorW.PrintWords Go.Proofs.YtclnjlnpconjmaaDoorW.PrintLast Go.Proofs.YtclnjlnpconjmaaDoorW.PrintMore
theorem rd_at (Z : List Int) (a : Int) (T : List Int) (i : Nat) (hZ : Z.length = i) : rd (Z ++ a :: T) (i : Int) = a := by
  subst hZ
  unfold rd
  rw [Int.toNat_natCast]
  simp
theorem rd_behind (Z : List Int) (a : Int) (T : List Int) (i s : Nat) (hs : 1 ≤ s) (hZ : Z.length = i) : rd (Z ++ a :: T) ((i : Int) + (s : Int)) = T.getD (s - 1) 0 := by
  subst hZ
  obtain ⟨s, rfl⟩ : ∃ t, s = t + 1 := ⟨s - 1, by omega⟩
  unfold rd
  rw [show (((Z.length : Nat) : Int) + ((s + 1 : Nat) : Int)).toNat = Z.length + (s + 1) by omega, List.getD_eq_getElem?_getD, List.getElem?_append_right (by omega)]
  rw [show Z.length + (s + 1) - Z.length = s + 1 by omega, List.getElem?_cons_succ, List.getD_eq_getElem?_getD]
  rfl
theorem set_at (Z : List Int) (a v : Int) (T : List Int) (i : Nat) (hZ : Z.length = i) : (Z ++ a :: T).set i v = Z ++ v :: T := by
  subst hZ
  simp
theorem fst_getD (tb : List (Int × Int)) (j : Nat) (h : j < tb.length) : (tb.map Prod.fst).getD j 0 = (tb.getD j (0, -1)).1 := by
  rw [List.getD_eq_getElem?_getD, List.getElem?_map, List.getElem?_eq_getElem h, getD_lt h]
  rfl
theorem snd_getD (tb : List (Int × Int)) (j : Nat) (h : j < tb.length) : (tb.map Prod.snd).getD j 0 = (tb.getD j (0, -1)).2 := by
  rw [List.getD_eq_getElem?_getD, List.getElem?_map, List.getElem?_eq_getElem h, getD_lt h]
  rfl
structure RowOk (L : List ByteArray) (keys : ByteArray) (i : Nat) (tb : List (Int × Int)) : Prop where
  len : tb.length = keys.size - i
  good : ∀ j (h : j < tb.length), ((0 < tb[j].1 ∧ 0 ≤ tb[j].2) ∨ tb[j] = (0, -1)) ∧ tb[j].1 ≤ 4000000000000000 ∧ tb[j].2 ≤ 20
theorem row_step {keys : ByteArray} {i : Nat} {tb : List (Int × Int)} {L : List ByteArray} (h : RowOk L keys i tb) (w : ByteArray) (hw : 1 ≤ w.size) (R : List ByteArray) (a b : Int) :
    rowf keys i tb (w :: R) a b = if okW keys i w = true ∧ 0 < (tb.getD (w.size - 1) (0, -1)).1 then
      rowf keys i tb R (a + (tb.getD (w.size - 1) (0, -1)).1) (if b < 0 ∨ (tb.getD (w.size - 1) (0, -1)).2 + 1 < b then (tb.getD (w.size - 1) (0, -1)).2 + 1 else b) else rowf keys i tb R a b := rfl
theorem wdTables_l1 (L : List ByteArray) (hd : dictB L = true) (keys : ByteArray) (hk : keys.size ≤ 20) (i : Nat) (hi : i < keys.size) (tb : List (Int × Int)) (hT : RowOk L keys i tb) (Z Z' : List Int) (hZ : Z.length = i) (hZ' : Z'.length = i) (r : List Int × List Int)
    (hr : Ev (fun k => spec_wdTables.l0 k L keys (Z ++ (rowf keys i tb L 0 (-1)).1 :: tb.map Prod.fst) (Z' ++ (rowf keys i tb L 0 (-1)).2 :: tb.map Prod.snd) ((i : Int) - 1)) r) (hB : (rowf keys i tb L 0 (-1)).1 ≤ 4000000000000000) :
    ∀ (d t : Nat) (a b : Int), t + d = L.length → rowf keys i tb (L.drop t) a b = rowf keys i tb L 0 (-1) → 0 ≤ a → a ≤ 4000000000000000 → -1 ≤ b → b ≤ 21 →
      Ev (fun k => spec_wdTables.l1 k L keys (Z ++ a :: tb.map Prod.fst) (Z' ++ b :: tb.map Prod.snd) i L L.length t) r
  | 0, t, a, b, ht, he, ha0, ha1, hb0, hb1 => by
    obtain rfl : t = L.length := by omega
    rw [List.drop_length, rowf] at he
    rw [← he] at hr
    obtain ⟨K, hr⟩ := hr
    refine ev_from K fun k hk' => ?_
    have hr := hr k hk'
    dsimp only at hr
    simp only [spec_wdTables.l1]
    rw [if_neg (by omega), wr (by omega) (by omega)]
    exact hr
  | d + 1, t, a, b, ht, he, ha0, ha1, hb0, hb1 => by
    have hl := dict_length hd
    have hs := dict_short hd _ (rds_mem L t (by omega))
    have hz := short_size hs
    have hlen := hT.len
    generalize hw : rdOf ByteArray.empty L (t : Int) = w at *
    have he' := he
    rw [rds_drop L t (by omega), hw, row_step hT w hz.1] at he'
    have hks := keysN_size w
    obtain ⟨K0, e0⟩ := prKeys_ev w (by omega) (short_low hs)
    have hWl : (Z ++ a :: tb.map Prod.fst).length = keys.size + 1 := by rw [List.length_append, List.length_cons, List.length_map]; omega
    have hFl : (Z' ++ b :: tb.map Prod.snd).length = keys.size + 1 := by rw [List.length_append, List.length_cons, List.length_map]; omega
    by_cases hfit : i + w.size ≤ keys.size
    · have hj : w.size - 1 < tb.length := by omega
      by_cases heq : (keysN w).toList = (keys.extract i (i + w.size)).toList
      · have hok : okW keys i w = true := by
          unfold okW
          rw [decide_eq_true hfit, heq, beq_self_eq_true]
          rfl
        obtain ⟨hg, hg1, hg2⟩ := hT.good (w.size - 1) hj
        rw [getD_lt hj, hok] at he'
        have hrw : rd (Z ++ a :: tb.map Prod.fst) ((i : Int) + (w.size : Int)) = tb[w.size - 1].1 := by rw [rd_behind Z a _ i w.size hz.1 hZ, fst_getD tb _ hj, getD_lt hj]
        have hrf : rd (Z' ++ b :: tb.map Prod.snd) ((i : Int) + (w.size : Int)) = tb[w.size - 1].2 := by rw [rd_behind Z' b _ i w.size hz.1 hZ', snd_getD tb _ hj, getD_lt hj]
        generalize tb[w.size - 1] = p at *
        by_cases hp : 0 < p.1
        · rw [if_pos ⟨rfl, hp⟩] at he'
          have hmono := (rowf_good keys i tb 20 (by decide) (L.drop (t + 1)) (a + p.1) (if b < 0 ∨ p.2 + 1 < b then p.2 + 1 else b) (fun x hx hok => ⟨4000000000000000, by
            have hx' := short_size (dict_short hd x (List.mem_of_mem_drop hx))
            have := (okW_size hok).1
            have hjx : x.size - 1 < tb.length := by omega
            rw [getD_lt hjx]
            exact hT.good _ hjx⟩) (Or.inl ⟨by omega, by rcases hg with h | h
                                                        · split <;> omega
                                                        · rw [h] at hp; simp at hp⟩) (by split <;> omega)).2.2
          rw [he'] at hmono
          have hp2 : 0 ≤ p.2 := by
            rcases hg with h | h
            · exact h.2
            · rw [h] at hp; simp at hp
          obtain ⟨K1, e1⟩ := wdTables_l1 L hd keys hk i hi tb hT Z Z' hZ hZ' r hr hB d (t + 1) (a + p.1) (if b < 0 ∨ p.2 + 1 < b then p.2 + 1 else b) (by omega) he' (by omega) (by omega) (by split <;> omega) (by split <;> omega)
          refine ev_from (K0 + K1 + 1) fun k hk' => ?_
          obtain ⟨k, rfl⟩ : ∃ m, k = m + 1 := ⟨k - 1, by omega⟩
          have e0 := e0 (k + 1) (by omega)
          have e1 := e1 k (by omega)
          rw [show ((t + 1 : Nat) : Int) = (t : Int) + 1 from rfl] at e1
          dsimp only at e0 e1
          simp only [spec_wdTables.l1]
          rw [if_pos (by omega), if_pos (by omega), if_pos (by omega), hw, wr (x := (i : Int) + (w.size : Int)) (by omega) (by omega), if_neg (by omega), e0, bsome, if_pos (by omega), if_pos (by omega), if_pos (by omega), Int.toNat_natCast, show ((i : Int) + (w.size : Int)).toNat = i + w.size by omega, if_pos heq, if_pos (by omega), if_pos (by omega), hrw]
          simp only [spec_wdTables.j2]
          rw [if_neg (by rw [beq_eq_false_iff_ne.2 (show p.1 ≠ 0 by omega)]; simp), if_pos (by omega), if_pos (by omega), if_pos (by omega), if_pos (by omega), hrw, rd_at Z a _ i hZ, Int.toNat_natCast, set_at Z a _ _ i hZ, wr (x := a + p.1) (by omega) (by omega), bsome, if_pos (by omega), rd_at Z' b _ i hZ', hrf, wr (x := p.2 + 1) (by omega) (by omega), set_at Z' b _ _ i hZ', wr (x := (t : Int) + 1) (by omega) (by omega)]
          by_cases h1 : b < 0
          · rw [if_pos h1, if_pos (by omega)]
            rw [if_pos (Or.inl h1)] at e1
            exact e1
          · rw [if_neg h1, if_pos (by omega)]
            by_cases h2 : p.2 + 1 < b
            · rw [if_pos h2]
              rw [if_pos (Or.inr h2)] at e1
              exact e1
            · rw [if_neg h2]
              rw [if_neg (fun h => h.elim h1 h2)] at e1
              exact e1
        · rw [if_neg (fun h => hp h.2)] at he'
          have hp0 : p.1 = 0 := by
            rcases hg with h | h
            · exact absurd h.1 hp
            · rw [h]
          obtain ⟨K1, e1⟩ := wdTables_l1 L hd keys hk i hi tb hT Z Z' hZ hZ' r hr hB d (t + 1) a b (by omega) he' ha0 ha1 hb0 hb1
          refine ev_from (K0 + K1 + 1) fun k hk' => ?_
          obtain ⟨k, rfl⟩ : ∃ m, k = m + 1 := ⟨k - 1, by omega⟩
          have e0 := e0 (k + 1) (by omega)
          have e1 := e1 k (by omega)
          rw [show ((t + 1 : Nat) : Int) = (t : Int) + 1 from rfl] at e1
          dsimp only at e0 e1
          simp only [spec_wdTables.l1]
          rw [if_pos (by omega), if_pos (by omega), if_pos (by omega), hw, wr (x := (i : Int) + (w.size : Int)) (by omega) (by omega), if_neg (by omega), e0, bsome, if_pos (by omega), if_pos (by omega), if_pos (by omega), Int.toNat_natCast, show ((i : Int) + (w.size : Int)).toNat = i + w.size by omega, if_pos heq, if_pos (by omega), if_pos (by omega), hrw, hp0]
          simp only [spec_wdTables.j2]
          rw [if_pos (show ((0 : Int) == 0) = true from rfl), wr (by omega) (by omega)]
          exact e1
      · have hok : ¬ (okW keys i w = true ∧ 0 < (tb.getD (w.size - 1) (0, -1)).1) := by
          rintro ⟨h, _⟩
          unfold okW at h
          rw [Bool.and_eq_true, beq_iff_eq] at h
          exact heq h.2
        rw [if_neg hok] at he'
        obtain ⟨K1, e1⟩ := wdTables_l1 L hd keys hk i hi tb hT Z Z' hZ hZ' r hr hB d (t + 1) a b (by omega) he' ha0 ha1 hb0 hb1
        refine ev_from (K0 + K1 + 1) fun k hk' => ?_
        obtain ⟨k, rfl⟩ : ∃ m, k = m + 1 := ⟨k - 1, by omega⟩
        have e0 := e0 (k + 1) (by omega)
        have e1 := e1 k (by omega)
        rw [show ((t + 1 : Nat) : Int) = (t : Int) + 1 from rfl] at e1
        dsimp only at e0 e1
        simp only [spec_wdTables.l1]
        rw [if_pos (by omega), if_pos (by omega), if_pos (by omega), hw, wr (x := (i : Int) + (w.size : Int)) (by omega) (by omega), if_neg (by omega), e0, bsome, if_pos (by omega), if_pos (by omega), if_pos (by omega), Int.toNat_natCast, show ((i : Int) + (w.size : Int)).toNat = i + w.size by omega, if_neg heq]
        simp only [spec_wdTables.j2]
        rw [if_pos trivial, wr (by omega) (by omega)]
        exact e1
    · have hok : ¬ (okW keys i w = true ∧ 0 < (tb.getD (w.size - 1) (0, -1)).1) := fun h => hfit (okW_size h.1).1
      rw [if_neg hok] at he'
      obtain ⟨K1, e1⟩ := wdTables_l1 L hd keys hk i hi tb hT Z Z' hZ hZ' r hr hB d (t + 1) a b (by omega) he' ha0 ha1 hb0 hb1
      refine ev_from (K1 + 1) fun k hk' => ?_
      obtain ⟨k, rfl⟩ : ∃ m, k = m + 1 := ⟨k - 1, by omega⟩
      have e1 := e1 k (by omega)
      rw [show ((t + 1 : Nat) : Int) = (t : Int) + 1 from rfl] at e1
      dsimp only at e1
      simp only [spec_wdTables.l1]
      rw [if_pos (by omega), if_pos (by omega), if_pos (by omega), hw, wr (x := (i : Int) + (w.size : Int)) (by omega) (by omega), if_pos (by omega)]
      simp only [spec_wdTables.j2]
      rw [if_pos trivial, wr (by omega) (by omega)]
      exact e1
theorem pre_ok (keys : ByteArray) (i : Nat) (hi : i ≤ keys.size) (w : ByteArray) : Lib.hasPrefix (keys.extract i keys.size).data.toList (keysN w).data.toList = (decide (i + w.size ≤ keys.size) && ((keysN w).toList == (keys.extract i (i + w.size)).toList)) := by
  unfold Lib.hasPrefix
  rw [isPrefix_take, size_data, size_data, ByteArray.size_extract, keysN_size, Lib.toList_data, Lib.toList_data, ByteArray.data_extract, Array.toList_extract, List.extract_eq_take_drop, ByteArray.data_extract, Array.toList_extract, List.extract_eq_take_drop]
  have hn : Min.min keys.size keys.size = keys.size := Nat.min_self _
  rw [hn, decide_eq_decide.2 (show w.size ≤ keys.size - i ↔ i + w.size ≤ keys.size by omega)]
  by_cases h : i + w.size ≤ keys.size
  · rw [decide_eq_true h, Bool.true_and, Bool.true_and, List.take_take, Nat.min_eq_left (by omega), show i + w.size - i = w.size by omega]
    rw [Bool.eq_iff_iff, beq_iff_eq, beq_iff_eq]
    exact eq_comm
  · rw [decide_eq_false h, Bool.false_and, Bool.false_and]
theorem hasPre_is (s p : ByteArray) : strings_HasPrefix.f s p = some (Lib.hasPrefix s.data.toList p.data.toList) := by
  unfold strings_HasPrefix.f stringslite_HasPrefix.f Lib.hasPrefix
  rw [isPrefix_take, size_data, size_data]
  by_cases h : p.size ≤ s.size
  · rw [if_pos (by omega), if_pos (by omega), if_pos (by omega), bsome, decide_eq_true h, Bool.true_and, Int.toNat_natCast, Lib.toList_data, Lib.toList_data, ByteArray.data_extract, Array.toList_extract, List.extract_eq_take_drop, List.drop_zero, Nat.sub_zero]
  · rw [if_neg (by omega), bsome, decide_eq_false h, Bool.false_and]
theorem splits_l1 (L : List ByteArray) (hd : dictB L = true) (keys : ByteArray) (hk : keys.size ≤ 20) (i : Nat) (hi : i < keys.size) (tb : List (Int × Int)) (hT : RowOk L keys i tb) (Z Z' : List Int) (hZ : Z.length = i) (hZ' : Z'.length = i) (r : List Int × List Int)
    (hr : Ev (fun k => impl_splits.l0 k L keys (Z ++ (rowf keys i tb L 0 (-1)).1 :: tb.map Prod.fst) (Z' ++ (rowf keys i tb L 0 (-1)).2 :: tb.map Prod.snd) ((i : Int) - 1)) r) (hB : (rowf keys i tb L 0 (-1)).1 ≤ 4000000000000000) :
    ∀ (d t : Nat) (a b : Int), t + d = L.length → rowf keys i tb (L.drop t) a b = rowf keys i tb L 0 (-1) → 0 ≤ a → a ≤ 4000000000000000 → -1 ≤ b → b ≤ 21 →
      Ev (fun k => impl_splits.l1 k L keys (Z ++ a :: tb.map Prod.fst) (Z' ++ b :: tb.map Prod.snd) i L L.length t) r
  | 0, t, a, b, ht, he, ha0, ha1, hb0, hb1 => by
    obtain rfl : t = L.length := by omega
    rw [List.drop_length, rowf] at he
    rw [← he] at hr
    obtain ⟨K, hr⟩ := hr
    refine ev_from K fun k hk' => ?_
    have hr := hr k hk'
    dsimp only at hr
    simp only [impl_splits.l1]
    rw [if_neg (by omega), wr (by omega) (by omega)]
    exact hr
  | d + 1, t, a, b, ht, he, ha0, ha1, hb0, hb1 => by
    have hl := dict_length hd
    have hs := dict_short hd _ (rds_mem L t (by omega))
    have hz := short_size hs
    have hlen := hT.len
    generalize hw : rdOf ByteArray.empty L (t : Int) = w at *
    have he' := he
    rw [rds_drop L t (by omega), hw, row_step hT w hz.1] at he'
    have hks := keysN_size w
    obtain ⟨K0, e0⟩ := keysOf_ev w (by omega) (short_low hs)
    have hWl : (Z ++ a :: tb.map Prod.fst).length = keys.size + 1 := by rw [List.length_append, List.length_cons, List.length_map]; omega
    have hFl : (Z' ++ b :: tb.map Prod.snd).length = keys.size + 1 := by rw [List.length_append, List.length_cons, List.length_map]; omega
    by_cases hfit : i + w.size ≤ keys.size
    · have hj : w.size - 1 < tb.length := by omega
      by_cases heq : (keysN w).toList = (keys.extract i (i + w.size)).toList
      · have hpre : Lib.hasPrefix (keys.extract i keys.size).data.toList (keysN w).data.toList = true := by rw [pre_ok keys i (by omega) w, decide_eq_true hfit, heq, beq_self_eq_true]; rfl
        have hok : okW keys i w = true := by
          unfold okW
          rw [decide_eq_true hfit, heq, beq_self_eq_true]
          rfl
        obtain ⟨hg, hg1, hg2⟩ := hT.good (w.size - 1) hj
        rw [getD_lt hj, hok] at he'
        have hrw : rd (Z ++ a :: tb.map Prod.fst) ((i : Int) + (w.size : Int)) = tb[w.size - 1].1 := by rw [rd_behind Z a _ i w.size hz.1 hZ, fst_getD tb _ hj, getD_lt hj]
        have hrf : rd (Z' ++ b :: tb.map Prod.snd) ((i : Int) + (w.size : Int)) = tb[w.size - 1].2 := by rw [rd_behind Z' b _ i w.size hz.1 hZ', snd_getD tb _ hj, getD_lt hj]
        generalize tb[w.size - 1] = p at *
        by_cases hp : 0 < p.1
        · rw [if_pos ⟨rfl, hp⟩] at he'
          have hmono := (rowf_good keys i tb 20 (by decide) (L.drop (t + 1)) (a + p.1) (if b < 0 ∨ p.2 + 1 < b then p.2 + 1 else b) (fun x hx hok => ⟨4000000000000000, by
            have hx' := short_size (dict_short hd x (List.mem_of_mem_drop hx))
            have := (okW_size hok).1
            have hjx : x.size - 1 < tb.length := by omega
            rw [getD_lt hjx]
            exact hT.good _ hjx⟩) (Or.inl ⟨by omega, by rcases hg with h | h
                                                        · split <;> omega
                                                        · rw [h] at hp; simp at hp⟩) (by split <;> omega)).2.2
          rw [he'] at hmono
          have hp2 : 0 ≤ p.2 := by
            rcases hg with h | h
            · exact h.2
            · rw [h] at hp; simp at hp
          obtain ⟨K1, e1⟩ := splits_l1 L hd keys hk i hi tb hT Z Z' hZ hZ' r hr hB d (t + 1) (a + p.1) (if b < 0 ∨ p.2 + 1 < b then p.2 + 1 else b) (by omega) he' (by omega) (by omega) (by split <;> omega) (by split <;> omega)
          refine ev_from (K0 + K1 + 1) fun k hk' => ?_
          obtain ⟨k, rfl⟩ : ∃ m, k = m + 1 := ⟨k - 1, by omega⟩
          have e0 := e0 (k + 1) (by omega)
          have e1 := e1 k (by omega)
          rw [show ((t + 1 : Nat) : Int) = (t : Int) + 1 from rfl] at e1
          dsimp only at e0 e1
          simp only [impl_splits.l1]
          rw [if_pos (by omega), if_pos (by omega), if_pos (by omega), hw, if_pos (by omega), if_pos (by omega), Int.toNat_natCast, e0, bsome, hasPre_is, bsome, hpre, wr (x := (i : Int) + (w.size : Int)) (by omega) (by omega), if_pos rfl, if_pos (by omega), if_pos (by omega), hrf]
          simp only [impl_splits.j2]
          rw [if_pos (decide_eq_true hp2), if_pos (by omega), if_pos (by omega), if_pos (by omega), if_pos (by omega), hrw, rd_at Z a _ i hZ, Int.toNat_natCast, set_at Z a _ _ i hZ, wr (x := a + p.1) (by omega) (by omega), bsome, if_pos (by omega), rd_at Z' b _ i hZ', hrf, wr (x := p.2 + 1) (by omega) (by omega), set_at Z' b _ _ i hZ', wr (x := (t : Int) + 1) (by omega) (by omega)]
          by_cases h1 : b < 0
          · rw [if_pos h1, if_pos (by omega)]
            rw [if_pos (Or.inl h1)] at e1
            exact e1
          · rw [if_neg h1, if_pos (by omega)]
            by_cases h2 : p.2 + 1 < b
            · rw [if_pos h2]
              rw [if_pos (Or.inr h2)] at e1
              exact e1
            · rw [if_neg h2]
              rw [if_neg (fun h => h.elim h1 h2)] at e1
              exact e1
        · rw [if_neg (fun h => hp h.2)] at he'
          have hp1 : p.2 = -1 := by
            rcases hg with h | h
            · exact absurd h.1 hp
            · rw [h]
          obtain ⟨K1, e1⟩ := splits_l1 L hd keys hk i hi tb hT Z Z' hZ hZ' r hr hB d (t + 1) a b (by omega) he' ha0 ha1 hb0 hb1
          refine ev_from (K0 + K1 + 1) fun k hk' => ?_
          obtain ⟨k, rfl⟩ : ∃ m, k = m + 1 := ⟨k - 1, by omega⟩
          have e0 := e0 (k + 1) (by omega)
          have e1 := e1 k (by omega)
          rw [show ((t + 1 : Nat) : Int) = (t : Int) + 1 from rfl] at e1
          dsimp only at e0 e1
          simp only [impl_splits.l1]
          rw [if_pos (by omega), if_pos (by omega), if_pos (by omega), hw, if_pos (by omega), if_pos (by omega), Int.toNat_natCast, e0, bsome, hasPre_is, bsome, hpre, wr (x := (i : Int) + (w.size : Int)) (by omega) (by omega), if_pos rfl, if_pos (by omega), if_pos (by omega), hrf]
          simp only [impl_splits.j2]
          rw [if_neg (by rw [decide_eq_false (show ¬ p.2 ≥ 0 by rw [hp1]; decide)]; simp), wr (by omega) (by omega)]
          exact e1
      · have hpre : Lib.hasPrefix (keys.extract i keys.size).data.toList (keysN w).data.toList = false := by rw [pre_ok keys i (by omega) w, beq_eq_false_iff_ne.2 heq, Bool.and_false]
        have hok : ¬ (okW keys i w = true ∧ 0 < (tb.getD (w.size - 1) (0, -1)).1) := by
          rintro ⟨h, _⟩
          unfold okW at h
          rw [Bool.and_eq_true, beq_iff_eq] at h
          exact heq h.2
        rw [if_neg hok] at he'
        obtain ⟨K1, e1⟩ := splits_l1 L hd keys hk i hi tb hT Z Z' hZ hZ' r hr hB d (t + 1) a b (by omega) he' ha0 ha1 hb0 hb1
        refine ev_from (K0 + K1 + 1) fun k hk' => ?_
        obtain ⟨k, rfl⟩ : ∃ m, k = m + 1 := ⟨k - 1, by omega⟩
        have e0 := e0 (k + 1) (by omega)
        have e1 := e1 k (by omega)
        rw [show ((t + 1 : Nat) : Int) = (t : Int) + 1 from rfl] at e1
        dsimp only at e0 e1
        simp only [impl_splits.l1]
        rw [if_pos (by omega), if_pos (by omega), if_pos (by omega), hw, if_pos (by omega), if_pos (by omega), Int.toNat_natCast, e0, bsome, hasPre_is, bsome, hpre, wr (x := (i : Int) + (w.size : Int)) (by omega) (by omega), if_neg (by simp)]
        simp only [impl_splits.j2]
        rw [if_neg (by simp), wr (by omega) (by omega)]
        exact e1
    · have hok : ¬ (okW keys i w = true ∧ 0 < (tb.getD (w.size - 1) (0, -1)).1) := fun h => hfit (okW_size h.1).1
      have hpre : Lib.hasPrefix (keys.extract i keys.size).data.toList (keysN w).data.toList = false := by rw [pre_ok keys i (by omega) w, decide_eq_false hfit, Bool.false_and]
      rw [if_neg hok] at he'
      obtain ⟨K1, e1⟩ := splits_l1 L hd keys hk i hi tb hT Z Z' hZ hZ' r hr hB d (t + 1) a b (by omega) he' ha0 ha1 hb0 hb1
      refine ev_from (K0 + K1 + 1) fun k hk' => ?_
      obtain ⟨k, rfl⟩ : ∃ m, k = m + 1 := ⟨k - 1, by omega⟩
      have e0 := e0 (k + 1) (by omega)
      have e1 := e1 k (by omega)
      rw [show ((t + 1 : Nat) : Int) = (t : Int) + 1 from rfl] at e1
      dsimp only at e0 e1
      simp only [impl_splits.l1]
      rw [if_pos (by omega), if_pos (by omega), if_pos (by omega), hw, if_pos (by omega), if_pos (by omega), Int.toNat_natCast, e0, bsome, hasPre_is, bsome, hpre, wr (x := (i : Int) + (w.size : Int)) (by omega) (by omega), if_neg (by simp)]
      simp only [impl_splits.j2]
      rw [if_neg (by simp), wr (by omega) (by omega)]
      exact e1
theorem pow_small (m : Nat) (h : m ≤ 20) : (6 : Int) ^ m ≤ 4000000000000000 := by
  have h1 := six_mono m (20 - m)
  rw [show m + (20 - m) = 20 by omega] at h1
  have h2 : (6 : Int) ^ 20 = 3656158440062976 := by decide
  omega
theorem row_ok {L : List ByteArray} (hd : dictB L = true) (keys : ByteArray) (hk : keys.size ≤ 20) (m d : Nat) (h : m + (d + 1) = keys.size) : RowOk L keys d (tbl L keys m) := by
  refine ⟨by rw [tbl_length]; omega, fun j hj => ?_⟩
  obtain ⟨g1, g2, g3⟩ := tbl_good hd keys m (by omega) j hj
  exact ⟨g1, Int.le_trans g2 (pow_small _ (by omega)), by omega⟩
theorem row_small {L : List ByteArray} (hd : dictB L = true) (keys : ByteArray) (hk : keys.size ≤ 20) (m d : Nat) (h : m + (d + 1) = keys.size) : (rowf keys d (tbl L keys m) L 0 (-1)).1 ≤ 4000000000000000 := by
  have := (tbl_good hd keys (m + 1) (by omega) 0 (by rw [tbl_length]; omega)).2.1
  have e : (tbl L keys (m + 1))[0]'(by rw [tbl_length]; omega) = rowf keys (keys.size - (m + 1)) (tbl L keys m) L 0 (-1) := rfl
  rw [e, show keys.size - (m + 1) = d by omega] at this
  exact Int.le_trans this (pow_small _ (by omega))
theorem rep_last (d : Nat) (x : Int) (T : List Int) : List.replicate (d + 1) x ++ T = List.replicate d x ++ x :: T := by
  rw [List.replicate_succ', List.append_assoc, List.singleton_append]
theorem wdTables_l0 (L : List ByteArray) (hd : dictB L = true) (keys : ByteArray) (hk : keys.size ≤ 20) : ∀ (d m : Nat), m + d = keys.size →
    Ev (fun k => spec_wdTables.l0 k L keys (List.replicate d 0 ++ (tbl L keys m).map Prod.fst) (List.replicate d 0 ++ (tbl L keys m).map Prod.snd) ((d : Int) - 1)) ((tbl L keys keys.size).map Prod.fst, (tbl L keys keys.size).map Prod.snd)
  | 0, m, h => by
    obtain rfl : m = keys.size := by omega
    refine ev_from 0 fun k _ => ?_
    simp only [spec_wdTables.l0]
    rw [if_neg (by omega)]
    rfl
  | d + 1, m, h => by
    have hr := wdTables_l0 L hd keys hk d (m + 1) (by omega)
    rw [tbl, show keys.size - (m + 1) = d by omega, List.map_cons, List.map_cons] at hr
    have hl := dict_length hd
    have hT := row_ok hd keys hk m d h
    obtain ⟨K, e⟩ := wdTables_l1 L hd keys hk d (by omega) (tbl L keys m) hT (List.replicate d 0) (List.replicate d 0) (by simp) (by simp) _ hr (row_small hd keys hk m d h) L.length 0 0 (-1) (by omega) (by rw [List.drop_zero]) (by omega) (by omega) (by omega) (by omega)
    refine ev_from K fun k hk' => ?_
    have e := e k hk'
    dsimp only at e
    simp only [spec_wdTables.l0]
    rw [show ((d + 1 : Nat) : Int) - 1 = (d : Int) by omega, if_pos (by omega), if_pos (by omega), if_pos (by rw [List.length_append, List.length_replicate]; omega), Int.toNat_natCast, rep_last, rep_last, set_at _ _ _ _ d (by simp)]
    exact e
theorem wdTables_ev (L : List ByteArray) (hd : dictB L = true) (keys : ByteArray) (hk : keys.size ≤ 20) : Ev (fun k => spec_wdTables.f k L keys) ((tbl L keys keys.size).map Prod.fst, (tbl L keys keys.size).map Prod.snd) := by
  obtain ⟨K, e⟩ := wdTables_l0 L hd keys hk keys.size 0 (by omega)
  refine ⟨K, fun k hk' => ?_⟩
  have e := e k hk'
  dsimp only at e ⊢
  unfold spec_wdTables.f
  have hs : List.replicate (keys.size + 1) (0 : Int) = List.replicate keys.size 0 ++ 0 :: [] := by rw [← rep_last, List.append_nil]
  rw [wr (x := (keys.size : Int) + 1) (by omega) (by omega), if_pos (by omega), show ((keys.size : Int) + 1).toNat = keys.size + 1 by omega, if_pos (by omega), bsome, if_pos (by omega), if_pos (by rw [List.length_replicate]; omega), Int.toNat_natCast, hs, set_at _ _ _ _ keys.size (by simp), wr (by omega) (by omega)]
  exact e
theorem splits_l0 (L : List ByteArray) (hd : dictB L = true) (keys : ByteArray) (hk : keys.size ≤ 20) : ∀ (d m : Nat), m + d = keys.size →
    Ev (fun k => impl_splits.l0 k L keys (List.replicate d 0 ++ (tbl L keys m).map Prod.fst) (List.replicate d (-1) ++ (tbl L keys m).map Prod.snd) ((d : Int) - 1)) ((tbl L keys keys.size).map Prod.fst, (tbl L keys keys.size).map Prod.snd)
  | 0, m, h => by
    obtain rfl : m = keys.size := by omega
    refine ev_from 0 fun k _ => ?_
    simp only [impl_splits.l0]
    rw [if_neg (by omega)]
    rfl
  | d + 1, m, h => by
    have hr := splits_l0 L hd keys hk d (m + 1) (by omega)
    rw [tbl, show keys.size - (m + 1) = d by omega, List.map_cons, List.map_cons] at hr
    have hl := dict_length hd
    have hT := row_ok hd keys hk m d h
    obtain ⟨K, e⟩ := splits_l1 L hd keys hk d (by omega) (tbl L keys m) hT (List.replicate d 0) (List.replicate d (-1)) (by simp) (by simp) _ hr (row_small hd keys hk m d h) L.length 0 0 (-1) (by omega) (by rw [List.drop_zero]) (by omega) (by omega) (by omega) (by omega)
    refine ev_from K fun k hk' => ?_
    have e := e k hk'
    dsimp only at e
    simp only [impl_splits.l0]
    rw [show ((d + 1 : Nat) : Int) - 1 = (d : Int) by omega, if_pos (by omega), rep_last, rep_last]
    exact e
theorem splits_ev (L : List ByteArray) (hd : dictB L = true) (keys : ByteArray) (hk : keys.size ≤ 20) : Ev (fun k => impl_splits.f k L keys) ((tbl L keys keys.size).map Prod.fst, (tbl L keys keys.size).map Prod.snd) := by
  obtain ⟨K, e⟩ := splits_l0 L hd keys hk keys.size 0 (by omega)
  refine ⟨K, fun k hk' => ?_⟩
  have e := e k hk'
  dsimp only at e ⊢
  unfold impl_splits.f slices_Repeat_int_int.f
  have hs : List.replicate (keys.size + 1) (0 : Int) = List.replicate keys.size 0 ++ 0 :: [] := by rw [← rep_last, List.append_nil]
  have hs' : List.replicate (keys.size + 1) (-1 : Int) = List.replicate keys.size (-1) ++ (-1) :: [] := by rw [← rep_last, List.append_nil]
  have hrd : rd ([(-1)] : List Int) 0 = -1 := rfl
  rw [wr (x := (keys.size : Int) + 1) (by omega) (by omega), if_pos (by omega), show ((keys.size : Int) + 1).toNat = keys.size + 1 by omega, if_pos (by omega), bsome, if_pos (show ([(-1)] : List Int).length = 1 from rfl), if_pos (by omega), if_pos (by omega), hrd, bsome, if_pos (by omega), if_pos (by rw [List.length_replicate]; omega), if_pos (by rw [List.length_replicate]; omega), Int.toNat_natCast, hs, hs', set_at _ _ _ _ keys.size (by simp), set_at _ _ _ _ keys.size (by simp), wr (by omega) (by omega)]
  exact e
def headT (L : List ByteArray) (keys : ByteArray) : Int × Int := (tbl L keys keys.size).getD 0 (0, -1)
theorem head_good {L : List ByteArray} (hd : dictB L = true) (keys : ByteArray) : (0 < (headT L keys).1 ∧ 0 ≤ (headT L keys).2) ∨ headT L keys = (0, -1) := by
  have h0 : 0 < (tbl L keys keys.size).length := by rw [tbl_length]; omega
  unfold headT
  rw [getD_lt h0]
  exact (tbl_good hd keys keys.size (Nat.le_refl _) 0 h0).1
theorem head_fst (L : List ByteArray) (keys : ByteArray) : rd ((tbl L keys keys.size).map Prod.fst) 0 = (headT L keys).1 := fst_getD _ 0 (by rw [tbl_length]; omega)
theorem head_snd (L : List ByteArray) (keys : ByteArray) : rd ((tbl L keys keys.size).map Prod.snd) 0 = (headT L keys).2 := snd_getD _ 0 (by rw [tbl_length]; omega)
end Go.Proofs.YtclnjlnpconjmaaDoor.Pu
end

section
namespace Go.Proofs.YtclnjlnpconjmaaDoor.Pu
open Go.RowKit Go.Proofs.YtclnjlnpconjmaaDoor.P Go.Proofs.YtclnjlnpconjmaaDoorW.PrintWords Go.Proofs.YtclnjlnpconjmaaDoorW.PrintLast Go.Proofs.YtclnjlnpconjmaaDoorW.PrintMore
def entT (L : List ByteArray) (keys : ByteArray) (i : Nat) : Int × Int := (tbl L keys keys.size).getD i (0, -1)
theorem tbl_shift (L : List ByteArray) (keys : ByteArray) : ∀ (d m j : Nat), (tbl L keys (m + d)).getD (d + j) (0, -1) = (tbl L keys m).getD j (0, -1)
  | 0, m, j => by rw [Nat.add_zero, Nat.zero_add]
  | d + 1, m, j => by
    rw [show m + (d + 1) = (m + d) + 1 from rfl, tbl, show d + 1 + j = (d + j) + 1 by omega, List.getD_cons_succ]
    exact tbl_shift L keys d m j
theorem ent_row (L : List ByteArray) (keys : ByteArray) (i : Nat) (hi : i < keys.size) : entT L keys i = rowf keys i (tbl L keys (keys.size - (i + 1))) L 0 (-1) := by
  unfold entT
  have h := tbl_shift L keys i (keys.size - i) 0
  rw [show keys.size - i + i = keys.size by omega, Nat.add_zero] at h
  rw [h, show keys.size - i = (keys.size - (i + 1)) + 1 by omega, tbl, List.getD_cons_zero, show keys.size - (keys.size - (i + 1) + 1) = i by omega]
theorem ent_behind (L : List ByteArray) (keys : ByteArray) (i s : Nat) (hs : 1 ≤ s) (h : i + s ≤ keys.size) : (tbl L keys (keys.size - (i + 1))).getD (s - 1) (0, -1) = entT L keys (i + s) := by
  unfold entT
  have h := tbl_shift L keys (i + 1) (keys.size - (i + 1)) (s - 1)
  rw [show keys.size - (i + 1) + (i + 1) = keys.size by omega, show i + 1 + (s - 1) = i + s by omega] at h
  exact h.symm
theorem ent_good {L : List ByteArray} (hd : dictB L = true) (keys : ByteArray) (hk : keys.size ≤ 20) (i : Nat) (hi : i ≤ keys.size) :
    ((0 < (entT L keys i).1 ∧ 0 ≤ (entT L keys i).2) ∨ entT L keys i = (0, -1)) ∧ (entT L keys i).1 ≤ 4000000000000000 ∧ (entT L keys i).2 ≤ 20 := by
  have hl : i < (tbl L keys keys.size).length := by rw [tbl_length]; omega
  obtain ⟨g1, g2, g3⟩ := tbl_good hd keys keys.size (Nat.le_refl _) i hl
  unfold entT
  rw [getD_lt hl]
  exact ⟨g1, Int.le_trans g2 (pow_small _ (by omega)), by omega⟩
theorem rd_ent1 (L : List ByteArray) (keys : ByteArray) (i : Nat) (hi : i ≤ keys.size) : rd ((tbl L keys keys.size).map Prod.fst) (i : Int) = (entT L keys i).1 := by
  unfold rd
  rw [Int.toNat_natCast]
  exact fst_getD _ i (by rw [tbl_length]; omega)
theorem rd_ent2 (L : List ByteArray) (keys : ByteArray) (i : Nat) (hi : i ≤ keys.size) : rd ((tbl L keys keys.size).map Prod.snd) (i : Int) = (entT L keys i).2 := by
  unfold rd
  rw [Int.toNat_natCast]
  exact snd_getD _ i (by rw [tbl_length]; omega)
theorem rowf_pick (keys : ByteArray) (i : Nat) (tb : List (Int × Int)) : ∀ (R : List ByteArray) (a b : Int), (∀ w ∈ R, okW keys i w = true → 0 < (tb.getD (w.size - 1) (0, -1)).1 → 0 ≤ (tb.getD (w.size - 1) (0, -1)).2) →
    rowf keys i tb R a b = (a, b) ∨ ((rowf keys i tb R a b).2 = b ∧ 0 ≤ b) ∨ ∃ w ∈ R, okW keys i w = true ∧ 0 < (tb.getD (w.size - 1) (0, -1)).1 ∧ (tb.getD (w.size - 1) (0, -1)).2 + 1 = (rowf keys i tb R a b).2
  | [], a, b, _ => Or.inl rfl
  | w :: R, a, b, h => by
    rw [rowf]
    split
    · rename_i hc
      have hp := h w List.mem_cons_self hc.1 hc.2
      have ih := rowf_pick keys i tb R (a + (tb.getD (w.size - 1) (0, -1)).1) (if b < 0 ∨ (tb.getD (w.size - 1) (0, -1)).2 + 1 < b then (tb.getD (w.size - 1) (0, -1)).2 + 1 else b) (fun x hx => h x (List.mem_cons_of_mem w hx))
      generalize rowf keys i tb R (a + (tb.getD (w.size - 1) (0, -1)).1) (if b < 0 ∨ (tb.getD (w.size - 1) (0, -1)).2 + 1 < b then (tb.getD (w.size - 1) (0, -1)).2 + 1 else b) = r at *
      have key : r.2 = (if b < 0 ∨ (tb.getD (w.size - 1) (0, -1)).2 + 1 < b then (tb.getD (w.size - 1) (0, -1)).2 + 1 else b) → (r.2 = b ∧ 0 ≤ b) ∨ ∃ x ∈ w :: R, okW keys i x = true ∧ 0 < (tb.getD (x.size - 1) (0, -1)).1 ∧ (tb.getD (x.size - 1) (0, -1)).2 + 1 = r.2 := by
        intro hr
        by_cases hb : b < 0 ∨ (tb.getD (w.size - 1) (0, -1)).2 + 1 < b
        · rw [if_pos hb] at hr
          exact Or.inr ⟨w, List.mem_cons_self, hc.1, hc.2, hr.symm⟩
        · rw [if_neg hb] at hr
          exact Or.inl ⟨hr, by omega⟩
      rcases ih with e | ⟨e, _⟩ | ⟨x, hx, h1, h2, h3⟩
      · exact Or.inr (key (by rw [e]))
      · exact Or.inr (key e)
      · exact Or.inr (Or.inr ⟨x, List.mem_cons_of_mem w hx, h1, h2, h3⟩)
    · rcases rowf_pick keys i tb R a b (fun x hx => h x (List.mem_cons_of_mem w hx)) with e | e | ⟨x, hx, h1⟩
      · exact Or.inl e
      · exact Or.inr (Or.inl e)
      · exact Or.inr (Or.inr ⟨x, List.mem_cons_of_mem w hx, h1⟩)
def goodW (L : List ByteArray) (keys : ByteArray) (few : Bool) (i : Nat) (w : ByteArray) : Bool := okW keys i w && (decide (0 < (entT L keys (i + w.size)).1) && (!few || decide ((entT L keys (i + w.size)).2 + 1 = (entT L keys i).2)))
theorem find_good {L : List ByteArray} (hd : dictB L = true) (keys : ByteArray) (hk : keys.size ≤ 20) (few : Bool) (i : Nat) (hi : i < keys.size) (hp : 0 < (entT L keys i).1) : ∃ w, L.find? (goodW L keys few i) = some w := by
  have hb : ∀ w ∈ L, okW keys i w = true → 1 ≤ w.size ∧ (tbl L keys (keys.size - (i + 1))).getD (w.size - 1) (0, -1) = entT L keys (i + w.size) := fun w hw ho => by
    have h1 := (okW_size ho).1
    have h2 := (short_size (dict_short hd w hw)).1
    exact ⟨h2, ent_behind L keys i w.size h2 h1⟩
  have hpk := rowf_pick keys i (tbl L keys (keys.size - (i + 1))) L 0 (-1) (fun w hw ho hpos => by
    have h1 := (okW_size ho).1
    rw [(hb w hw ho).2] at hpos ⊢
    rcases (ent_good hd keys hk (i + w.size) h1).1 with h | h
    · exact h.2
    · rw [h] at hpos; simp at hpos)
  rw [← ent_row L keys i hi] at hpk
  have hex : ∃ w ∈ L, goodW L keys few i w = true := by
    rcases hpk with e | ⟨_, e⟩ | ⟨w, hw, h1, h2, h3⟩
    · rw [e] at hp; simp at hp
    · omega
    · rw [(hb w hw h1).2] at h2 h3
      refine ⟨w, hw, ?_⟩
      unfold goodW
      rw [h1, decide_eq_true h2, decide_eq_true h3, Bool.or_true]
      rfl
  cases hf : L.find? (goodW L keys few i) with
  | some w => exact ⟨w, rfl⟩
  | none =>
    obtain ⟨w, hw, h⟩ := hex
    exact absurd h (by simpa using List.find?_eq_none.1 hf w hw)
theorem good_of {L : List ByteArray} {keys : ByteArray} {few : Bool} {i : Nat} {w : ByteArray} (h : L.find? (goodW L keys few i) = some w) : w ∈ L ∧ okW keys i w = true ∧ 0 < (entT L keys (i + w.size)).1 := by
  have h1 := List.find?_some h
  unfold goodW at h1
  simp only [Bool.and_eq_true, decide_eq_true_eq] at h1
  exact ⟨List.mem_of_find?_eq_some h, h1.1, h1.2.1⟩
def firstL (L : List ByteArray) (keys : ByteArray) (few : Bool) : Nat → Nat → List ByteArray → List ByteArray
  | 0, _, out => out
  | d + 1, i, out => if i < keys.size then (match L.find? (goodW L keys few i) with | some w => firstL L keys few d (i + w.size) (out ++ [w]) | none => out) else out
theorem firstL_length (L : List ByteArray) (keys : ByteArray) (few : Bool) : ∀ d i out, (firstL L keys few d i out).length ≤ out.length + d
  | 0, _, _ => Nat.le_refl _
  | d + 1, i, out => by
    rw [firstL]
    split
    · split
      · have := firstL_length L keys few d (i + ‹ByteArray›.size) (out ++ [‹ByteArray›])
        rw [List.length_append, List.length_singleton] at this
        omega
      · omega
    · omega
theorem firstL_step {L : List ByteArray} {keys : ByteArray} {few : Bool} {i : Nat} {w : ByteArray} (hi : i < keys.size) (h : L.find? (goodW L keys few i) = some w) (d : Nat) (out : List ByteArray) : firstL L keys few (d + 1) i out = firstL L keys few d (i + w.size) (out ++ [w]) := by
  rw [firstL, if_pos hi, h]
theorem wdFirst_l1 (L : List ByteArray) (hd : dictB L = true) (keys : ByteArray) (hk : keys.size ≤ 20) (few : Bool) (i : Nat) (hi : i < keys.size) (out : List ByteArray) (ho : out.length ≤ 1000) (w0 : ByteArray) (r : List ByteArray × Bool)
    (hr : Ev (fun k => spec_wdFirst.l0 k L keys few ((tbl L keys keys.size).map Prod.fst) ((tbl L keys keys.size).map Prod.snd) (out ++ [w0]) ((i : Int) + (w0.size : Int))) r) :
    ∀ (d t : Nat), t + d = L.length → (L.drop t).find? (goodW L keys few i) = some w0 → Ev (fun k => spec_wdFirst.l1 k L keys few ((tbl L keys keys.size).map Prod.fst) ((tbl L keys keys.size).map Prod.snd) out i L L.length t) r
  | 0, t, ht, hf => by
    obtain rfl : t = L.length := by omega
    rw [List.drop_length] at hf
    cases hf
  | d + 1, t, ht, hf => by
    have hl := dict_length hd
    have hs := dict_short hd _ (rds_mem L t (by omega))
    have hz := short_size hs
    generalize hw : rdOf ByteArray.empty L (t : Int) = w at *
    have hf' := hf
    rw [rds_drop L t (by omega), hw, List.find?_cons] at hf'
    have hks := keysN_size w
    obtain ⟨K0, e0⟩ := prKeys_ev w (by omega) (short_low hs)
    have hl1 : ((tbl L keys keys.size).map Prod.fst).length = keys.size + 1 := by rw [List.length_map, tbl_length]
    have hl2 : ((tbl L keys keys.size).map Prod.snd).length = keys.size + 1 := by rw [List.length_map, tbl_length]
    have next : goodW L keys few i w = false → Ev (fun k => spec_wdFirst.l1 k L keys few ((tbl L keys keys.size).map Prod.fst) ((tbl L keys keys.size).map Prod.snd) out i L L.length ((t : Int) + 1)) r := fun hg => by
      rw [hg] at hf'
      obtain ⟨K1, e1⟩ := wdFirst_l1 L hd keys hk few i hi out ho w0 r hr d (t + 1) (by omega) hf'
      exact ⟨K1, e1⟩
    by_cases hfit : i + w.size ≤ keys.size
    · have ee := ent_good hd keys hk (i + w.size) hfit
      have ei := ent_good hd keys hk i (by omega)
      have r1 : rd ((tbl L keys keys.size).map Prod.fst) ((i : Int) + (w.size : Int)) = (entT L keys (i + w.size)).1 := rd_ent1 L keys (i + w.size) hfit
      have r2 : rd ((tbl L keys keys.size).map Prod.snd) ((i : Int) + (w.size : Int)) = (entT L keys (i + w.size)).2 := rd_ent2 L keys (i + w.size) hfit
      have r3 := rd_ent2 L keys i (by omega)
      by_cases heq : (keysN w).toList = (keys.extract i (i + w.size)).toList
      · have hok : okW keys i w = true := by
          unfold okW
          rw [decide_eq_true hfit, heq, beq_self_eq_true]
          rfl
        by_cases hp : (entT L keys (i + w.size)).1 = 0
        · have hg : goodW L keys few i w = false := by
            unfold goodW
            rw [hok, decide_eq_false (by omega), Bool.false_and, Bool.and_false]
          obtain ⟨K1, e1⟩ := next hg
          refine ev_from (K0 + K1 + 1) fun k hk' => ?_
          have e0 := e0 k (by omega)
          have e1 := e1 k (by omega)
          dsimp only at e0 e1
          simp only [spec_wdFirst.l1]
          rw [if_pos (by omega), if_pos (by omega), if_pos (by omega), hw, wr (x := (i : Int) + (w.size : Int)) (by omega) (by omega), if_neg (by omega), e0, bsome, if_pos (by omega), if_pos (by omega), if_pos (by omega), Int.toNat_natCast, show ((i : Int) + (w.size : Int)).toNat = i + w.size by omega, if_pos heq, if_pos (by omega), if_pos (by omega), r1, if_pos hp, wr (x := (t : Int) + 1) (by omega) (by omega)]
          exact e1
        · have hpos : 0 < (entT L keys (i + w.size)).1 := by
            rcases ee.1 with h | h
            · exact h.1
            · rw [h] at hp; simp at hp
          have hw2 : wrap64 ((entT L keys (i + w.size)).2 + 1) = (entT L keys (i + w.size)).2 + 1 := wr (by rcases ee.1 with h | h <;> (try rw [h]) <;> omega) (by omega)
          have tail : goodW L keys few i w = true → Ev (fun k => spec_wdFirst.l0 k L keys few ((tbl L keys keys.size).map Prod.fst) ((tbl L keys keys.size).map Prod.snd) (out ++ [w]) ((i : Int) + (w.size : Int))) r := fun hg => by
            rw [hg] at hf'
            obtain rfl := Option.some.inj hf'
            exact hr
          cases few with
          | false =>
            have hg : goodW L keys false i w = true := by
              unfold goodW
              rw [hok, decide_eq_true hpos]
              rfl
            obtain ⟨K1, e1⟩ := tail hg
            refine ev_from (K0 + K1 + 1) fun k hk' => ?_
            have e0 := e0 k (by omega)
            have e1 := e1 k (by omega)
            dsimp only at e0 e1
            simp only [spec_wdFirst.l1]
            rw [if_pos (by omega), if_pos (by omega), if_pos (by omega), hw, wr (x := (i : Int) + (w.size : Int)) (by omega) (by omega), if_neg (by omega), e0, bsome, if_pos (by omega), if_pos (by omega), if_pos (by omega), Int.toNat_natCast, show ((i : Int) + (w.size : Int)).toNat = i + w.size by omega, if_pos heq, if_pos (by omega), if_pos (by omega), r1, if_neg hp, if_neg (by simp), if_pos (by omega)]
            exact e1
          | true =>
            by_cases hq : (entT L keys (i + w.size)).2 + 1 = (entT L keys i).2
            · have hg : goodW L keys true i w = true := by
                unfold goodW
                rw [hok, decide_eq_true hpos, decide_eq_true hq]
                rfl
              obtain ⟨K1, e1⟩ := tail hg
              refine ev_from (K0 + K1 + 1) fun k hk' => ?_
              have e0 := e0 k (by omega)
              have e1 := e1 k (by omega)
              dsimp only at e0 e1
              simp only [spec_wdFirst.l1]
              rw [if_pos (by omega), if_pos (by omega), if_pos (by omega), hw, wr (x := (i : Int) + (w.size : Int)) (by omega) (by omega), if_neg (by omega), e0, bsome, if_pos (by omega), if_pos (by omega), if_pos (by omega), Int.toNat_natCast, show ((i : Int) + (w.size : Int)).toNat = i + w.size by omega, if_pos heq, if_pos (by omega), if_pos (by omega), r1, if_neg hp, if_pos trivial, if_pos (by omega), if_pos (by omega), r2, r3, hw2, if_pos hq, if_pos (by omega)]
              exact e1
            · have hg : goodW L keys true i w = false := by
                unfold goodW
                rw [decide_eq_false hq]
                simp
              obtain ⟨K1, e1⟩ := next hg
              refine ev_from (K0 + K1 + 1) fun k hk' => ?_
              have e0 := e0 k (by omega)
              have e1 := e1 k (by omega)
              dsimp only at e0 e1
              simp only [spec_wdFirst.l1]
              rw [if_pos (by omega), if_pos (by omega), if_pos (by omega), hw, wr (x := (i : Int) + (w.size : Int)) (by omega) (by omega), if_neg (by omega), e0, bsome, if_pos (by omega), if_pos (by omega), if_pos (by omega), Int.toNat_natCast, show ((i : Int) + (w.size : Int)).toNat = i + w.size by omega, if_pos heq, if_pos (by omega), if_pos (by omega), r1, if_neg hp, if_pos trivial, if_pos (by omega), if_pos (by omega), r2, r3, hw2, if_neg hq, wr (x := (t : Int) + 1) (by omega) (by omega)]
              exact e1
      · have hg : goodW L keys few i w = false := by
          unfold goodW okW
          rw [beq_eq_false_iff_ne.2 heq, Bool.and_false, Bool.false_and]
        obtain ⟨K1, e1⟩ := next hg
        refine ev_from (K0 + K1 + 1) fun k hk' => ?_
        have e0 := e0 k (by omega)
        have e1 := e1 k (by omega)
        dsimp only at e0 e1
        simp only [spec_wdFirst.l1]
        rw [if_pos (by omega), if_pos (by omega), if_pos (by omega), hw, wr (x := (i : Int) + (w.size : Int)) (by omega) (by omega), if_neg (by omega), e0, bsome, if_pos (by omega), if_pos (by omega), if_pos (by omega), Int.toNat_natCast, show ((i : Int) + (w.size : Int)).toNat = i + w.size by omega, if_neg heq, wr (x := (t : Int) + 1) (by omega) (by omega)]
        exact e1
    · have hg : goodW L keys few i w = false := by
        unfold goodW okW
        rw [decide_eq_false hfit, Bool.false_and, Bool.false_and]
      obtain ⟨K1, e1⟩ := next hg
      refine ev_from (K0 + K1 + 1) fun k hk' => ?_
      have e1 := e1 k (by omega)
      dsimp only at e1
      simp only [spec_wdFirst.l1]
      rw [if_pos (by omega), if_pos (by omega), if_pos (by omega), hw, wr (x := (i : Int) + (w.size : Int)) (by omega) (by omega), if_pos (by omega), wr (x := (t : Int) + 1) (by omega) (by omega)]
      exact e1
theorem wdFirst_l0 (L : List ByteArray) (hd : dictB L = true) (keys : ByteArray) (hk : keys.size ≤ 20) (few : Bool) : ∀ (d i : Nat) (out : List ByteArray), keys.size - i ≤ d → i ≤ keys.size → 0 < (entT L keys i).1 → out.length + d ≤ 1000 →
    Ev (fun k => spec_wdFirst.l0 k L keys few ((tbl L keys keys.size).map Prod.fst) ((tbl L keys keys.size).map Prod.snd) out i) (firstL L keys few d i out, true)
  | 0, i, out, h1, h2, h3, h4 => by
    refine ev_from 0 fun k _ => ?_
    simp only [spec_wdFirst.l0]
    rw [if_neg (by omega)]
    rfl
  | d + 1, i, out, h1, h2, h3, h4 => by
    by_cases hi : i < keys.size
    · obtain ⟨w, hw⟩ := find_good hd keys hk few i hi h3
      obtain ⟨g1, g2, g3⟩ := good_of hw
      have hz := short_size (dict_short hd w g1)
      have hfit := (okW_size g2).1
      have ih := wdFirst_l0 L hd keys hk few d (i + w.size) (out ++ [w]) (by omega) hfit g3 (by rw [List.length_append, List.length_singleton]; omega)
      obtain ⟨K, e⟩ := wdFirst_l1 L hd keys hk few i hi out (by omega) w _ ih L.length 0 (by omega) (by rw [List.drop_zero]; exact hw)
      refine ev_from K fun k hk' => ?_
      have e := e k hk'
      dsimp only at e
      simp only [spec_wdFirst.l0]
      rw [if_pos (by omega), firstL_step hi hw]
      exact e
    · refine ev_from 0 fun k _ => ?_
      simp only [spec_wdFirst.l0]
      rw [if_neg (by omega), firstL, if_neg hi]
end Go.Proofs.YtclnjlnpconjmaaDoor.Pu
end

section
namespace Go.Proofs.YtclnjlnpconjmaaDoor.Pu
open Go.RowKit Go.Proofs.YtclnjlnpconjmaaDoor.P Go.Proofs.YtclnjlnpconjmaaDoorW.PrintWords Go.Proofs.YtclnjlnpconjmaaDoorW.PrintLast Go.Proofs.YtclnjlnpconjmaaDoorW.PrintMore
theorem qOf_ev (L : List ByteArray) (hd : dictB L = true) (keys : ByteArray) (hk : keys.size ≤ 20) (few : Bool) (i : Nat) (hi : i < keys.size) (w : ByteArray) (hw : w ∈ L) :
    Ev (fun k => impl_firstSplit.q k keys (i : Int) few ((tbl L keys keys.size).map Prod.snd) w) (goodW L keys few i w) := by
  have hs := dict_short hd w hw
  have hz := short_size hs
  obtain ⟨K0, e0⟩ := keysOf_ev w (by omega) (short_low hs)
  refine ⟨K0, fun k hk' => ?_⟩
  have e0 := e0 k hk'
  dsimp only at e0 ⊢
  have hpre : Lib.hasPrefix (keys.extract i keys.size).data.toList (keysN w).data.toList = okW keys i w := pre_ok keys i (by omega) w
  unfold impl_firstSplit.q
  rw [e0, bsome, Int.toNat_natCast, hasPre_is, bsome, hpre]
  cases hok : okW keys i w with
  | false =>
    rw [if_neg (by simp)]
    unfold goodW
    rw [hok, Bool.false_and]
  | true =>
    have hfit := (okW_size hok).1
    have ee := ent_good hd keys hk (i + w.size) hfit
    have ei := ent_good hd keys hk i (by omega)
    have r2 : rd ((tbl L keys keys.size).map Prod.snd) ((i : Int) + (w.size : Int)) = (entT L keys (i + w.size)).2 := rd_ent2 L keys (i + w.size) hfit
    have r3 := rd_ent2 L keys i (by omega)
    have hl2 : ((tbl L keys keys.size).map Prod.snd).length = keys.size + 1 := by rw [List.length_map, tbl_length]
    have d1 : decide (0 ≤ (entT L keys (i + w.size)).2) = decide (0 < (entT L keys (i + w.size)).1) := by
      rcases ee.1 with h | h
      · rw [decide_eq_true h.1, decide_eq_true h.2]
      · rw [h]; rfl
    have d2 : ((entT L keys (i + w.size)).2 == (entT L keys i).2 - 1) = decide ((entT L keys (i + w.size)).2 + 1 = (entT L keys i).2) := by
      by_cases hq : (entT L keys (i + w.size)).2 + 1 = (entT L keys i).2
      · rw [decide_eq_true hq]
        exact beq_iff_eq.2 (by omega)
      · rw [decide_eq_false hq]
        exact beq_eq_false_iff_ne.2 (by omega)
    have hm : -1 ≤ (entT L keys i).2 := by
      rcases ei.1 with h | h
      · omega
      · rw [h]; decide
    rw [if_pos rfl, wr (x := (i : Int) + (w.size : Int)) (by omega) (by omega), if_pos (by omega), if_pos (by omega), r2, r3, wr (x := (entT L keys i).2 - 1) (by omega) (by omega), d1, d2]
    unfold goodW
    rw [hok, Bool.true_and]
theorem idxO_ev (q : Nat → ByteArray → Option Bool) (p : ByteArray → Bool) : ∀ (l : List ByteArray) (i : Nat), (∀ x ∈ l, Ev (fun k => q k x) (p x)) → Ev (fun k => impl_firstSplit.idxO (q k) l i) (Go.Proofs.YtclnjlnpconjmaaDoor.Pick.idxP p l i)
  | [], i, _ => ⟨0, fun k _ => rfl⟩
  | x :: l, i, h => by
    obtain ⟨K1, e1⟩ := h x List.mem_cons_self
    obtain ⟨K2, e2⟩ := idxO_ev q p l (i + 1) (fun y hy => h y (List.mem_cons_of_mem x hy))
    refine ⟨K1 + K2, fun k hk => ?_⟩
    have e1 := e1 k (by omega)
    have e2 := e2 k (by omega)
    dsimp only at e1 e2 ⊢
    rw [impl_firstSplit.idxO, e1, bsome, e2, bsome, Go.Proofs.YtclnjlnpconjmaaDoor.Pick.idxP]
theorem idx_find {p : ByteArray → Bool} {l : List ByteArray} {w : ByteArray} (h : l.find? p = some w) : ∃ j : Nat, j < l.length ∧ Go.Proofs.YtclnjlnpconjmaaDoor.Pick.idxP p l 0 = (j : Int) ∧ rdOf ByteArray.empty l (j : Int) = w := by
  rcases Go.Proofs.YtclnjlnpconjmaaDoor.Pick.idxP_spec p l 0 with ⟨_, ha⟩ | ⟨A, x, R, hl, e1, ha, hx⟩
  · have := List.find?_some h
    rw [ha w (List.mem_of_find?_eq_some h)] at this
    cases this
  · subst hl
    have hf : (A ++ x :: R).find? p = some x := by
      rw [List.find?_append, List.find?_eq_none.2 (fun y hy => by rw [ha y hy]; simp), List.find?_cons, hx]
      rfl
    rw [hf] at h
    obtain rfl := Option.some.inj h
    exact ⟨A.length, by rw [List.length_append, List.length_cons]; omega, by rw [e1, Nat.zero_add], rds_mid A x R⟩
theorem go_ev (L : List ByteArray) (hd : dictB L = true) (keys : ByteArray) (hk : keys.size ≤ 20) (few : Bool) : ∀ (d i : Nat) (out : List ByteArray), keys.size - i ≤ d → i ≤ keys.size → 0 < (entT L keys i).1 → out.length + d ≤ 1000 →
    ∃ K, ∀ k g, K ≤ k → K ≤ g → impl_firstSplit.go k L keys few ((tbl L keys keys.size).map Prod.snd) g out (i : Int) = some (firstL L keys few d i out, true)
  | 0, i, out, h1, h2, h3, h4 => by
    refine ⟨1, fun k g _ hg => ?_⟩
    obtain ⟨g, rfl⟩ : ∃ m, g = m + 1 := ⟨g - 1, by omega⟩
    rw [impl_firstSplit.go, if_neg (by omega)]
    rfl
  | d + 1, i, out, h1, h2, h3, h4 => by
    by_cases hi : i < keys.size
    · obtain ⟨w, hw⟩ := find_good hd keys hk few i hi h3
      obtain ⟨g1, g2, g3⟩ := good_of hw
      have hz := short_size (dict_short hd w g1)
      have hfit := (okW_size g2).1
      obtain ⟨K1, e1⟩ := go_ev L hd keys hk few d (i + w.size) (out ++ [w]) (by omega) hfit g3 (by rw [List.length_append, List.length_singleton]; omega)
      obtain ⟨K2, e2⟩ := idxO_ev (fun k x => impl_firstSplit.q k keys (i : Int) few ((tbl L keys keys.size).map Prod.snd) x) (goodW L keys few i) L 0 (fun x hx => qOf_ev L hd keys hk few i hi x hx)
      obtain ⟨j, hj, hje, hjr⟩ := idx_find hw
      rw [hje] at e2
      have hl2 : ((tbl L keys keys.size).map Prod.snd).length = keys.size + 1 := by rw [List.length_map, tbl_length]
      refine ⟨K1 + K2 + 1, fun k g hk' hg => ?_⟩
      obtain ⟨g, rfl⟩ : ∃ m, g = m + 1 := ⟨g - 1, by omega⟩
      have e1 := e1 k g (by omega) (by omega)
      have e2 : impl_firstSplit.idxO (impl_firstSplit.q k keys (i : Int) few ((tbl L keys keys.size).map Prod.snd)) L 0 = some (j : Int) := e2 k (by omega)
      rw [impl_firstSplit.go, if_pos (by omega), if_pos (by omega), if_pos (by omega), e2, bsome, if_pos (by omega), if_pos (by omega), if_pos (by omega), hjr, wr (x := (i : Int) + (w.size : Int)) (by omega) (by omega), firstL_step hi hw]
      exact e1
    · refine ⟨1, fun k g _ hg => ?_⟩
      obtain ⟨g, rfl⟩ : ∃ m, g = m + 1 := ⟨g - 1, by omega⟩
      rw [impl_firstSplit.go, if_neg (by omega), firstL, if_neg hi]
def firstT (L : List ByteArray) (keys : ByteArray) (few : Bool) : List ByteArray × Bool := if askedB L keys = true ∧ 0 < (headT L keys).1 then (firstL L keys few keys.size 0 [], true) else ([], false)
theorem firstT_length (L : List ByteArray) (keys : ByteArray) (few : Bool) : (firstT L keys few).1.length ≤ 1048576 := by
  unfold firstT
  split
  · rename_i h
    have h1 := (askedB_iff h.1).2
    have := firstL_length L keys few keys.size 0 []
    rw [List.length_nil] at this
    show (firstL L keys few keys.size 0 []).length ≤ 1048576
    omega
  · simp
theorem wdFirst_ev (L : List ByteArray) (hd : dictB L = true) (keys : ByteArray) (hk : keys.size ≤ 20) (few : Bool) : Ev (fun k => spec_wdFirst.f k L keys few) (if 0 < (headT L keys).1 then (firstL L keys few keys.size 0 [], true) else ([], false)) := by
  obtain ⟨K1, e1⟩ := wdTables_ev L hd keys hk
  rcases head_good hd keys with h | h
  · obtain ⟨K2, e2⟩ := wdFirst_l0 L hd keys hk few keys.size 0 [] (by omega) (by omega) h.1 (by rw [List.length_nil]; omega)
    refine ⟨K1 + K2, fun k hk' => ?_⟩
    have e1 := e1 k (by omega)
    have e2 := e2 k (by omega)
    dsimp only at e1 e2 ⊢
    unfold spec_wdFirst.f
    rw [e1, bsome, if_pos (by rw [List.length_map, tbl_length]; omega), head_fst, if_neg (by omega), if_pos h.1]
    exact e2
  · refine ⟨K1, fun k hk' => ?_⟩
    have e1 := e1 k (by omega)
    dsimp only at e1 ⊢
    unfold spec_wdFirst.f
    rw [e1, bsome, if_pos (by rw [List.length_map, tbl_length]; omega), head_fst, h, if_pos rfl, if_neg (by simp)]
theorem firstSplit_ev (L : List ByteArray) (hl : L.length ≤ 1099511627776) (hL : ∀ x ∈ L, x.size ≤ 140737488351232) (keys : ByteArray) (hk : keys.size ≤ 140737488351232) (few : Bool) : Ev (fun k => impl_firstSplit.f k L keys few) (firstT L keys few) := by
  obtain ⟨K1, e1⟩ := splitOk_ev L hl hL keys hk
  unfold firstT
  cases hb : askedB L keys with
  | false => exact ⟨K1, fun k hk' => by have e1 := e1 k hk'; rw [hb] at e1; dsimp only at e1 ⊢; unfold impl_firstSplit.f; rw [e1, bsome, if_neg (by simp), if_neg (by simp)]⟩
  | true =>
    obtain ⟨hd, hz⟩ := askedB_iff hb
    have hdl := dict_length hd
    obtain ⟨K2, e2⟩ := splits_ev L hd keys hz
    rcases head_good hd keys with h | h
    · obtain ⟨K3, e3⟩ := go_ev L hd keys hz few keys.size 0 [] (by omega) (by omega) h.1 (by rw [List.length_nil]; omega)
      refine ⟨K1 + K2 + K3, fun k hk' => ?_⟩
      have e1 := e1 k (by omega)
      have e2 := e2 k (by omega)
      have e3 := e3 k k (by omega) (by omega)
      rw [hb] at e1
      dsimp only at e1 e2 ⊢
      unfold impl_firstSplit.f
      rw [e1, bsome, if_pos rfl, e2, bsome, if_pos (by rw [List.length_map, tbl_length]; omega), head_snd, if_neg (by omega), if_pos (by omega), if_pos (by omega), if_pos ⟨rfl, h.1⟩]
      exact e3
    · refine ⟨K1 + K2, fun k hk' => ?_⟩
      have e1 := e1 k (by omega)
      have e2 := e2 k (by omega)
      rw [hb] at e1
      dsimp only at e1 e2 ⊢
      unfold impl_firstSplit.f
      rw [e1, bsome, if_pos rfl, e2, bsome, if_pos (by rw [List.length_map, tbl_length]; omega), head_snd, h, if_pos (by decide), if_neg (by simp)]
theorem sFirstFewest_ev (L : List ByteArray) (hl : L.length ≤ 1099511627776) (hL : ∀ x ∈ L, x.size ≤ 140737488351232) (keys : ByteArray) (hk : keys.size ≤ 140737488351232) : Ev (fun k => spec_FirstFewest.f k L keys) (firstT L keys true) := by
  obtain ⟨K1, e1⟩ := wdAsked_ev L hl hL keys hk
  unfold firstT
  cases hb : askedB L keys with
  | false => exact ⟨K1, fun k hk' => by have e1 := e1 k hk'; rw [hb] at e1; dsimp only at e1 ⊢; unfold spec_FirstFewest.f; rw [e1, bsome, if_neg (by simp), if_neg (by simp)]⟩
  | true =>
    obtain ⟨hd, hz⟩ := askedB_iff hb
    obtain ⟨K2, e2⟩ := wdFirst_ev L hd keys hz true
    refine ⟨K1 + K2, fun k hk' => ?_⟩
    have e1 := e1 k (by omega)
    have e2 := e2 k (by omega)
    rw [hb] at e1
    dsimp only at e1 e2 ⊢
    unfold spec_FirstFewest.f
    rw [e1, bsome, if_pos rfl, e2, bsome]
    by_cases h : 0 < (headT L keys).1
    · rw [if_pos h, if_pos ⟨rfl, h⟩]
    · rw [if_neg h, if_neg (fun h' => h h'.2)]
theorem iFirstFewest_ev (L : List ByteArray) (hl : L.length ≤ 1099511627776) (hL : ∀ x ∈ L, x.size ≤ 140737488351232) (keys : ByteArray) (hk : keys.size ≤ 140737488351232) : Ev (fun k => impl_FirstFewest.f k L keys) (firstT L keys true) := by
  obtain ⟨K1, e1⟩ := firstSplit_ev L hl hL keys hk true
  refine ⟨K1, fun k hk' => ?_⟩
  have e1 := e1 k hk'
  dsimp only at e1 ⊢
  unfold impl_FirstFewest.f
  rw [e1, bsome]
end Go.Proofs.YtclnjlnpconjmaaDoor.Pu
end

