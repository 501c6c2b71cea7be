/-
  slices.IndexFunc, slices.DeleteFunc and the program's own 'picked' over rows of strings, where the function value may grow the heap (the shelf's contracts ask that it lays nothing): walked here. Conditions: each theorem's own.
-/
import Derived.Test.YtdkdpiihapmfbaaDoorStrs
import Derived.Test.YtdkdpiihapmfbaaDoorShelf
import Derived.Test.YtdkdpiihapmfbaaDoorWAt
import Derived.Test.YtdkdpiihapmfbaaDoorWKept
import Derived.Deep.LoopGhost
import Derived.Deep.RegionHeld3
import Derived.Lib.SliceRun
import Derived.WalkKit
import Derived.KernelRfl
import Derived.RowKit
import Derived.Below
import Derived.Tactics
namespace Go.Proofs.YtdkdpiihapmfbaaDoor.Pick
open Go.RowKit Go.Proofs.YtdkdpiihapmfbaaDoorW.PrintWords Go.Proofs.YtdkdpiihapmfbaaDoorW.PrintLast Go.Proofs.YtdkdpiihapmfbaaDoorW.PrintMore

/-! ### strings of which a question that may have no answer says yes -/
def pickO (q : ByteArray → Option Bool) : List ByteArray → Option (List ByteArray)
  | [] => some []
  | x :: l => (q x).bind fun b => (pickO q l).bind fun r => some (if b = true then x :: r else r)
def ppO (q : ByteArray → Option Bool) (x : ByteArray) : Bool := (q x).getD false
theorem pickO_spec {q : ByteArray → Option Bool} : ∀ {l r : List ByteArray}, pickO q l = some r → (∀ x ∈ l, q x = some (ppO q x)) ∧ r = l.filter (ppO q)
  | [], r, h => ⟨by simp, (Option.some.inj h).symm⟩
  | x :: l, r, h => by
    rw [pickO] at h
    obtain ⟨b, hb, h⟩ := Option.bind_eq_some_iff.1 h
    obtain ⟨r0, h0, h⟩ := Option.bind_eq_some_iff.1 h
    obtain ⟨h1, h2⟩ := pickO_spec h0
    have hp : ppO q x = b := by unfold ppO; rw [hb]; rfl
    refine ⟨fun y hy => ?_, ?_⟩
    · rcases List.mem_cons.1 hy with rfl | hy
      · rw [hp, hb]
      · exact h1 y hy
    · rw [← Option.some.inj h, List.filter_cons, hp, h2]
theorem pickO_mono {q q' : ByteArray → Option Bool} (hq : ∀ x, LeO (q x) (q' x)) : ∀ (l : List ByteArray), LeO (pickO q l) (pickO q' l)
  | [], r, h => h
  | x :: l, r, h => by
    rw [pickO] at h ⊢
    obtain ⟨b, hb, h⟩ := Option.bind_eq_some_iff.1 h
    obtain ⟨r0, h0, h⟩ := Option.bind_eq_some_iff.1 h
    rw [hq x b hb, Option.bind_some, pickO_mono hq l r0 h0, Option.bind_some]
    exact h

/-! ### the library's walks -/
/-- The place of the first string of which p holds, or -1. -/
def idxP (p : ByteArray → Bool) : List ByteArray → Nat → Int
  | [], _ => -1
  | x :: l, i => if p x = true then (i : Int) else idxP p l (i + 1)
/-- slices.IndexFunc where the function value may grow the heap. -/
theorem index_grow (Inv : World → Prop) (hG : ∀ W W', Inv W → Below W.heap.size W W' → Inv W') (p : ByteArray → Bool) (g : Nat) (lb : Array Value) (eg : ∀ args w, (callFunc g args).run Tryd.prog w = .ok (.enter g args) w)
    (rb c : Nat) (l : List ByteArray) (w : World) (hC : ∀ W, ∀ x ∈ l, Inv W → Calls Tryd.prog g (#[.string x] ++ lb) W fun e w' => e = .returned (.bool (p x)) ∧ Below W.heap.size W w')
    (hI : Inv w) (hn : l.length ≤ 9223372036854775807) (hc : ∀ j, j < l.length → w.cell? ⟨rb, j, none⟩ = some (.string (rdOf ByteArray.empty l j))) :
    Calls Tryd.prog 124 #[.slice (some ⟨rb, 0, none⟩) l.length c, .func (.func g) #[] lb] w fun e w' => e = .returned (.int .i64 (idxP p l 0)) ∧ Below w.heap.size w w' := by
  go_enter Tryd.func124, Tryd.ntmps124
  go_wp2
  go_loopg [5, 8] l.length (fun gg _ s8 wr => ∃ kk : Nat, kk ≤ l.length ∧ l.length - kk ≤ gg ∧ s8 = .int .i64 kk ∧ Aside0 (Inv wr) ∧ Aside0 (Below w.heap.size w wr) ∧ Aside0 (idxP p l 0 = idxP p (l.drop kk) kk))
  case atStart => exact ⟨0, Nat.zero_le _, by omega, rfl, ⟨hI⟩, ⟨Below.refl _ _⟩, ⟨by rw [List.drop_zero]⟩⟩
  case round =>
    obtain ⟨kk, hkk, hg, rfl, HI, HB, HA⟩ := hrel
    by_cases hlt : kk < l.length
    · have hltz : (kk : Int) < (l.length : Int) := by omega
      have hcell : wr.cell? ⟨rb, kk, none⟩ = some (.string (rdOf ByteArray.empty l kk)) := (HB.out.cell (World.block_lt_of_cell? _ _ (hc kk hlt))).trans (hc kk hlt)
      have hd : l.drop kk = rdOf ByteArray.empty l kk :: l.drop (kk + 1) := by
        rw [List.drop_eq_getElem_cons hlt, rdOf, Int.toNat_natCast, List.getD_eq_getElem?_getD, List.getElem?_eq_getElem hlt]
        rfl
      have hm : rdOf ByteArray.empty l kk ∈ l := List.mem_of_mem_drop (i := kk) (by rw [hd]; exact List.mem_cons_self)
      have hcall := hC wr _ hm HI.out
      have HD : Aside0 (l.drop kk = rdOf ByteArray.empty l kk :: l.drop (kk + 1)) := ⟨hd⟩
      clear hd hm
      generalize hy : rdOf ByteArray.empty l (kk : Int) = y at hcell hcall HD
      cases hq : p y with
      | true =>
        rw [hq] at hcall
        go_wp2_with (go_at_fn g; refine hcall.mono ?_; rintro e w' ⟨rfl, hb⟩)
        go_ret
        refine ⟨?_, below_step HB.out hb⟩
        rw [HA.out, HD.out, idxP, if_pos hq]
        rfl
      | false =>
        rw [hq] at hcall
        go_wp2_with (go_at_fn g; refine hcall.mono ?_; rintro e w' ⟨rfl, hb⟩)
        go_roundg (l.length - (kk + 1))
        case measure => omega
        case rel =>
          refine ⟨kk + 1, by omega, by omega, by go_num, ⟨hG _ _ HI.out hb⟩, ⟨below_step HB.out hb⟩, ⟨?_⟩⟩
          rw [HA.out, HD.out, idxP, hq, if_neg (by simp)]
    · have hltz : ¬ (kk : Int) < (l.length : Int) := by omega
      have : kk = l.length := by omega
      subst this
      go_wp2
      go_ret
      refine ⟨?_, HB.out⟩
      rw [HA.out, List.drop_length, idxP]
      rfl
theorem idxP_spec (p : ByteArray → Bool) : ∀ (l : List ByteArray) (i : Nat), (idxP p l i = -1 ∧ ∀ x ∈ l, p x = false) ∨ ∃ A x R, l = A ++ x :: R ∧ idxP p l i = ((i + A.length : Nat) : Int) ∧ (∀ y ∈ A, p y = false) ∧ p x = true
  | [], _ => .inl ⟨rfl, by simp⟩
  | y :: l, i => by
    cases h : p y with
    | true => exact .inr ⟨[], y, l, rfl, by rw [idxP, if_pos h]; rfl, by simp, h⟩
    | false =>
      have e0 : idxP p (y :: l) i = idxP p l (i + 1) := by rw [idxP, h, if_neg (by simp)]
      rcases idxP_spec p l (i + 1) with ⟨e, ha⟩ | ⟨A, x, R, rfl, e, ha, hx⟩
      · refine .inl ⟨by rw [e0, e], fun x hx => ?_⟩
        rcases List.mem_cons.1 hx with rfl | hx
        · exact h
        · exact ha x hx
      · refine .inr ⟨y :: A, x, R, rfl, ?_, fun z hz => ?_, hx⟩
        · rw [e0, e, List.length_cons]
          congr 1
          omega
        · rcases List.mem_cons.1 hz with rfl | hz
          · exact h
          · exact ha z hz
theorem own_setCells {base g n cap : Nat} {e : TypeId} : ∀ (vs : List ByteArray) (o : Nat) (W : World) (zs : List ByteArray), W.ownsRow base e 1 (.slice (some ⟨g, 0, none⟩) n cap) n (encs Value.string zs) →
    ∃ zs', (W.setCells g o (vs.map Value.string)).ownsRow base e 1 (.slice (some ⟨g, 0, none⟩) n cap) n (encs Value.string zs') ∧ zs'.take o = zs.take o
  | [], _, _, zs, h => ⟨zs, h, rfl⟩
  | v :: vs, o, W, zs, h => by
    have h1 := (own_store_of h (o : Int) v).1
    rw [Int.toNat_natCast] at h1
    obtain ⟨zs', h2, h3⟩ := own_setCells vs (o + 1) _ _ h1
    refine ⟨zs', h2, ?_⟩
    have := congrArg (List.take o) h3
    rw [List.take_take, List.take_take, Nat.min_eq_left (Nat.le_succ o)] at this
    rw [this, List.take_set_of_le (Nat.le_refl o)]
theorem below_setCells {w : World} {g : Nat} (hg : w.heap.size ≤ g) : ∀ (vs : List Value) (o : Nat) (W : World), Below w.heap.size w W → Below w.heap.size w (W.setCells g o vs)
  | [], _, _, h => h
  | _ :: vs, o, _, h => below_setCells hg vs (o + 1) _ (below_set h hg)
def keptL (p : ByteArray → Bool) (l : List ByteArray) : List ByteArray := l.filter fun x => !p x
theorem keptL_all {p : ByteArray → Bool} {l : List ByteArray} (h : ∀ x ∈ l, p x = false) : keptL p l = l := by
  unfold keptL
  rw [List.filter_eq_self]
  intro x hx
  rw [h x hx]
  rfl
/-- slices.DeleteFunc over a row of one's own, where the function value may grow the heap. -/
theorem delete_grow (w0 : World) (Inv : World → Prop) (hG : ∀ W W', Inv W → Below W.heap.size W W' → Inv W') (p : ByteArray → Bool) (g : Nat) (lb : Array Value) (eg : ∀ args w, (callFunc g args).run Tryd.prog w = .ok (.enter g args) w)
    (rb cap : Nat) (l : List ByteArray) (w : World) (hS : ∀ W i v, Inv W → Inv (W.setCell ⟨rb, i, none⟩ v)) (hC : ∀ W, ∀ x ∈ l, Inv W → Calls Tryd.prog g (#[.string x] ++ lb) W fun e w' => e = .returned (.bool (p x)) ∧ Below W.heap.size W w')
    (hI : Inv w) (hB : Below w0.heap.size w0 w) (hn : l.length ≤ 9223372036854775807) (ho : w.ownsRow w0.heap.size 9 1 (.slice (some ⟨rb, 0, none⟩) l.length cap) l.length (encs Value.string l)) :
    Calls Tryd.prog 91 #[.slice (some ⟨rb, 0, none⟩) l.length cap, .func (.func g) #[] lb] w fun e w' => e = .returned (.slice (some ⟨rb, 0, none⟩) (keptL p l).length cap) ∧
      w'.ownsRow w0.heap.size 9 1 (.slice (some ⟨rb, 0, none⟩) (keptL p l).length cap) (keptL p l).length (encs Value.string (keptL p l)) ∧ Below w0.heap.size w0 w' := by
  have hrb : w0.heap.size ≤ rb := own_base ho rb rfl
  have hcap : l.length ≤ cap := own_le ho
  have hix := index_grow Inv hG p g lb eg rb cap l w hC hI hn (fun j hj => (own_at_of (d := ByteArray.empty) ho j (by omega) (by omega)).1)
  have HO0 : Aside0 _ := ⟨ho⟩
  have HB0 : Aside0 _ := ⟨hB⟩
  have HI0 : Aside0 (Inv w) := ⟨hI⟩
  clear ho hB hI
  rcases idxP_spec p l 0 with ⟨e1, ha⟩ | ⟨A, x, R, hl, e1, ha, hx⟩
  · rw [e1] at hix
    rw [keptL_all ha]
    go_enter Tryd.func91, Tryd.ntmps91
    go_wp2_with (go_at_call 124; refine hix.mono ?_; rintro e w' ⟨rfl, hb⟩)
    go_ret
    exact ⟨rfl, pw_own_below HO0.out hb, below_step HB0.out hb⟩
  · rw [e1, Nat.zero_add] at hix
    have hAl : A.length < l.length := by rw [hl, List.length_append, List.length_cons]; omega
    have hne1 : ((A.length : Int) == -1) = false := beq_eq_false_iff_ne.2 (by omega)
    have HL : Aside0 (l = A ++ x :: R) := ⟨hl⟩
    clear e1
    have hk0 : keptL p (l.take (A.length + 1)) = A := by
      rw [hl, List.take_append, List.take_of_length_le (by omega), show A.length + 1 - A.length = 1 by omega]
      unfold keptL
      rw [List.filter_append]
      rw [show A.filter (fun x => !p x) = A from keptL_all ha]
      simp [hx]
    have HK0 : Aside0 (keptL p (l.take (A.length + 1)) = A) := ⟨hk0⟩
    clear hk0 hl ha
    go_enter Tryd.func91, Tryd.ntmps91
    go_wp2_with (go_at_call 124; refine hix.mono ?_; rintro e w' ⟨rfl, hb⟩)
    go_loopg [5, 6, 7] l.length (fun gg s5 s6 _ wr => ∃ (i j : Nat) (zs : List ByteArray), s5 = .int .i64 i ∧ s6 = .int .i64 j ∧ i < j ∧ j ≤ l.length ∧ l.length - j ≤ gg ∧ Aside0 (Inv wr) ∧ Aside0 (Below w0.heap.size w0 wr) ∧
      Aside0 (wr.ownsRow w0.heap.size 9 1 (.slice (some ⟨rb, 0, none⟩) l.length cap) l.length (encs Value.string zs)) ∧ Aside0 (zs.length = l.length ∧ zs.take i = keptL p (l.take j) ∧ zs.drop j = l.drop j))
    case atStart =>
      exact ⟨A.length, A.length + 1, l, rfl, by go_num, by omega, by omega, by omega, ⟨hG _ _ HI0.out hb⟩, ⟨below_step HB0.out hb⟩, ⟨pw_own_below HO0.out hb⟩, ⟨rfl, by rw [HK0.out, HL.out]; simp, rfl⟩⟩
    case round =>
      obtain ⟨i, j, zs, rfl, rfl, hij, hjl, hg, HI, HB, HO, HZ⟩ := hrel
      by_cases hlt : j < l.length
      · have hltz : (j : Int) < (l.length : Int) := by omega
        have cj := own_at_of (d := ByteArray.empty) HO.out (j : Int) (by omega) (by omega)
        have ci := own_at_of (d := ByteArray.empty) HO.out (i : Int) (by omega) (by omega)
        simp only [Int.toNat_natCast] at cj ci
        have hzj : rdOf ByteArray.empty zs (j : Int) = rdOf ByteArray.empty l (j : Int) := by
          have := congrArg List.head? HZ.out.2.2
          rw [List.head?_drop, List.head?_drop] at this
          unfold rdOf
          rw [Int.toNat_natCast, List.getD_eq_getElem?_getD, List.getD_eq_getElem?_getD, this]
        have hd : l.drop j = rdOf ByteArray.empty l j :: l.drop (j + 1) := by
          rw [List.drop_eq_getElem_cons hlt, rdOf, Int.toNat_natCast, List.getD_eq_getElem?_getD, List.getElem?_eq_getElem hlt]
          rfl
        have ht : l.take (j + 1) = l.take j ++ [rdOf ByteArray.empty l j] := by
          rw [List.take_succ_eq_append_getElem hlt, rdOf, Int.toNat_natCast, List.getD_eq_getElem?_getD, List.getElem?_eq_getElem hlt]
          rfl
        have hm : rdOf ByteArray.empty l j ∈ l := List.mem_of_mem_drop (i := j) (by rw [hd]; exact List.mem_cons_self)
        rw [hzj] at cj
        have hcall := hC wr _ hm HI.out
        have HD : Aside0 (l.take (j + 1) = l.take j ++ [rdOf ByteArray.empty l j]) := ⟨ht⟩
        clear hd ht hm hzj
        generalize hy : rdOf ByteArray.empty l (j : Int) = y at cj hcall HD
        obtain ⟨cj, _⟩ := cj
        obtain ⟨ci, fi⟩ := ci
        generalize rdOf ByteArray.empty zs (i : Int) = old at ci
        cases hq : p y with
        | false =>
          rw [hq] at hcall
          go_wp2_with (go_at_fn g; refine hcall.mono ?_; rintro e w' ⟨rfl, hb⟩; have ci' := (hb.cell (World.block_lt_of_cell? _ _ ci)).trans ci; have fi' : w'.frozen? ⟨rb, i, none⟩ = false := by { have := (own_at_of (d := ByteArray.empty) (pw_own_below HO.out hb) (i : Int) (by omega) (by omega)).2; rwa [Int.toNat_natCast] at this })
          go_roundg (l.length - (j + 1))
          case measure => omega
          case rel =>
            have hst := own_store_of (pw_own_below HO.out hb) (i : Int) y
            rw [Int.toNat_natCast] at hst
            refine ⟨i + 1, j + 1, zs.set i y, by go_num, by go_num, by omega, by omega, by omega, ⟨hS _ _ _ (hG _ _ HI.out hb)⟩, ⟨below_set (below_step HB.out hb) hrb⟩, ⟨hst.1⟩, ⟨by rw [List.length_set]; exact HZ.out.1, ?_, ?_⟩⟩
            · rw [HD.out]
              unfold keptL
              rw [List.filter_append, ← show zs.take i = (l.take j).filter _ from HZ.out.2.1, List.take_succ_eq_append_getElem (by rw [List.length_set, HZ.out.1]; omega), List.getElem_set_self, List.take_set_of_le (Nat.le_refl i)]
              simp [hq]
            · rw [List.drop_set_of_lt (by omega)]
              have := congrArg (List.drop 1) HZ.out.2.2
              rwa [List.drop_drop, List.drop_drop] at this
        | true =>
          rw [hq] at hcall
          go_wp2_with (go_at_fn g; refine hcall.mono ?_; rintro e w' ⟨rfl, hb⟩)
          go_roundg (l.length - (j + 1))
          case measure => omega
          case rel =>
            refine ⟨i, j + 1, zs, rfl, by go_num, by omega, by omega, by omega, ⟨hG _ _ HI.out hb⟩, ⟨below_step HB.out hb⟩, ⟨pw_own_below HO.out hb⟩, ⟨HZ.out.1, ?_, ?_⟩⟩
            · rw [HD.out]
              unfold keptL
              rw [List.filter_append, HZ.out.2.1]
              simp [keptL, hq]
            · have := congrArg (List.drop 1) HZ.out.2.2
              rwa [List.drop_drop, List.drop_drop] at this
      · obtain rfl : j = l.length := by omega
        have hltz : ¬ (l.length : Int) < (l.length : Int) := by omega
        have hcl : ∀ ty, (Builtin.clear_ #[22] ty #[.slice (some ⟨rb, i, none⟩) (l.length - i) (cap - i)]).run Tryd.prog wr = .ok (.tuple #[]) (wr.setCells rb i (List.replicate (l.length - i) (.string ⟨#[]⟩))) :=
          fun ty => Lib.run_clear_slice wr 22 9 ty _ Tryd.underlying22 Tryd.zeroValue9 rfl rfl rb i _ _ (by omega)
            (fun t ht => by have := own_at_of (d := ByteArray.empty) HO.out ((i + t : Nat) : Int) (by omega) (by omega); rw [Int.toNat_natCast] at this; rw [this.1]; rfl)
            (fun t ht => by have := own_at_of (d := ByteArray.empty) HO.out ((i + t : Nat) : Int) (by omega) (by omega); rw [Int.toNat_natCast] at this; exact this.2)
        go_wp2
        go_ret
        have hZ := HZ.out
        rw [List.take_length] at hZ
        have hlen : (keptL p l).length = i := by rw [← hZ.2.1, List.length_take, hZ.1]; omega
        obtain ⟨zs', h1, h2⟩ := own_setCells (List.replicate (l.length - i) ⟨#[]⟩) i wr zs HO.out
        rw [List.map_replicate] at h1
        have h3 := own_take h1 (Nat.le_of_lt hij)
        rw [Nat.mul_one, show (encs Value.string zs').take i = encs Value.string (zs'.take i) by unfold encs; rw [List.map_take], h2, hZ.2.1] at h3
        rw [hlen]
        exact ⟨rfl, h3, below_setCells hrb _ _ _ HB.out⟩

/-- picked's own literal: not what the function value says. -/
theorem not_is (W : World) (pb g : Nat) (lb : Array Value) (eg : ∀ args w, (callFunc g args).run Tryd.prog w = .ok (.enter g args) w) (x : ByteArray) (b : Bool) (hc : W.cell? ⟨pb, 0, none⟩ = some (.func (.func g) #[] lb))
    (hp : ∀ W', Below W.heap.size W W' → Calls Tryd.prog g (#[.string x] ++ lb) W' fun e w' => e = .returned (.bool b) ∧ Below W'.heap.size W' w') :
    Calls Tryd.prog 92 (#[.string x] ++ #[.pointer (some ⟨pb, 0, none⟩)]) W fun e w' => e = .returned (.bool (!b)) ∧ Below W.heap.size W w' := by
  have h0 := hp W (Below.refl _ _)
  clear hp
  go_enter Tryd.func92, Tryd.ntmps92
  go_wp2_with (go_at_fn g; refine h0.mono ?_; rintro e w' ⟨rfl, hb⟩)
  go_ret
  exact ⟨rfl, hb⟩
theorem C_plain {w : World} {A : Option Addr} {n : Nat} {xs : List ByteArray} (h : Kd.string.C w A n xs) (hn : 0 < n) : ∃ b off, A = some ⟨b, off, none⟩ ∧ ∀ j, j < n → w.cell? ⟨b, off + j, none⟩ = some (.string (rdOf ByteArray.empty xs j)) := by
  obtain ⟨ad, rfl, h0⟩ := Kd.at_string h 0 (Int.le_refl 0) (by omega)
  obtain ⟨b, o, s⟩ := ad
  have hs : s = none := by
    cases s with
    | none => rfl
    | some x =>
      rw [show (0 : Int).toNat = 0 from rfl] at h0
      simp only [Addr.add, if_pos] at h0
      unfold World.cell? at h0
      split at h0 <;> simp_all
  subst hs
  refine ⟨b, o, rfl, fun j hj => ?_⟩
  obtain ⟨ad, e, hj'⟩ := Kd.at_string h (j : Int) (by omega) (by omega)
  cases e
  rw [Int.toNat_natCast] at hj'
  rw [← hj']
  congr 1
  unfold Addr.add
  by_cases hj0 : j = 0 <;> simp [hj0]
theorem cell_setFar {W : World} {a : Addr} {v : Value} (h : W.cell? a = some v) {g i : Nat} {u : Value} (hne : g ≠ a.block) : (W.setCell ⟨g, i, none⟩ u).cell? a = some v := by
  rw [World.cell?_of_block (Below.heap_setCell W ⟨g, i, none⟩ u a.block (fun e => hne e.symm))]
  exact h
theorem alloc_cell (w : World) (v : Value) (t : TypeId) : (w.alloc (.cells #[v] t)).cell? ⟨w.heap.size, 0, none⟩ = some v := by
  unfold World.cell?
  dsimp only
  rw [heap_alloc_new]
  rfl
theorem picked_calls (w : World) (Inv : World → Prop) (hG : ∀ W W', Inv W → Below W.heap.size W W' → Inv W') (hS : ∀ W rb i v, w.heap.size ≤ rb → Inv W → Inv (W.setCell ⟨rb, i, none⟩ v)) (p : ByteArray → Bool) (g : Nat) (lb : Array Value)
    (eg : ∀ args w, (callFunc g args).run Tryd.prog w = .ok (.enter g args) w) (A : Option Addr) (c : Nat) (l : List ByteArray)
    (hC : ∀ W, ∀ x ∈ l, Inv W → Calls Tryd.prog g (#[.string x] ++ lb) W fun e w' => e = .returned (.bool (p x)) ∧ Below W.heap.size W w')
    (hI : Inv w) (hr : Kd.string.C w A l.length l) (hpos : 0 < l.length) (hbig : l.length * 16 ≤ 140737488355328) :
    Calls Tryd.prog 61 #[.slice A l.length c, .func (.func g) #[] lb] w fun e w' => ∃ v, e = .returned v ∧ Kd.string.R 9 w' w.heap.size (fun _ => True) v (l.filter p) ∧ Below w.heap.size w w' := by
  obtain ⟨b, off, rfl, hcell⟩ := C_plain hr hpos
  have HW : Aside0 _ := ⟨hr⟩
  clear hr
  have e92 : ∀ args w, (callFunc 92 args).run Tryd.prog w = .ok (.enter 92 args) w := enters_of Tryd.func92 (by kernel_rfl) rfl
  have hclone : ∀ W, Below w.heap.size w W → Calls Tryd.prog 50 #[.slice (some ⟨b, off, none⟩) l.length c] W fun e w' => ∃ rb cap, e = .returned (.slice (some ⟨rb, 0, none⟩) l.length cap) ∧ W.heap.size ≤ rb ∧ w'.ownsRow W.heap.size 9 1 (.slice (some ⟨rb, 0, none⟩) l.length cap) l.length (encs Value.string l) ∧ Below W.heap.size W w' := by
    intro W hW
    refine (Tryd.slices_Clone_string b off l.length c l W (Nat.le_refl _) (by omega) (fun j hj => ?_)).mono ?_
    · have h1 := hcell j hj
      rw [(hW.cell (World.block_lt_of_cell? _ _ h1)).trans h1]
      rfl
    · rintro e w' ⟨v', rfl, ho, _, hb⟩
      rw [List.take_length] at ho
      rcases ho.2 with ⟨_, h0⟩ | ⟨rb, cap, cur, rfl, hge, _⟩
      · omega
      · exact ⟨rb, cap, rfl, hge, ho, hb⟩
  go_enter Tryd.func61, Tryd.ntmps61
  go_wp2_with (go_at_call 50; refine (hclone _ ((Below.refl _ w).alloc (Nat.le_refl _) _)).mono ?_; rintro e w' ⟨rb, cap, rfl, hge, ho, hb⟩)
  have hW1 : Below w.heap.size w (w.alloc (Obj.cells #[Value.func (Fn.func g) #[] lb] 32)) := (Below.refl _ w).alloc (Nat.le_refl _) _
  have hb1 : Below w.heap.size w w' := below_step hW1 hb
  have hsz : (w.alloc (Obj.cells #[Value.func (Fn.func g) #[] lb] 32)).heap.size = w.heap.size + 1 := by simp
  have hpb : w'.cell? ⟨w.heap.size, 0, none⟩ = some (.func (.func g) #[] lb) := by
    have h1 : (w.alloc (Obj.cells #[Value.func (Fn.func g) #[] lb] 32)).cell? ⟨w.heap.size, 0, none⟩ = some (.func (.func g) #[] lb) := alloc_cell w _ _
    exact (hb.cell (World.block_lt_of_cell? _ _ h1)).trans h1
  refine (delete_grow w (fun W => Inv W ∧ W.cell? ⟨w.heap.size, 0, none⟩ = some (.func (.func g) #[] lb)) (fun W W' h hb => ⟨hG W W' h.1 hb, (hb.cell (World.block_lt_of_cell? _ _ h.2)).trans h.2⟩) (fun x => !p x) 92 #[.pointer (some ⟨w.heap.size, 0, none⟩)] e92 rb cap l w'
    (fun W i v h => ⟨hS W rb i v (by omega) h.1, cell_setFar h.2 (by show rb ≠ w.heap.size; omega)⟩)
    (fun W x hx h => not_is W w.heap.size g lb eg x (p x) h.2 (fun W' hb' => hC W' x hx (hG W W' h.1 hb')))
    ⟨hG _ _ hI hb1, hpb⟩ hb1 (by omega) (own_less ho (by omega))).mono ?_
  rintro e w2 ⟨rfl, ho2, hb2⟩
  rw [show keptL (fun x => !p x) l = l.filter p by unfold keptL; congr 1; funext x; rw [Bool.not_not]] at *
  go_wp2
  go_ret
  exact ⟨_, rfl, Kd.R_of_own ho2 (fun _ _ => trivial), hb2⟩
end Go.Proofs.YtdkdpiihapmfbaaDoor.Pick
