/- Parts of the proof (printed walks, lemmas of our own, contracts of the library laid for this program), merged into one text by wip/mclaim.py. Conditions: each theorem's own. -/
import Derived.Test.YthnjmokaiiajmaaDoorM0
import Derived.Test.YthnjmokaiiajmaaDoorM2
import Derived.Test.YthnjmokaiiajmaaDoorM1
import Derived.Lib.SlTrimSet
namespace Go.Proofs.YthnjmokaiiajmaaDoor.P
open Go.RowKit Go.Proofs.YthnjmokaiiajmaaDoorW.PrintWords Go.Proofs.YthnjmokaiiajmaaDoorW.PrintLast Go.Proofs.YthnjmokaiiajmaaDoorW.PrintMore
attribute [local go_sem] max2_int min2_int max_two min_two max_three min_three max_four min_four   -- for this text's walks alone
set_option linter.unusedVariables false
set_option linter.unusedSimpArgs false

/-! ### impl_looker_from: function 23 -/
/-- The state of the loop over both thumbs. -/
structure impl_looker_from.Rv (w wr : World) (D : impl_newLooker.Dk) (b5 b6 b9 : Nat) (l r st pl : Int) : Prop where
  lk : impl_newLooker.Lk wr D
  kept : impl_newLooker.MK D w wr
  lim : D.lim ≤ w.heap.size
  h5 : wr.heap[b5]? = some (.cells #[.int .i64 l, .int .i64 r] 39 (0, 0))
  h6 : wr.heap[b6]? = some (.cells #[.int .i64 0, .int .i64 0] 43 (0, 0))
  h9 : wr.heap[b9]? = some (.cells #[.int .i64 st, .int .i64 pl] 43 (0, 0))
  g5 : w.heap.size ≤ b5
  g6 : w.heap.size ≤ b6
  g9 : b6 < b9
theorem impl_looker_from.Rv.grow {w wr w2 : World} {D : impl_newLooker.Dk} {b5 b6 b9 : Nat} {l r st pl : Int} (h : impl_looker_from.Rv w wr D b5 b6 b9 l r st pl) (hb : Below wr.heap.size wr w2) : impl_looker_from.Rv w w2 D b5 b6 b9 l r st pl where
  lk := h.lk.keep fun k hk => hb.block k (by have := h.lim; have := h.kept.size; omega)
  kept := h.kept.trans (impl_newLooker.MK.of_below hb)
  lim := h.lim
  h5 := blk_below h.h5 hb
  h6 := blk_below h.h6 hb
  h9 := blk_below h.h9 hb
  g5 := h.g5
  g6 := h.g6
  g9 := h.g9
theorem impl_looker_from.Rv.call {w wr w2 : World} {D : impl_newLooker.Dk} {b5 b6 b9 : Nat} {l r st pl : Int} (h : impl_looker_from.Rv w wr D b5 b6 b9 l r st pl) (hl : impl_newLooker.Lk w2 D) (hm : impl_newLooker.MK D wr w2) : impl_looker_from.Rv w w2 D b5 b6 b9 l r st pl where
  lk := hl
  kept := h.kept.trans hm
  lim := h.lim
  h5 := hm.blk h.lk h.h5
  h6 := hm.blk h.lk h.h6
  h9 := hm.blk h.lk h.h9
  g5 := h.g5
  g6 := h.g6
  g9 := h.g9
theorem impl_looker_from.keep_set {w wr : World} {D : impl_newLooker.Dk} (hl : impl_newLooker.Lk wr D) (hm : impl_newLooker.MK D w wr) (hlim : D.lim ≤ w.heap.size) {p : Addr} (hp : w.heap.size ≤ p.block) (u : Value) : impl_newLooker.Lk (wr.setCell p u) D ∧ impl_newLooker.MK D w (wr.setCell p u) :=
  ⟨hl.keep fun k hk => Below.heap_setCell wr p u k (by omega), hm.then_below ((Below.refl _ _).setCell hp u)⟩
theorem impl_looker_from.Rv.far {w wr : World} {D : impl_newLooker.Dk} {b5 b6 b9 : Nat} {l r st pl : Int} (h : impl_looker_from.Rv w wr D b5 b6 b9 l r st pl) {p : Addr} (hp : w.heap.size ≤ p.block) (n5 : b5 ≠ p.block) (n6 : b6 ≠ p.block) (n9 : b9 ≠ p.block) (u : Value) : impl_looker_from.Rv w (wr.setCell p u) D b5 b6 b9 l r st pl :=
  ⟨(impl_looker_from.keep_set h.lk h.kept h.lim hp u).1, (impl_looker_from.keep_set h.lk h.kept h.lim hp u).2, h.lim, (Below.heap_setCell wr p u _ n5).trans h.h5, (Below.heap_setCell wr p u _ n6).trans h.h6, (Below.heap_setCell wr p u _ n9).trans h.h9, h.g5, h.g6, h.g9⟩
theorem impl_looker_from.Rv.n59 {w wr : World} {D : impl_newLooker.Dk} {b5 b6 b9 : Nat} {l r st pl : Int} (h : impl_looker_from.Rv w wr D b5 b6 b9 l r st pl) : b5 ≠ b9 := fun e => by
  have h5 := h.h5
  rw [e, h.h9] at h5
  cases h5
theorem impl_looker_from.Rv.steps {w wr : World} {D : impl_newLooker.Dk} {b5 b6 b9 : Nat} {l r st pl : Int} (h : impl_looker_from.Rv w wr D b5 b6 b9 l r st pl) (x : Int) : impl_looker_from.Rv w (wr.setCell ⟨b9, 0, none⟩ (.int .i64 x)) D b5 b6 b9 l r x pl :=
  ⟨(impl_looker_from.keep_set h.lk h.kept h.lim (p := ⟨b9, 0, none⟩) (by show w.heap.size ≤ b9; have := h.g9; have := h.g6; omega) _).1, (impl_looker_from.keep_set h.lk h.kept h.lim (p := ⟨b9, 0, none⟩) (by show w.heap.size ≤ b9; have := h.g9; have := h.g6; omega) _).2, h.lim, (Below.heap_setCell wr _ _ _ h.n59).trans h.h5, (Below.heap_setCell wr _ _ _ (by show b6 ≠ b9; have := h.g9; omega)).trans h.h6, blk_put h.h9 0 _ rfl, h.g5, h.g6, h.g9⟩
theorem impl_looker_from.Rv.plans {w wr : World} {D : impl_newLooker.Dk} {b5 b6 b9 : Nat} {l r st pl : Int} (h : impl_looker_from.Rv w wr D b5 b6 b9 l r st pl) (x : Int) : impl_looker_from.Rv w (wr.setCell ⟨b9, 1, none⟩ (.int .i64 x)) D b5 b6 b9 l r st x :=
  ⟨(impl_looker_from.keep_set h.lk h.kept h.lim (p := ⟨b9, 1, none⟩) (by show w.heap.size ≤ b9; have := h.g9; have := h.g6; omega) _).1, (impl_looker_from.keep_set h.lk h.kept h.lim (p := ⟨b9, 1, none⟩) (by show w.heap.size ≤ b9; have := h.g9; have := h.g6; omega) _).2, h.lim, (Below.heap_setCell wr _ _ _ h.n59).trans h.h5, (Below.heap_setCell wr _ _ _ (by show b6 ≠ b9; have := h.g9; omega)).trans h.h6, blk_put h.h9 1 _ rfl, h.g5, h.g6, h.g9⟩
/-- How far the loop has come. -/
def impl_looker_from.At (c : Bool) (L : List Int) (l r p0 s p : Int) : Nat → Int → Int → Prop
  | 0, st, pl => st = -1 ∧ pl = 0 ∧ impl_newLooker.look c (p0 :: L) l r = some (s, p)
  | 1, st, pl => ∃ x y sd s1 q1, impl_thumbs_moved.f l r 1 p0 c = some (x, y, sd) ∧ impl_newLooker.look c L x y = some (s1, q1) ∧ impl_newLooker.rnd st pl s1 q1 sd = (s, p)
  | _, st, pl => st = s ∧ pl = p
theorem impl_looker_from.At.next {c : Bool} {L : List Int} {l r p0 s p : Int} {t : Nat} {st pl : Int} (h : impl_looker_from.At c L l r p0 s p t st pl) (ht : t < 2) :
    ∃ x y sd s1 q1, impl_thumbs_moved.f l r (t : Int) p0 c = some (x, y, sd) ∧ impl_newLooker.look c L x y = some (s1, q1) ∧ impl_looker_from.At c L l r p0 s p (t + 1) (impl_newLooker.rnd st pl s1 q1 sd).1 (impl_newLooker.rnd st pl s1 q1 sd).2 := by
  rcases t with _ | _ | t
  · obtain ⟨rfl, rfl, h⟩ := h
    rw [impl_newLooker.look] at h
    obtain ⟨⟨x, y, sd⟩, e0, h⟩ := Option.bind_eq_some_iff.1 h
    obtain ⟨⟨s0, q0⟩, e1, h⟩ := Option.bind_eq_some_iff.1 h
    obtain ⟨⟨x', y', sd'⟩, e2, h⟩ := Option.bind_eq_some_iff.1 h
    obtain ⟨⟨s1, q1⟩, e3, h⟩ := Option.bind_eq_some_iff.1 h
    exact ⟨x, y, sd, s0, q0, e0, e1, x', y', sd', s1, q1, e2, e3, Option.some.inj h⟩
  · obtain ⟨x, y, sd, s1, q1, e0, e1, e2⟩ := h
    exact ⟨x, y, sd, s1, q1, e0, e1, by rw [e2], by rw [e2]⟩
  · omega
theorem impl_looker_from.begin {w w3 : World} {D : impl_newLooker.Dk} {b5 b6 : Nat} {l r : Int} (hl : impl_newLooker.Lk w D) (hlim : D.lim ≤ w.heap.size) (hb : Below w.heap.size w w3) (h5 : w3.heap[b5]? = some (.cells #[.int .i64 l, .int .i64 r] 39 (0, 0))) (h6 : w3.heap[b6]? = some (.cells #[.int .i64 0, .int .i64 0] 43 (0, 0))) (g5 : w.heap.size ≤ b5) (g6 : w.heap.size ≤ b6) {b9 : Nat} {st pl : Int} (h9 : w3.heap[b9]? = some (.cells #[.int .i64 st, .int .i64 pl] 43 (0, 0))) (g9 : b6 < b9) : impl_looker_from.Rv w w3 D b5 b6 b9 l r st pl :=
  ⟨hl.keep fun k hk => hb.block k (by omega), impl_newLooker.MK.of_below hb, hlim, h5, h6, h9, g5, g6, g9⟩
theorem impl_looker_from.Rv.put {w wr : World} {D : impl_newLooker.Dk} {b5 b6 b9 i : Nat} {l r st pl : Int} {es es' : Array MapEntry} {cl cl' : Nat} (h : impl_looker_from.Rv w wr D b5 b6 b9 l r st pl) (hi : i ≤ D.L.length) (hm : wr.heap[D.ms.getD i 0]? = some (.map es cl)) (hg : impl_newLooker.Good (impl_newLooker.look D.c (D.L.drop i)) es') :
    impl_looker_from.Rv w (ChangeMaps.setBlock wr.drew (D.ms.getD i 0) (.map es' cl')) D b5 b6 b9 l r st pl := by
  have hsame := ChangeMaps.heap_setBlock_same (w := wr.drew) hm (.map es' cl')
  have hother : ∀ k, k ≠ D.ms.getD i 0 → (ChangeMaps.setBlock wr.drew (D.ms.getD i 0) (.map es' cl')).heap[k]? = wr.heap[k]? := fun k hk => ChangeMaps.heap_setBlock_other (w := wr.drew) hm _ hk
  have hmem := h.lk.mem hi
  have hne : ∀ {k : Nat}, k ∉ D.ms → k ≠ D.ms.getD i 0 := fun hk e => hk (e ▸ hmem)
  refine ⟨⟨(hother _ (hne (h.lk.cells_far h.lk.box))).trans h.lk.box, fun j hj => ?_, fun j hj => (impl_newLooker.cell_eq (hother _ (hne (h.lk.cell_far (h.lk.row j hj))))).trans (h.lk.row j hj), fun j hj => ?_, h.lk.len, h.lk.nodup, h.lk.lb_lt, h.lk.mb_lt, h.lk.ms_lt⟩, ⟨h.kept.os, h.kept.tape, h.kept.output, ?_, fun k hk hn => ?_⟩, h.lim, (hother _ (hne (h.lk.cells_far h.h5))).trans h.h5, (hother _ (hne (h.lk.cells_far h.h6))).trans h.h6, (hother _ (hne (h.lk.cells_far h.h9))).trans h.h9, h.g5, h.g6, h.g9⟩
  · obtain ⟨kb, ko, h1, h2, h3⟩ := h.lk.keys j hj
    exact ⟨kb, ko, h1, h2, (impl_newLooker.cell_eq (hother _ (hne (h.lk.cell_far h3)))).trans h3⟩
  · by_cases hji : D.ms.getD j 0 = D.ms.getD i 0
    · have e : j = i := by
        have l1 : j < D.ms.length := by rw [h.lk.len]; omega
        have l2 : i < D.ms.length := by rw [h.lk.len]; omega
        rw [List.getD_eq_getElem?_getD, List.getD_eq_getElem?_getD, List.getElem?_eq_getElem l1, List.getElem?_eq_getElem l2] at hji
        exact (List.getElem_inj h.lk.nodup).1 hji
      subst e
      exact ⟨es', cl', hsame, hg⟩
    · obtain ⟨es1, cl1, h1, h2⟩ := h.lk.maps j hj
      exact ⟨es1, cl1, (hother _ hji).trans h1, h2⟩
  · show w.heap.size ≤ (wr.heap.setIfInBounds _ _).size
    rw [Array.size_setIfInBounds]
    exact h.kept.size
  · exact (hother _ (hne hn)).trans (h.kept.block k hk hn)
theorem impl_looker_from.Rv.out_ {w wr : World} {D : impl_newLooker.Dk} {b5 b6 b9 : Nat} {l r st pl : Int} (h : impl_looker_from.Rv w wr D b5 b6 b9 l r st pl) (s p : Int) :
    ((wr.setCell ⟨b6, 0, none⟩ (.int .i64 s)).setCell ⟨b6, 1, none⟩ (.int .i64 p)).heap[b6]? = some (.cells #[.int .i64 s, .int .i64 p] 43 (0, 0)) ∧ impl_newLooker.Lk ((wr.setCell ⟨b6, 0, none⟩ (.int .i64 s)).setCell ⟨b6, 1, none⟩ (.int .i64 p)) D ∧ impl_newLooker.MK D w ((wr.setCell ⟨b6, 0, none⟩ (.int .i64 s)).setCell ⟨b6, 1, none⟩ (.int .i64 p)) := by
  have k1 := impl_looker_from.keep_set h.lk h.kept h.lim (p := ⟨b6, 0, none⟩) h.g6 (.int .i64 s)
  have k2 := impl_looker_from.keep_set k1.1 k1.2 h.lim (p := ⟨b6, 1, none⟩) h.g6 (.int .i64 p)
  exact ⟨blk_put (cs := #[.int .i64 s, .int .i64 0]) (blk_put (cs := #[.int .i64 0, .int .i64 0]) h.h6 0 _ rfl) 1 _ rfl, k2.1, k2.2⟩
theorem impl_looker_from.run_look2 {lk : Int → Int → Option (Int × Int)} {es : Array MapEntry} {m clock : Nat} {x y : Int} (h : impl_newLooker.Good lk es) (hx : impl_newLooker.rg x) (hy : impl_newLooker.rg y) :
    (∀ w : World, w.heap[m]? = some (.map es clock) → (Instr.lookup 57 (.map (some m)) (.agg #[.int .i64 x, .int .i64 y]) true).run Tryd.prog w = .ok (.tuple #[.agg #[.int .i64 0, .int .i64 0], .bool false]) w) ∨
    ∃ s p, lk x y = some (s, p) ∧ ∀ w : World, w.heap[m]? = some (.map es clock) → (Instr.lookup 57 (.map (some m)) (.agg #[.int .i64 x, .int .i64 y]) true).run Tryd.prog w = .ok (.tuple #[.agg #[.int .i64 s, .int .i64 p], .bool true]) w := by
  have hkey := impl_newLooker.key39 (impl_newLooker.wf hx) (impl_newLooker.wf hy)
  have hz : ∀ w, (zeroValue 43).run Tryd.prog w = .ok (.agg #[.int .i64 0, .int .i64 0]) w := fun w => by kernel_rfl
  by_cases hex : ∃ e, e ∈ es.toList ∧ e.key = .agg #[.int .i64 x, .int .i64 y]
  · obtain ⟨e1, he1, hk1⟩ := hex
    obtain ⟨x1, y1, s, p, _, _, hk1', hv1, hl1⟩ := h e1 he1
    have e := hk1'.symm.trans hk1
    simp only [Value.agg.injEq, Array.mk.injEq, List.cons.injEq, Value.int.injEq, true_and, and_true] at e
    obtain ⟨rfl, rfl⟩ := e
    refine Or.inr ⟨s, p, hl1, fun w hb => ?_⟩
    rcases impl_newLooker.law39.find w hkey es.toList h.keys with ⟨h1, h2⟩ | ⟨j, e0, h1, h2, h3⟩
    · exact absurd hk1 (h2 e1 he1)
    · obtain ⟨x', y', s', p', _, _, hk, hv, hl⟩ := h e0 (List.mem_of_getElem? h2)
      have e := hk.symm.trans h3
      simp only [Value.agg.injEq, Array.mk.injEq, List.cons.injEq, Value.int.injEq, true_and, and_true] at e
      obtain ⟨rfl, rfl⟩ := e
      obtain ⟨rfl, rfl⟩ := Prod.mk.inj (Option.some.inj (hl1.symm.trans hl))
      simp [Instr.lookup, run_underlying Tryd.underlying57, MapKept.run_getObj_map hb, impl_newLooker.law39.check w _ hkey, h1, hv, Result.andThen]
  · refine Or.inl fun w hb => ?_
    rcases impl_newLooker.law39.find w hkey es.toList h.keys with ⟨h1, h2⟩ | ⟨j, e0, h1, h2, h3⟩
    · simp [Instr.lookup, run_underlying Tryd.underlying57, MapKept.run_getObj_map hb, impl_newLooker.law39.check w _ hkey, h1, hz, Result.andThen]
    · exact absurd ⟨e0, List.mem_of_getElem? h2, h3⟩ hex

set_option maxHeartbeats 16000000 in
set_option maxRecDepth 100000 in
theorem impl_looker_from.calls0 (D : impl_newLooker.Dk) (hL : ∀ p ∈ D.L, impl_newLooker.rg p) (hD : D.L.length ≤ 1000) : ∀ (d i : Nat) (l r s p : Int) (w : World), i + d = D.L.length → impl_newLooker.rg l → impl_newLooker.rg r → impl_newLooker.look D.c (D.L.drop i) l r = some (s, p) → impl_newLooker.Lk w D → D.lim ≤ w.heap.size →
    Calls Tryd.prog 23 #[.pointer (some ⟨D.lb, 0, none⟩), .int .i64 i, .agg #[.int .i64 l, .int .i64 r]] w fun e w' => e = .returned (.agg #[.int .i64 s, .int .i64 p]) ∧ impl_newLooker.Lk w' D ∧ impl_newLooker.MK D w w' := by
  intro d
  induction d with
  | zero =>
    intro i l r s p w hi hl hr h HL hlim
    obtain rfl : i = D.L.length := by omega
    rw [List.drop_length] at h
    obtain ⟨rfl, rfl⟩ := Prod.mk.inj (Option.some.inj h)
    have c0 : w.cell? ⟨D.lb, 0, none⟩ = some (.slice D.A D.L.length D.kc) := (blk_cell HL.box 0).trans rfl
    have hlt := blk_lt HL.box
    have HLk := Aside0.mk HL
    clear HL h
    go_enter Tryd.func23, Tryd.ntmps23
    go_wp2
    have hb : Below w.heap.size w ((w.alloc (.cells #[.int .i64 l, .int .i64 r] 39)).alloc (.cells #[.int .i64 0, .int .i64 1] 43)) := below_alloc (below_alloc (Below.refl _ _) _) _
    refine bodyPost_ret (results_cell_row rfl _ _ (w.heap.size + 1) 43 #[.int .i64 0, .int .i64 1] (0, 0) _ rfl (by have := blk_new (w.alloc (.cells #[.int .i64 l, .int .i64 r] 39)) (.cells #[.int .i64 0, .int .i64 1] 43); simpa using this) Tryd.underlying43 rfl (by kernel_rfl)) rfl ⟨rfl, HLk.out.keep fun k hk => hb.block k (by omega), impl_newLooker.MK.of_below hb⟩
  | succ d ih =>
    intro i l r s p w hi hl hr h HL hlim
    have hil : i < D.L.length := by omega
    obtain ⟨p0, hp0⟩ : ∃ p0, p0 = D.L.getD i 0 := ⟨_, rfl⟩
    have hdr : D.L.drop i = p0 :: D.L.drop (i + 1) := by
      rw [List.drop_eq_getElem_cons hil, hp0, List.getD_eq_getElem?_getD, List.getElem?_eq_getElem hil]
      rfl
    have hr0 : impl_newLooker.rg p0 := hL p0 (by rw [hp0, List.getD_eq_getElem?_getD, List.getElem?_eq_getElem hil]; exact List.getElem_mem hil)
    obtain ⟨kb, ko, hkb, hA, hkc⟩ := HL.keys i hil
    rw [← hp0] at hkc
    obtain ⟨es, cl, hmap, hgood⟩ := HL.maps i (by omega)
    obtain ⟨mi, hmi⟩ : ∃ mi, mi = D.ms.getD i 0 := ⟨_, rfl⟩
    have hrow := HL.row i (by omega)
    rw [← hmi] at hmap hrow
    have hmem : mi ∈ D.ms := by rw [hmi]; exact HL.mem (by omega)
    have c0 : w.cell? ⟨D.lb, 0, none⟩ = some (.slice D.A D.L.length D.kc) := (blk_cell HL.box 0).trans rfl
    have hbx := blk_lt HL.box
    have hu39 := Tryd.underlying39
    have hwi : IntKind.i64.wrap ((i : Int) + 1) = (i : Int) + 1 := (i64_w _).trans (by unfold wrap64; omega)
    have HLk := Aside0.mk HL
    have H := Aside0.mk h
    have HG := Aside0.mk hgood
    have HM := Aside0.mk hmap
    have HK := Aside0.mk hkc
    have HR0 := Aside0.mk hrow
    have HIH := Aside0.mk ih
    have HDr := Aside0.mk hdr
    have HA := Aside0.mk hA
    have HP0 := Aside0.mk hp0
    clear HL h hgood hmap hkc hrow ih hdr hp0 hA
    have hne : ((i : Int) = (D.L.length : Int)) = False := eq_false (by omega)
    have hned : decide ((i : Int) = (D.L.length : Int)) = false := decide_eq_false (by omega)
    have hbq : ((i : Int) == (D.L.length : Int)) = false := beq_eq_false_iff_ne.2 (by omega)
    go_enter Tryd.func23, Tryd.ntmps23
    go_upto_region 3 with fail
    have hb : Below w.heap.size w ((w.alloc (.cells #[.int .i64 l, .int .i64 r] 39)).alloc (.cells #[.int .i64 0, .int .i64 0] 43)) := below_alloc (below_alloc (Below.refl _ _) _) _
    have h5 : ((w.alloc (.cells #[.int .i64 l, .int .i64 r] 39)).alloc (.cells #[.int .i64 0, .int .i64 0] 43)).heap[w.heap.size]? = some (.cells #[.int .i64 l, .int .i64 r] 39 (0, 0)) := blk_alloc (blk_new _ _) _
    have h6 : ((w.alloc (.cells #[.int .i64 l, .int .i64 r] 39)).alloc (.cells #[.int .i64 0, .int .i64 0] 43)).heap[w.heap.size + 1]? = some (.cells #[.int .i64 0, .int .i64 0] 43 (0, 0)) := by have := blk_new (w.alloc (.cells #[.int .i64 l, .int .i64 r] 39)) (.cells #[.int .i64 0, .int .i64 0] 43); simpa using this
    have hs1 : ((w.alloc (.cells #[.int .i64 l, .int .i64 r] 39)).alloc (.cells #[.int .i64 0, .int .i64 0] 43)).heap.size = w.heap.size + 2 := by simp
    generalize ((w.alloc (.cells #[.int .i64 l, .int .i64 r] 39)).alloc (.cells #[.int .i64 0, .int .i64 0] 43)) = W1 at *
    obtain ⟨b5, hb5⟩ : ∃ b5, b5 = w.heap.size := ⟨_, rfl⟩
    obtain ⟨b6, hb6⟩ : ∃ b6, b6 = w.heap.size + 1 := ⟨_, rfl⟩
    rw [← hb5] at h5
    rw [← hb6] at h6
    simp only [← hb5, ← hb6]
    have HB1 := Aside0.mk hb
    have H5 := Aside0.mk h5
    have H6 := Aside0.mk h6
    have HS1 := Aside0.mk hs1
    have HE5 := Aside0.mk hb5
    have HE6 := Aside0.mk hb6
    have HL1 : Aside0 (impl_newLooker.Lk W1 D) := ⟨HLk.out.keep fun k hk => hb.block k (by omega)⟩
    have HM1 : Aside0 (W1.heap[mi]? = some (.map es cl)) := ⟨blk_below HM.out hb⟩
    have HMi := Aside0.mk hmi
    clear hb h5 h6 hs1 hb5 hb6 c0 hmi
    have c0 : W1.cell? ⟨D.lb, 0, none⟩ = some (.slice D.A D.L.length D.kc) := (blk_cell HL1.out.box 0).trans rfl
    have c1 : W1.cell? ⟨D.lb, 1, none⟩ = some (.bool D.c) := (blk_cell HL1.out.box 1).trans rfl
    have c2 : W1.cell? ⟨D.lb, 2, none⟩ = some (.slice (some ⟨D.mb, 0, none⟩) (D.L.length + 1) D.mc) := (blk_cell HL1.out.box 2).trans rfl
    have c3 : W1.cell? ⟨D.mb, i, none⟩ = some (.map (some mi)) := by rw [HMi.out]; exact HL1.out.row i (by omega)
    have c5 : W1.cell? ⟨b5, 0, none⟩ = some (.int .i64 l) := (blk_cell H5.out 0).trans rfl
    have c6 : W1.cell? ⟨b5, 1, none⟩ = some (.int .i64 r) := (blk_cell H5.out 1).trans rfl
    have hlt5 : b5 < W1.heap.size := blk_lt H5.out
    have hltb : D.lb < W1.heap.size := blk_lt HL1.out.box
    have hltm : D.mb < W1.heap.size := by have := HL1.out.mb_lt; have := HS1.out; omega
    have hi1 : (i : Int) < (D.L.length : Int) + 1 := by omega
    have hi0 : (0 : Int) ≤ (i : Int) := Int.natCast_nonneg _
    rcases impl_looker_from.run_look2 (m := mi) (clock := cl) HG.out hl hr with hmiss | ⟨s', p', hlk, hhit⟩
    · have q1 := hmiss W1.drew HM1.out
      have q2 := hmiss ((W1.alloc (.cells #[.int .i64 0, .int .i64 0] 43)).drew) (blk_alloc (w := W1) HM1.out _)
      clear hmiss hmem
      go_region
      all_goals as_aux_lemma =>
        have hb2 : Below W1.heap.size W1 ((W1.alloc (.cells #[.int .i64 0, .int .i64 0] 43)).drew) := (below_alloc (Below.refl _ _) _).drew
        generalize (W1.alloc (.cells #[.int .i64 0, .int .i64 0] 43)).drew = W2 at *
        have HB2 : Aside0 (Below w.heap.size w W2) := ⟨below_step HB1.out hb2⟩
        have H52 := Aside0.mk (blk_below H5.out hb2)
        have H62 := Aside0.mk (blk_below H6.out hb2)
        clear c0 c1 c2 c3 c5 c6 q1 q2 HB1 H5 H6 HM1 HL1 hb2 hltb hltm hi1 HM HR0 hlt5
        go_upto_region 7 with fail
        have hR : impl_looker_from.Rv w (W2.alloc (.cells #[.int .i64 (-1), .int .i64 0] 43)) D b5 (b5 + 1) W2.heap.size l r (-1) 0 := by
          have e5 := HE5.out
          have e6 := HE6.out
          have h6 := H62.out
          rw [show b6 = b5 + 1 by omega] at h6
          refine impl_looker_from.begin HLk.out hlim (below_alloc HB2.out _) (blk_alloc H52.out _) (blk_alloc h6 _) (by omega) (by omega) (blk_new _ _) ?_
          exact blk_lt h6
        have HRv := Aside0.mk hR
        have HAt : Aside0 (impl_looker_from.At D.c (D.L.drop (i + 1)) l r p0 s p 0 (-1) 0) := ⟨⟨rfl, rfl, by rw [← HDr.out]; exact H.out⟩⟩
        generalize W2.alloc (.cells #[.int .i64 (-1), .int .i64 0] 43) = W3 at *
        obtain ⟨b9, hb9⟩ : ∃ b9, b9 = W2.heap.size := ⟨_, rfl⟩
        rw [← hb9] at HRv
        simp only [← hb9]
        have HH := H
        clear hR HB2 H52 H62 HDr H HG HK HLk hb9 HMi hbx
        go_wp2
        go_loopg [37] 2 (fun gg s37 wr => ∃ (t : Nat) (st pl : Int), s37 = .int .i64 (t : Int) ∧ t + gg = 2 ∧ Aside0 (impl_looker_from.At D.c (D.L.drop (i + 1)) l r p0 s p t st pl) ∧ Aside0 (impl_looker_from.Rv w wr D b5 (b5 + 1) b9 l r st pl))
        case atStart => exact ⟨0, -1, 0, rfl, rfl, HAt, HRv⟩
        case round =>
          clear HAt HRv
          obtain ⟨t, st, pl, rfl, ht, HAt, HRv⟩ := hrel
          by_cases hlt : t < 2
          · obtain ⟨g, rfl⟩ : ∃ g, gk = g + 1 := ⟨gk - 1, by omega⟩
            obtain ⟨x, y, sd, s1, q1, hmv, hlk, hat⟩ := HAt.out.next hlt
            have HAt' := Aside0.mk hat
            have HMv : Aside0 (∀ W, Calls Tryd.prog 28 #[.agg #[.int .i64 l, .int .i64 r], .int .i64 (t : Int), .int .i64 p0, .bool D.c] W fun e w' => e = .returned (.tuple #[.agg #[.int .i64 x, .int .i64 y], .int .i64 sd]) ∧ Below W.heap.size W w') := ⟨fun W => impl_thumbs_moved.calls l r t p0 D.c x y sd W hmv⟩
            obtain ⟨hx, hy⟩ := impl_newLooker.moved_rg hmv hl hr hr0
            have HCl : Aside0 (∀ W, impl_newLooker.Lk W D → D.lim ≤ W.heap.size → Calls Tryd.prog 23 #[.pointer (some ⟨D.lb, 0, none⟩), .int .i64 ((i : Int) + 1), .agg #[.int .i64 x, .int .i64 y]] W fun e w' => e = .returned (.agg #[.int .i64 s1, .int .i64 q1]) ∧ impl_newLooker.Lk w' D ∧ impl_newLooker.MK D W w') := ⟨fun W h1 h2 => HIH.out (i + 1) x y s1 q1 W (by omega) hx hy hlk h1 h2⟩
            clear HAt hat hmv hx hy hlk
            have ht0 : (t : Int) < 2 := by omega
            have c0 : wr.cell? ⟨D.lb, 0, none⟩ = some (.slice (some ⟨kb, ko, none⟩) D.L.length D.kc) := by rw [← HA.out]; exact (blk_cell HRv.out.lk.box 0).trans rfl
            have c1 : wr.cell? ⟨D.lb, 1, none⟩ = some (.bool D.c) := (blk_cell HRv.out.lk.box 1).trans rfl
            have c3 : wr.cell? ⟨kb, ko + i, none⟩ = some (.int .i64 p0) := by
              obtain ⟨kb', ko', _, hA', hk'⟩ := HRv.out.lk.keys i hil
              cases (HA.out.symm.trans hA')
              rw [HP0.out]
              exact hk'
            have c5 : wr.cell? ⟨b5, 0, none⟩ = some (.int .i64 l) := (blk_cell HRv.out.h5 0).trans rfl
            have c6 : wr.cell? ⟨b5, 1, none⟩ = some (.int .i64 r) := (blk_cell HRv.out.h5 1).trans rfl
            have l5 : b5 < wr.heap.size := blk_lt HRv.out.h5
            have lb_ : D.lb < wr.heap.size := blk_lt HRv.out.lk.box
            have lk_ : kb < wr.heap.size := World.block_lt_of_cell? _ _ c3
            go_upto_region 10 with fail
            have n5 : wr.heap.size ≠ b5 := by omega
            have nb_ : wr.heap.size ≠ D.lb := by omega
            have nk_ : wr.heap.size ≠ kb := by omega
            go_region_held3 (fun w' => w'.cell? ⟨b5, 0, none⟩ = some (.int .i64 l) ∧ w'.cell? ⟨b5, 1, none⟩ = some (.int .i64 r) ∧ w'.cell? ⟨D.lb, 0, none⟩ = some (.slice (some ⟨kb, ko, none⟩) D.L.length D.kc) ∧ w'.cell? ⟨D.lb, 1, none⟩ = some (.bool D.c) ∧ w'.cell? ⟨kb, ko + i, none⟩ = some (.int .i64 p0)) (first | go_keep | (have a0 := (hb.cell (p := ⟨b5, 0, none⟩) l5).trans c5; have a1 := (hb.cell (p := ⟨b5, 1, none⟩) l5).trans c6; have a2 := (hb.cell (p := ⟨D.lb, 0, none⟩) lb_).trans c0; have a3 := (hb.cell (p := ⟨D.lb, 1, none⟩) lb_).trans c1; have a4 := (hb.cell (p := ⟨kb, ko + i, none⟩) lk_).trans c3; go_keep) | (go_split_ands; exact ⟨(hb.cell (World.block_lt_of_cell? _ _ (by assumption))).trans (by assumption), (hb.cell (World.block_lt_of_cell? _ _ (by assumption))).trans (by assumption), (hb.cell (World.block_lt_of_cell? _ _ (by assumption))).trans (by assumption), (hb.cell (World.block_lt_of_cell? _ _ (by assumption))).trans (by assumption), (hb.cell (World.block_lt_of_cell? _ _ (by assumption))).trans (by assumption)⟩)) (first | (go_at_call 28; refine (HMv.out _).mono ?_; rintro e w' ⟨rfl, hb⟩; (try (have zz : w'.heap[wr.heap.size]? = some (.cells #[.int .i64 0, .int .i64 0] 39 (0, 0)) := blk_below (blk_new wr _) (((Below.refl _ _).drew).trans hb); have z0 : w'.cell? ⟨wr.heap.size, 0, none⟩ = some (.int .i64 0) := (blk_cell zz 0).trans rfl; have z1 : w'.cell? ⟨wr.heap.size, 1, none⟩ = some (.int .i64 0) := (blk_cell zz 1).trans rfl; have z2 := blk_frozen zz 0; have z3 := blk_frozen zz 1; have z4 := blk_lt zz))))
            all_goals first
              | (have hbw : Below wr.heap.size wr (w'.alloc (.cells #[.int .i64 x, .int .i64 y] 39)) := below_alloc (((Below.refl _ _).drew).trans hb) _
                 have h11 := blk_new w' (.cells #[.int .i64 x, .int .i64 y] 39)
                 have g11 : wr.heap.size ≤ w'.heap.size := hb.size
                 clear hb
                 generalize w'.alloc (.cells #[.int .i64 x, .int .i64 y] 39) = W4 at *
                 generalize w'.heap.size = b11 at *)
              | (have hbw : Below wr.heap.size wr ((w'.setCell ⟨wr.heap.size, 0, none⟩ (.int .i64 x)).setCell ⟨wr.heap.size, 1, none⟩ (.int .i64 y)) := below_set (below_set (((below_alloc (Below.refl wr.heap.size wr) _).drew).trans (hb.mono (by simp))) (Nat.le_refl _)) (Nat.le_refl _)
                 have h11 : ((w'.setCell ⟨wr.heap.size, 0, none⟩ (.int .i64 x)).setCell ⟨wr.heap.size, 1, none⟩ (.int .i64 y)).heap[wr.heap.size]? = some (.cells #[.int .i64 x, .int .i64 y] 39 (0, 0)) := blk_put (cs := #[.int .i64 x, .int .i64 0]) (blk_put (cs := #[.int .i64 0, .int .i64 0]) zz 0 _ rfl) 1 _ rfl
                 clear hb zz z0 z1 z2 z3 z4
                 generalize ((w'.setCell ⟨wr.heap.size, 0, none⟩ (.int .i64 x)).setCell ⟨wr.heap.size, 1, none⟩ (.int .i64 y)) = W4 at *
                 obtain ⟨b11, hb11⟩ : ∃ b11, b11 = wr.heap.size := ⟨_, rfl⟩
                 have g11 : wr.heap.size ≤ b11 := by omega
                 rw [← hb11] at h11
                 simp only [← hb11]
                 clear hb11)
            all_goals as_aux_lemma =>
              have HR4 := Aside0.mk (HRv.out.grow hbw)
              have H11 := Aside0.mk h11
              have hlim4 : Aside0 (D.lim ≤ W4.heap.size) := ⟨by have := hbw.size; have := HRv.out.kept.size; omega⟩
              clear c0 c1 c3 c5 c6 n5 nb_ nk_ l5 lb_ lk_ hbw h11 HRv HMv
              have e0 : W4.cell? ⟨b11, 0, none⟩ = some (.int .i64 x) := (blk_cell H11.out 0).trans rfl
              have e1 : W4.cell? ⟨b11, 1, none⟩ = some (.int .i64 y) := (blk_cell H11.out 1).trans rfl
              go_upto_region 12 with (first | (go_at_call 23; refine (HCl.out _ HR4.out.lk hlim4.out).mono ?_; rintro e w5 ⟨rfl, hlk5, hmk5⟩))
              have HR5 := Aside0.mk ((HR4.out.call hlk5 hmk5).grow (below_alloc (Below.refl _ _) (.cells #[.int .i64 s1, .int .i64 q1] 43)))
              have h13 := blk_new w5 (.cells #[.int .i64 s1, .int .i64 q1] 43)
              have hf5 := blk_lt (HR4.out.call hlk5 hmk5).h5
              have hf6 := blk_lt (HR4.out.call hlk5 hmk5).h6
              have hf9 := blk_lt (HR4.out.call hlk5 hmk5).h9
              have hfw : w.heap.size ≤ w5.heap.size := (HR4.out.call hlk5 hmk5).kept.size
              clear hlk5 hmk5 HR4 H11 e0 e1 hlim4 HCl
              generalize w5.alloc (.cells #[.int .i64 s1, .int .i64 q1] 43) = W6 at *
              generalize w5.heap.size = b13 at *
              have e0 : W6.cell? ⟨b13, 0, none⟩ = some (.int .i64 s1) := (blk_cell h13 0).trans rfl
              have e1 := blk_frozen h13 0
              obtain ⟨u, hu⟩ : ∃ u, u = wrap64 (s1 + sd) := ⟨_, rfl⟩
              have hwu : IntKind.i64.wrap (s1 + sd) = u := by rw [i64_w, hu]
              have HU := Aside0.mk hu
              clear hu
              go_upto_region 13 with fail
              have HR7 := Aside0.mk (HR5.out.far (p := ⟨b13, 0, none⟩) hfw (Nat.ne_of_lt hf5) (Nat.ne_of_lt hf6) (Nat.ne_of_lt hf9) (.int .i64 u))
              have h14 : (W6.setCell ⟨b13, 0, none⟩ (.int .i64 u)).heap[b13]? = some (.cells #[.int .i64 u, .int .i64 q1] 43 (0, 0)) := blk_put h13 0 _ rfl
              clear h13 HR5 e0 e1 hf5 hf6 hfw
              generalize W6.setCell ⟨b13, 0, none⟩ (.int .i64 u) = W7 at *
              have e0 : W7.cell? ⟨b13, 0, none⟩ = some (.int .i64 u) := (blk_cell h14 0).trans rfl
              have e1 : W7.cell? ⟨b13, 1, none⟩ = some (.int .i64 q1) := (blk_cell h14 1).trans rfl
              have e2 : W7.cell? ⟨b9, 0, none⟩ = some (.int .i64 st) := (blk_cell HR7.out.h9 0).trans rfl
              have e3 : W7.cell? ⟨b9, 1, none⟩ = some (.int .i64 pl) := (blk_cell HR7.out.h9 1).trans rfl
              have e4 := blk_frozen HR7.out.h9 0
              have e5 := blk_frozen HR7.out.h9 1
              have hwt : IntKind.i64.wrap ((t : Int) + 1) = (t : Int) + 1 := (i64_w _).trans (by unfold wrap64; omega)
              have H14 := Aside0.mk h14
              clear h14
              as_aux_lemma =>
              by_cases k1 : st < 0
              · have hrn : impl_newLooker.rnd st pl s1 q1 sd = (u, q1) := by
                  unfold impl_newLooker.rnd
                  rw [← HU.out, if_pos (Or.inl k1)]
                have HA9 : Aside0 (impl_looker_from.At D.c (D.L.drop (i + 1)) l r p0 s p (t + 1) u q1) := ⟨by have := HAt'.out; rw [hrn] at this; exact this⟩
                have HR9 := Aside0.mk ((HR7.out.steps u).plans q1)
                have k2 : decide (st < 0) = true := decide_eq_true k1
                clear HAt' HR7 hrn HU H14
                go_wp2
                go_roundg g
                case measure => omega
                case rel => exact ⟨t + 1, u, q1, by go_num, by omega, HA9, HR9⟩
              · have k2 : decide (st < 0) = false := decide_eq_false k1
                by_cases k3 : u < st
                · have hrn : impl_newLooker.rnd st pl s1 q1 sd = (u, q1) := by
                    unfold impl_newLooker.rnd
                    rw [← HU.out, if_pos (Or.inr k3)]
                  have HA9 : Aside0 (impl_looker_from.At D.c (D.L.drop (i + 1)) l r p0 s p (t + 1) u q1) := ⟨by have := HAt'.out; rw [hrn] at this; exact this⟩
                  have HR9 := Aside0.mk ((HR7.out.steps u).plans q1)
                  have k4 : decide (u < st) = true := decide_eq_true k3
                  clear HAt' HR7 hrn HU H14
                  go_wp2
                  go_roundg g
                  case measure => omega
                  case rel => exact ⟨t + 1, u, q1, by go_num, by omega, HA9, HR9⟩
                · have k4 : decide (u < st) = false := decide_eq_false k3
                  have hno : ¬ (st < 0 ∨ u < st) := by omega
                  by_cases k5 : u = st
                  · have hrn : impl_newLooker.rnd st pl s1 q1 sd = (st, wrap64 (pl + q1)) := by
                      unfold impl_newLooker.rnd
                      rw [← HU.out, if_neg hno, if_pos k5]
                    obtain ⟨v, hv⟩ : ∃ v, v = wrap64 (pl + q1) := ⟨_, rfl⟩
                    rw [← hv] at hrn
                    have hwv : IntKind.i64.wrap (pl + q1) = v := by rw [i64_w, hv]
                    have HA9 : Aside0 (impl_looker_from.At D.c (D.L.drop (i + 1)) l r p0 s p (t + 1) st v) := ⟨by have := HAt'.out; rw [hrn] at this; exact this⟩
                    have HR9 := Aside0.mk (HR7.out.plans v)
                    clear HAt' HR7 hrn HU H14 hv
                    go_wp2
                    go_roundg g
                    case measure => omega
                    case rel => exact ⟨t + 1, st, v, by go_num, by omega, HA9, HR9⟩
                  · have hrn : impl_newLooker.rnd st pl s1 q1 sd = (st, pl) := by
                      unfold impl_newLooker.rnd
                      rw [← HU.out, if_neg hno, if_neg k5]
                    have HA9 : Aside0 (impl_looker_from.At D.c (D.L.drop (i + 1)) l r p0 s p (t + 1) st pl) := ⟨by have := HAt'.out; rw [hrn] at this; exact this⟩
                    have HR9 := HR7
                    clear HAt' HR7 hrn HU H14
                    go_wp2
                    go_roundg g
                    case measure => omega
                    case rel => exact ⟨t + 1, st, pl, by go_num, by omega, HA9, HR9⟩
          · obtain rfl : gk = 0 := by omega
            obtain rfl : t = 2 := by omega
            obtain ⟨rfl, rfl⟩ := HAt.out
            obtain ⟨es2, cl2, hm2, hg2⟩ := HRv.out.lk.maps i (by omega)
            obtain ⟨es3, cl3, hrun, hg3⟩ := impl_newLooker.run_put (w := wr.drew) hm2 hg2 hl hr (show impl_newLooker.look D.c (D.L.drop i) l r = some (st, pl) from HH.out)
            have HR3 := Aside0.mk (HRv.out.put (cl' := cl3) (by omega) hm2 hg3)
            obtain ⟨mi, hmi⟩ : ∃ mi, mi = D.ms.getD i 0 := ⟨_, rfl⟩
            rw [← hmi] at hrun HR3
            have c2 : wr.cell? ⟨D.lb, 2, none⟩ = some (.slice (some ⟨D.mb, 0, none⟩) (D.L.length + 1) D.mc) := (blk_cell HRv.out.lk.box 2).trans rfl
            have c3 : wr.cell? ⟨D.mb, i, none⟩ = some (.map (some mi)) := by rw [hmi]; exact HRv.out.lk.row i (by omega)
            have c5 : wr.cell? ⟨b5, 0, none⟩ = some (.int .i64 l) := (blk_cell HRv.out.h5 0).trans rfl
            have c6 : wr.cell? ⟨b5, 1, none⟩ = some (.int .i64 r) := (blk_cell HRv.out.h5 1).trans rfl
            have c7 : wr.cell? ⟨b9, 0, none⟩ = some (.int .i64 st) := (blk_cell HRv.out.h9 0).trans rfl
            have c8 : wr.cell? ⟨b9, 1, none⟩ = some (.int .i64 pl) := (blk_cell HRv.out.h9 1).trans rfl
            have hi1 : (i : Int) < (D.L.length : Int) + 1 := by omega
            have hd2 : decide ((2 : Int) < 2) = false := by decide
            clear HRv hmi hm2 hg2 hg3
            go_upto_region 18 with fail
            go_region
            all_goals as_aux_lemma =>
              generalize ChangeMaps.setBlock wr.drew mi (.map es3 cl3) = W9 at *
              have d0 : W9.cell? ⟨b9, 0, none⟩ = some (.int .i64 st) := (blk_cell HR3.out.h9 0).trans rfl
              have d1 : W9.cell? ⟨b9, 1, none⟩ = some (.int .i64 pl) := (blk_cell HR3.out.h9 1).trans rfl
              have d2 : W9.cell? ⟨b5 + 1, 0, none⟩ = some (.int .i64 0) := (blk_cell HR3.out.h6 0).trans rfl
              have d3 : W9.cell? ⟨b5 + 1, 1, none⟩ = some (.int .i64 0) := (blk_cell HR3.out.h6 1).trans rfl
              have d4 := blk_frozen HR3.out.h6 0
              have d5 := blk_frozen HR3.out.h6 1
              clear c2 c3 c5 c6 c7 c8 hrun
              go_wp2
              obtain ⟨o1, o2, o3⟩ := HR3.out.out_ st pl
              exact bodyPost_ret (results_cell_row rfl _ _ (b5 + 1) 43 #[.int .i64 st, .int .i64 pl] (0, 0) _ rfl o1 Tryd.underlying43 rfl (by kernel_rfl)) rfl ⟨rfl, o2, o3⟩
    · have q1 := hhit W1.drew HM1.out
      have q2 := hhit ((W1.alloc (.cells #[.int .i64 0, .int .i64 0] 43)).drew) (blk_alloc (w := W1) HM1.out _)
      have hsp : (s', p') = (s, p) := Option.some.inj (hlk.symm.trans H.out)
      obtain ⟨rfl, rfl⟩ := Prod.mk.inj hsp
      have h6 := H6.out
      rw [show b6 = b5 + 1 by have := HE5.out; have := HE6.out; omega] at h6
      have H6' := Aside0.mk h6
      clear hhit hmem hlk hsp h6 H6
      go_region
      all_goals as_aux_lemma =>
        have hb2 : Below W1.heap.size W1 ((W1.alloc (.cells #[.int .i64 s', .int .i64 p'] 43)).drew) := (below_alloc (Below.refl _ _) _).drew
        have h7 : ((W1.alloc (.cells #[.int .i64 s', .int .i64 p'] 43)).drew).heap[W1.heap.size]? = some (.cells #[.int .i64 s', .int .i64 p'] 43 (0, 0)) := blk_new W1 _
        generalize ((W1.alloc (.cells #[.int .i64 s', .int .i64 p'] 43)).drew) = W2 at *
        have HR : Aside0 (impl_looker_from.Rv w W2 D b5 (b5 + 1) W1.heap.size l r s' p') := ⟨impl_looker_from.begin HLk.out hlim (below_step HB1.out hb2) (blk_below H5.out hb2) (blk_below H6'.out hb2) (by have := HE5.out; omega) (by have := HE5.out; omega) h7 (blk_lt H6'.out)⟩
        clear c0 c1 c2 c3 c5 c6 q1 q2 hb2 h7 HB1 H5 H6' HM1 HL1 HM HR0 hltb hltm
        have d0 : W2.cell? ⟨W1.heap.size, 0, none⟩ = some (.int .i64 s') := (blk_cell HR.out.h9 0).trans rfl
        have d1 : W2.cell? ⟨W1.heap.size, 1, none⟩ = some (.int .i64 p') := (blk_cell HR.out.h9 1).trans rfl
        have d2 : W2.cell? ⟨b5 + 1, 0, none⟩ = some (.int .i64 0) := (blk_cell HR.out.h6 0).trans rfl
        have d3 : W2.cell? ⟨b5 + 1, 1, none⟩ = some (.int .i64 0) := (blk_cell HR.out.h6 1).trans rfl
        have d4 := blk_frozen HR.out.h6 0
        have d5 := blk_frozen HR.out.h6 1
        go_wp2
        obtain ⟨o1, o2, o3⟩ := HR.out.out_ s' p'
        exact bodyPost_ret (results_cell_row rfl _ _ (b5 + 1) 43 #[.int .i64 s', .int .i64 p'] (0, 0) _ rfl o1 Tryd.underlying43 rfl (by kernel_rfl)) rfl ⟨rfl, o2, o3⟩
def impl_looker_from.f (_k : Nat) (t : List Int × Bool) (i l r : Int) : Option (Int × Int) := if 0 ≤ i ∧ i ≤ (t.1.length : Int) ∧ t.1.length ≤ 1000 ∧ (0 ≤ l ∧ l ≤ 11) ∧ (0 ≤ r ∧ r ≤ 11) ∧ (t.1.all fun p => decide (0 ≤ p) && decide (p ≤ 11)) = true then impl_newLooker.look t.2 (t.1.drop i.toNat) l r else none
theorem impl_looker_from.mono : ∀ t i l r k, LeO (impl_looker_from.f k t i l r) (impl_looker_from.f (k + 1) t i l r) := fun _ _ _ _ _ => LeO.refl _
theorem impl_looker_from.calls (k : Nat) (t : List Int × Bool) (i l r s p : Int) (w : World) (h : impl_looker_from.f k t i l r = some (s, p)) (D : impl_newLooker.Dk) (hDL : D.L = t.1) (hDc : D.c = t.2) (HL : impl_newLooker.Lk w D) (hlim : D.lim ≤ w.heap.size) :
    Calls Tryd.prog 23 #[.pointer (some ⟨D.lb, 0, none⟩), .int .i64 i, .agg #[.int .i64 l, .int .i64 r]] w fun e w' => e = .returned (.agg #[.int .i64 s, .int .i64 p]) ∧ impl_newLooker.Lk w' D ∧ impl_newLooker.MK D w w' := by
  unfold impl_looker_from.f at h
  split at h
  · rename_i hc
    obtain ⟨h0, h1, h2, h3, h4, h5⟩ := hc
    obtain ⟨j, rfl⟩ : ∃ j : Nat, i = (j : Int) := ⟨i.toNat, by omega⟩
    rw [Int.toNat_natCast, ← hDL, ← hDc] at h
    rw [← hDL] at h1 h2 h5
    refine impl_looker_from.calls0 D (fun q hq => ?_) h2 (D.L.length - j) j l r s p w (by omega) h3 h4 h HL hlim
    have := List.all_eq_true.1 h5 q hq
    simp only [Bool.and_eq_true, decide_eq_true_eq] at this
    exact this
  · cases h

end Go.Proofs.YthnjmokaiiajmaaDoor.P

namespace Go.Proofs.YthnjmokaiiajmaaDoor.P
open Go.RowKit Go.Proofs.YthnjmokaiiajmaaDoorW.PrintWords Go.Proofs.YthnjmokaiiajmaaDoorW.PrintLast Go.Proofs.YthnjmokaiiajmaaDoorW.PrintMore
attribute [local go_sem] max2_int min2_int max_two min_two max_three min_three max_four min_four   -- for this text's walks alone
set_option linter.unusedVariables false
set_option linter.unusedSimpArgs false

/-! ### impl_FirstThumbs: function 14 -/
def impl_FirstThumbs.go (c : Bool) (t : List Int × Bool) : Nat → Nat → Int → Int → List Int → Option (List Int)
  | 0, _, _, _, acc => some acc
  | d + 1, i, l, r, acc => (impl_thumbs_moved.f l r 0 (t.1.getD i 0) c).bind fun m0 => (impl_looker_from.f 0 t ((i : Int) + 1) m0.1 m0.2.1).bind fun o0 => (impl_looker_from.f 0 t (i : Int) l r).bind fun o => if o.1 < wrap64 (m0.2.2 + o0.1) then (impl_thumbs_moved.f l r 1 (t.1.getD i 0) c).bind fun m1 => impl_FirstThumbs.go c t d (i + 1) m1.1 m1.2.1 (acc ++ [1]) else impl_FirstThumbs.go c t d (i + 1) m0.1 m0.2.1 (acc ++ [0])
def impl_FirstThumbs.f (k : Nat) (a0 a1 a2 : ByteArray) (a3 : Bool) : Option (List Int × Bool) := (impl_thumbsOk.f k a0 a1 a2).bind fun b => (if b.2.2 = true then ((impl_newLooker.f k a0 a3).bind fun t => (if t.1.length ≤ 1000 then ((impl_FirstThumbs.go a3 t t.1.length 0 b.1 b.2.1 []).bind fun out => some (out, true)) else none)) else (some ([], false)))
theorem impl_FirstThumbs.mono : ∀ a0 a1 a2 a3 k, LeO (impl_FirstThumbs.f k a0 a1 a2 a3) (impl_FirstThumbs.f (k + 1) a0 a1 a2 a3) := by
  intro a0 a1 a2 a3 k
  unfold impl_FirstThumbs.f
  refine LeO.bind (impl_thumbsOk.mono _ _ _ _) (fun _ => ?_)
  refine LeO.ite ?_ (LeO.refl _)
  exact LeO.bind (impl_newLooker.mono _ _ _) (fun _ => LeO.refl _)
/-- The state of the loop. -/
structure impl_FirstThumbs.Fs (w wr : World) (D : impl_newLooker.Dk) (B B2 b10 : Nat) (l r : Int) : Prop where
  lk : impl_newLooker.Lk wr D
  lo : impl_newLooker.Lo B D
  below : Below w.heap.size w wr
  lim : D.lim ≤ B2
  size : B2 ≤ wr.heap.size
  h10 : wr.heap[b10]? = some (.cells #[.int .i64 l, .int .i64 r] 39 (0, 0))
  g10 : w.heap.size ≤ b10
  l10 : b10 < B
theorem impl_FirstThumbs.Fs.lt2 {w wr : World} {D : impl_newLooker.Dk} {B B2 b10 : Nat} {l r : Int} (h : impl_FirstThumbs.Fs w wr D B B2 b10 l r) : b10 < B2 := by
  have := h.l10
  have := h.lo.lb
  have := h.lk.lb_lt
  have := h.lim
  omega
theorem impl_FirstThumbs.Fs.grow {w wr w2 : World} {D : impl_newLooker.Dk} {B B2 b10 : Nat} {l r : Int} (h : impl_FirstThumbs.Fs w wr D B B2 b10 l r) (hb : Below wr.heap.size wr w2) : impl_FirstThumbs.Fs w w2 D B B2 b10 l r :=
  ⟨h.lk.keep fun k hk => hb.block k (by have := h.lim; have := h.size; omega), h.lo, below_step h.below hb, h.lim, Nat.le_trans h.size hb.size, blk_below h.h10 hb, h.g10, h.l10⟩
theorem impl_FirstThumbs.Fs.call {w wr w2 : World} {D : impl_newLooker.Dk} {B B2 b10 : Nat} {l r : Int} (h : impl_FirstThumbs.Fs w wr D B B2 b10 l r) (hl : impl_newLooker.Lk w2 D) (hm : impl_newLooker.MK D wr w2) : impl_FirstThumbs.Fs w w2 D B B2 b10 l r :=
  ⟨hl, h.lo, hm.below h.below h.below.size (fun m hmm => by have := h.lo.ms m hmm; have := h.l10; have := h.g10; omega), h.lim, Nat.le_trans h.size hm.size, hm.blk h.lk h.h10, h.g10, h.l10⟩
theorem impl_FirstThumbs.Fs.put {w wr : World} {D : impl_newLooker.Dk} {B B2 b10 : Nat} {l r : Int} (h : impl_FirstThumbs.Fs w wr D B B2 b10 l r) (x y : Int) : impl_FirstThumbs.Fs w ((wr.setCell ⟨b10, 0, none⟩ (.int .i64 x)).setCell ⟨b10, 1, none⟩ (.int .i64 y)) D B B2 b10 x y :=
  ⟨(h.lk.far h.lo (p := ⟨b10, 0, none⟩) h.l10 _).far h.lo (p := ⟨b10, 1, none⟩) h.l10 _, h.lo, below_set (below_set h.below h.g10) h.g10, h.lim, by simpa using h.size, blk_put (cs := #[.int .i64 x, .int .i64 r]) (blk_put h.h10 0 _ rfl) 1 _ rfl, h.g10, h.l10⟩
theorem impl_FirstThumbs.Fs.far {w wr : World} {D : impl_newLooker.Dk} {B B2 b10 : Nat} {l r : Int} (h : impl_FirstThumbs.Fs w wr D B B2 b10 l r) {p : Addr} (hp : B2 ≤ p.block) (u : Value) : impl_FirstThumbs.Fs w (wr.setCell p u) D B B2 b10 l r :=
  ⟨h.lk.keep fun k hk => Below.heap_setCell wr p u k (by have := h.lim; omega), h.lo, h.below.setCell (by have := h.lt2; have := h.g10; omega) _, h.lim, by simpa using h.size, (Below.heap_setCell wr p u _ (by have := h.lt2; omega)).trans h.h10, h.g10, h.l10⟩
theorem impl_FirstThumbs.Fs.grown {w wr w2 : World} {D : impl_newLooker.Dk} {B B2 b10 : Nat} {l r : Int} {v : Value} (h : impl_FirstThumbs.Fs w wr D B B2 b10 l r) (hg : wr.grownBy w2 v.ownBlock) (hv : ∀ k, v.ownBlock = some k → B2 ≤ k) : impl_FirstThumbs.Fs w w2 D B B2 b10 l r :=
  ⟨h.lk.keep fun k hk => hg.block k (by have := h.lim; have := h.size; omega) (fun e => by have := hv k e.symm; have := h.lim; omega), h.lo, Below.grown h.below hg h.below.size (fun k hk => by have := hv k hk; have := h.lt2; have := h.g10; omega), h.lim, Nat.le_trans h.size hg.size, blk_grown h.h10 hg (fun e => by have := hv _ e.symm; have := h.lt2; omega), h.g10, h.l10⟩
theorem impl_FirstThumbs.own_grow {wr w2 : World} {B : Nat} {e : TypeId} {v : Value} {n : Nat} {xs : List Value} (h : wr.ownsRow B e 1 v n xs) (hb : Below wr.heap.size wr w2) : w2.ownsRow B e 1 v n xs :=
  Go.Proofs.YthnjmokaiiajmaaDoorW.PrintWords.own_move h fun k hk => hb.block k (Go.Proofs.YthnjmokaiiajmaaDoorW.PrintWords.own_lt h k hk)
theorem impl_FirstThumbs.own_call {wr w2 : World} {D : impl_newLooker.Dk} {B : Nat} {e : TypeId} {v : Value} {n : Nat} {xs : List Value} (h : wr.ownsRow B e 1 v n xs) (hl : impl_newLooker.Lk wr D) (hm : impl_newLooker.MK D wr w2) : w2.ownsRow B e 1 v n xs :=
  Go.Proofs.YthnjmokaiiajmaaDoorW.PrintWords.own_move h fun k hk => by
    obtain ⟨cells, hc⟩ := Go.Proofs.YthnjmokaiiajmaaDoorW.PrintWords.own_typed h k hk
    exact hm.block k (Go.Proofs.YthnjmokaiiajmaaDoorW.PrintWords.own_lt h k hk) (hl.cells_far hc)
theorem impl_FirstThumbs.own_far {wr : World} {B : Nat} {e : TypeId} {v : Value} {n : Nat} {xs : List Value} (h : wr.ownsRow B e 1 v n xs) {p : Addr} (hp : some p.block ≠ v.ownBlock) (u : Value) : (wr.setCell p u).ownsRow B e 1 v n xs :=
  Go.Proofs.YthnjmokaiiajmaaDoorW.PrintWords.own_move h fun k hk => Below.heap_setCell wr p u k (fun e => hp (e ▸ hk.symm))
set_option maxHeartbeats 8000000 in
set_option maxRecDepth 100000 in
theorem impl_FirstThumbs.calls (k : Nat) (a0 a1 a2 : ByteArray) (a3 : Bool) (r1 : List Int) (r2 : Bool) (w : World) (h : impl_FirstThumbs.f k a0 a1 a2 a3 = some (r1, r2)) :
    Calls Tryd.prog 14 #[.string a0, .string a1, .string a2, .bool a3] w fun e w' => ∃ v0_ : Value, e = .returned (.tuple #[v0_, .bool r2]) ∧ Kd.R (Kd.int .i64) 3 w' w.heap.size (fun _ => True) v0_ r1 ∧ Below w.heap.size w w' := by
  unfold impl_FirstThumbs.f at h
  obtain ⟨⟨tl, tr, ok⟩, h1, h⟩ := Option.bind_eq_some_iff.1 h
  have H1 := Aside0.mk h1
  have hu39 := Tryd.underlying39
  have hu43 := Tryd.underlying43
  clear h1
  cases ok with
  | false =>
    rw [if_neg (by simp)] at h
    obtain ⟨rfl, rfl⟩ := Prod.mk.inj (Option.some.inj h)
    go_enter Tryd.func14, Tryd.ntmps14
    go_wp2_with (first | (go_at_call 21; refine (impl_thumbsOk.calls k a0 a1 a2 tl tr false _ H1.out).mono ?_; rintro e w1 ⟨rfl, hb⟩))
    go_ret2
    exact ⟨_, rfl, Kd.R_nil _ _ _ _ _, below_alloc hb _⟩
  | true =>
    rw [if_pos rfl] at h
    obtain ⟨t, h2, h⟩ := Option.bind_eq_some_iff.1 h
    split at h
    · rename_i hn
      obtain ⟨out, h3, h⟩ := Option.bind_eq_some_iff.1 h
      obtain ⟨rfl, rfl⟩ := Prod.mk.inj (Option.some.inj h)
      have H2 := Aside0.mk h2
      have H3 : Aside0 (impl_FirstThumbs.go a3 t t.1.length 0 tl tr [] = some out) := ⟨h3⟩
      clear h2 h3 h
      go_enter Tryd.func14, Tryd.ntmps14
      go_upto_region 4 with (first | (go_at_call 21; refine (impl_thumbsOk.calls k a0 a1 a2 tl tr true _ H1.out).mono ?_; rintro e w1 ⟨rfl, hb⟩))
      have HB1 : Aside0 (Below w.heap.size w (w1.alloc (.cells #[.int .i64 tl, .int .i64 tr] 39))) := ⟨below_alloc hb _⟩
      have H10 := Aside0.mk (blk_new w1 (.cells #[.int .i64 tl, .int .i64 tr] 39))
      have HG10 : Aside0 (w.heap.size ≤ w1.heap.size) := ⟨hb.size⟩
      clear hb H1
      generalize w1.alloc (.cells #[.int .i64 tl, .int .i64 tr] 39) = W1 at *
      generalize w1.heap.size = b10 at *
      go_upto_region 5 with (first | (go_at_call 22; refine (impl_newLooker.calls k a0 a3 t _ H2.out).mono ?_; rintro e w2 ⟨D, rfl, hDL, hDc, hlim, hlo, hLk, hb2⟩))
      have HX : Aside0 (impl_FirstThumbs.Fs w (w2.alloc (.cells #[] 3)) D W1.heap.size w2.heap.size b10 tl tr) := ⟨⟨hLk.keep fun q hq => Below.heap_alloc _ _ _ (by omega), hlo, below_alloc (below_step HB1.out hb2) _, hlim, by simp, blk_alloc (blk_below H10.out hb2) _, HG10.out, blk_lt H10.out⟩⟩
      have HO : Aside0 ((w2.alloc (.cells #[] 3)).ownsRow w2.heap.size 3 1 (.slice (some ⟨w2.heap.size, 0, none⟩) 0 0) ([] : List Int).length (encs (Value.int .i64) [])) := ⟨rfl, Or.inr ⟨w2.heap.size, 0, #[], rfl, Nat.le_refl _, blk_new _ _, Nat.le_refl _, by unfold maxLen; omega, rfl, rfl⟩⟩
      have hlen : t.1.length = D.L.length := by rw [hDL]
      have HG : Aside0 (impl_FirstThumbs.go a3 t D.L.length 0 tl tr [] = some out) := ⟨by rw [← hlen]; exact H3.out⟩
      have HN : D.L.length ≤ 1000 := by rw [← hlen]; exact hn
      have HD := Aside0.mk hDL
      have HC := Aside0.mk hDc
      have c0 : (w2.alloc (.cells #[] 3)).cell? ⟨D.lb, 0, none⟩ = some (.slice D.A D.L.length D.kc) := (blk_cell HX.out.lk.box 0).trans rfl
      obtain ⟨A, hA⟩ : ∃ A, A = D.A := ⟨_, rfl⟩
      rw [← hA] at c0
      have HA := Aside0.mk hA
      clear H3 hDL hDc hlen hlim hlo hLk hb2 HB1 H10 HG10 H2 hn hA
      generalize w2.alloc (.cells #[] 3) = W3 at *
      obtain ⟨B2, hB2⟩ : ∃ B2, B2 = w2.heap.size := ⟨_, rfl⟩
      rw [← hB2] at HX HO
      simp only [← hB2]
      obtain ⟨B, hB⟩ : ∃ B, B = W1.heap.size := ⟨_, rfl⟩
      rw [← hB] at HX
      clear hB hB2
      obtain ⟨N, hN⟩ : ∃ N, N = D.L.length := ⟨_, rfl⟩
      rw [← hN] at c0 HG HN
      have HNe := Aside0.mk hN
      clear hN
      go_wp2
      clear c0
      go_loopg [13, 37] N (fun gg v13 v37 wr => ∃ (i : Nat) (l r : Int) (acc : List Int), v37 = .int .i64 (i : Int) ∧ i + gg = N ∧ acc.length = i ∧ Aside0 (impl_FirstThumbs.go a3 t gg i l r acc = some out) ∧ Aside0 (impl_FirstThumbs.Fs w wr D B B2 b10 l r) ∧ Aside0 (wr.ownsRow B2 3 1 v13 acc.length (encs (Value.int .i64) acc)))
      case atStart => exact ⟨0, tl, tr, [], rfl, by omega, rfl, HG, HX, HO⟩
      case round =>
        clear HG HX HO
        obtain ⟨i, l, r, acc, rfl, hi, hal, HG, HX, HO⟩ := hrel
        by_cases hlt : i < N
        · obtain ⟨g, rfl⟩ : ∃ g, gk = g + 1 := ⟨gk - 1, by omega⟩
          have hG := HG.out
          rw [impl_FirstThumbs.go] at hG
          obtain ⟨⟨x0, y0, sd0⟩, m0, hG⟩ := Option.bind_eq_some_iff.1 hG
          obtain ⟨⟨s0, q0⟩, o0, hG⟩ := Option.bind_eq_some_iff.1 hG
          obtain ⟨⟨s1, q1⟩, o1, hG⟩ := Option.bind_eq_some_iff.1 hG
          dsimp only at o0 o1 hG
          obtain ⟨kb, ko, _, hA', hk⟩ := HX.out.lk.keys i (by rw [← HNe.out]; exact hlt)
          obtain rfl := HA.out.trans hA'
          have hkey : wr.cell? ⟨kb, ko + i, none⟩ = some (.int .i64 (t.1.getD i 0)) := by rw [← HD.out]; exact hk
          obtain ⟨p, hp⟩ : ∃ p, p = t.1.getD i 0 := ⟨_, rfl⟩
          rw [← hp] at m0 hG hkey
          have HMv : Aside0 (∀ W, Calls Tryd.prog 28 #[.agg #[.int .i64 l, .int .i64 r], .int .i64 0, .int .i64 p, .bool a3] W fun e w' => e = .returned (.tuple #[.agg #[.int .i64 x0, .int .i64 y0], .int .i64 sd0]) ∧ Below W.heap.size W w') := ⟨fun W => impl_thumbs_moved.calls l r 0 p a3 x0 y0 sd0 W m0⟩
          have HO0 := Aside0.mk o0
          have HO1 := Aside0.mk o1
          have HG2 := Aside0.mk hG
          clear HG hG m0 o0 o1 hk hA' hp
          have hi0 : (i : Int) < (N : Int) := by omega
          have hid : decide ((i : Int) < (N : Int)) = true := decide_eq_true hi0
          have hiz : (0 : Int) ≤ (i : Int) := Int.natCast_nonneg _
          have hwi : IntKind.i64.wrap ((i : Int) + 1) = (i : Int) + 1 := (i64_w _).trans (by unfold wrap64; omega)
          have c0 : wr.cell? ⟨b10, 0, none⟩ = some (.int .i64 l) := (blk_cell HX.out.h10 0).trans rfl
          have c1 : wr.cell? ⟨b10, 1, none⟩ = some (.int .i64 r) := (blk_cell HX.out.h10 1).trans rfl
          go_upto_region 10 with (first | (go_at_call 28; refine (HMv.out _).mono ?_; rintro e w5 ⟨rfl, hb5⟩))
          have HX6 := Aside0.mk ((HX.out.grow hb5).grow (below_alloc (Below.refl _ _) (.cells #[.int .i64 x0, .int .i64 y0] 39)))
          have HO6 : Aside0 ((w5.alloc (.cells #[.int .i64 x0, .int .i64 y0] 39)).ownsRow B2 3 1 _ acc.length (encs (Value.int .i64) acc)) := ⟨impl_FirstThumbs.own_grow (impl_FirstThumbs.own_grow HO.out hb5) (below_alloc (Below.refl _ _) _)⟩
          have h17 := blk_new w5 (.cells #[.int .i64 x0, .int .i64 y0] 39)
          have g17 : B2 ≤ w5.heap.size := Nat.le_trans HX.out.size hb5.size
          clear HX HO hb5 HMv c0 c1 hkey
          generalize w5.alloc (.cells #[.int .i64 x0, .int .i64 y0] 39) = W6 at *
          generalize w5.heap.size = b17 at *
          have H17 := Aside0.mk h17
          clear h17
          have lk6 := Aside0.mk HX6.out.lk
          have hfl0 : ∀ W : World, (Instr.field 43 (.agg #[.int .i64 s0, .int .i64 q0]) 0).run Tryd.prog W = .ok (.int .i64 s0) W := fun W => by kernel_rfl
          have hfl1 : ∀ W : World, (Instr.field 43 (.agg #[.int .i64 s1, .int .i64 q1]) 0).run Tryd.prog W = .ok (.int .i64 s1) W := fun W => by kernel_rfl
          obtain ⟨u, hu⟩ : ∃ u, u = wrap64 (sd0 + s0) := ⟨_, rfl⟩
          have hwu : IntKind.i64.wrap (sd0 + s0) = u := by rw [i64_w, hu]
          have HG3 : Aside0 ((if s1 < u then (impl_thumbs_moved.f l r 1 p a3).bind fun m1 => impl_FirstThumbs.go a3 t g (i + 1) m1.1 m1.2.1 (acc ++ [1]) else impl_FirstThumbs.go a3 t g (i + 1) x0 y0 (acc ++ [0])) = some out) := ⟨by rw [hu]; exact HG2.out⟩
          have hlim6 : Aside0 (D.lim ≤ W6.heap.size) := ⟨Nat.le_trans HX6.out.lim HX6.out.size⟩
          clear HG2 hu hG h
          have c0 : W6.cell? ⟨b10, 0, none⟩ = some (.int .i64 l) := (blk_cell HX6.out.h10 0).trans rfl
          have c1 : W6.cell? ⟨b10, 1, none⟩ = some (.int .i64 r) := (blk_cell HX6.out.h10 1).trans rfl
          have c2 : W6.cell? ⟨b17, 0, none⟩ = some (.int .i64 x0) := (blk_cell H17.out 0).trans rfl
          have c3 : W6.cell? ⟨b17, 1, none⟩ = some (.int .i64 y0) := (blk_cell H17.out 1).trans rfl
          have hS0 : Aside0 (impl_newLooker.Lk W6.drew D ∧ impl_newLooker.MK D W6 W6.drew) := ⟨⟨lk6.out.keep fun _ _ => rfl, impl_newLooker.MK.of_below ((Below.refl _ _).drew)⟩⟩
          go_region_held3 (fun w' => w'.cell? ⟨b10, 0, none⟩ = some (.int .i64 l) ∧ w'.cell? ⟨b10, 1, none⟩ = some (.int .i64 r) ∧ w'.cell? ⟨b17, 0, none⟩ = some (.int .i64 x0) ∧ w'.cell? ⟨b17, 1, none⟩ = some (.int .i64 y0) ∧ Aside0 (impl_newLooker.Lk w' D ∧ impl_newLooker.MK D W6 w')) (first | exact ⟨(blk_cell (hmk8.blk lk6.out HX6.out.h10) 0).trans rfl, (blk_cell (hmk8.blk lk6.out HX6.out.h10) 1).trans rfl, (blk_cell (hmk8.blk lk6.out H17.out) 0).trans rfl, (blk_cell (hmk8.blk lk6.out H17.out) 1).trans rfl, ⟨hlk7, hmk8⟩⟩ | exact ⟨c0, c1, c2, c3, hS0⟩) (first | (go_at_call 23; rcases ‹_ ∧ _ ∧ _ ∧ _ ∧ Aside0 _› with ⟨_, _, _, _, hS9⟩; with_reducible refine (impl_looker_from.calls 0 t ((i : Int) + 1) x0 y0 s0 q0 _ HO0.out D HD.out HC.out hS9.out.1 (Nat.le_trans hlim6.out hS9.out.2.size)).mono ?_; rintro e w7 ⟨rfl, hlk7, hmk7⟩; have hmk8 := hS9.out.2.trans hmk7) | (go_at_call 23; rcases ‹_ ∧ _ ∧ _ ∧ _ ∧ Aside0 _› with ⟨_, _, _, _, hS9⟩; with_reducible refine (impl_looker_from.calls 0 t (i : Int) l r s1 q1 _ HO1.out D HD.out HC.out hS9.out.1 (Nat.le_trans hlim6.out hS9.out.2.size)).mono ?_; rintro e w7 ⟨rfl, hlk7, hmk7⟩; have hmk8 := hS9.out.2.trans hmk7))
          all_goals as_aux_lemma =>
            have HX9 := Aside0.mk (HX6.out.call hlk7 hmk8)
            have HO9 := Aside0.mk (impl_FirstThumbs.own_call HO6.out lk6.out hmk8)
            have H179 := Aside0.mk (hmk8.blk lk6.out H17.out)
            clear HX6 HO6 H17 hlk7 hmk7 hmk8 lk6 hS0 hS9 HO0 HO1 hfl0 hfl1 c0 c1 c2 c3 hlim6
            by_cases kk : s1 < u
            · have kd : decide (s1 < u) = true := decide_eq_true kk
              have hG := HG3.out
              rw [if_pos kk] at hG
              obtain ⟨⟨x1, y1, sd1⟩, m1, hG⟩ := Option.bind_eq_some_iff.1 hG
              have HG4 : Aside0 (impl_FirstThumbs.go a3 t g (i + 1) x1 y1 (acc ++ [1]) = some out) := ⟨hG⟩
              have HMv : Aside0 (∀ W, Calls Tryd.prog 28 #[.agg #[.int .i64 l, .int .i64 r], .int .i64 1, .int .i64 p, .bool a3] W fun e w' => e = .returned (.tuple #[.agg #[.int .i64 x1, .int .i64 y1], .int .i64 sd1]) ∧ Below W.heap.size W w') := ⟨fun W => impl_thumbs_moved.calls l r 1 p a3 x1 y1 sd1 W m1⟩
              clear HG3 hG m1
              have c0 : w7.cell? ⟨b10, 0, none⟩ = some (.int .i64 l) := (blk_cell HX9.out.h10 0).trans rfl
              have c1 : w7.cell? ⟨b10, 1, none⟩ = some (.int .i64 r) := (blk_cell HX9.out.h10 1).trans rfl
              go_upto_region 12 with fail
              go_upto_region 13 with (first | (go_at_call 28; refine (HMv.out _).mono ?_; rintro e w8 ⟨rfl, hb8⟩; have h17_ := blk_below H179.out hb8; have e0 : w8.cell? ⟨b17, 0, none⟩ = some (.int .i64 x0) := (blk_cell h17_ 0).trans rfl; have e1 : w8.cell? ⟨b17, 1, none⟩ = some (.int .i64 y0) := (blk_cell h17_ 1).trans rfl; have e2 := blk_frozen h17_ 0; have e3 := blk_frozen h17_ 1))
              have HX11 := Aside0.mk (((HX9.out.grow hb8).far (p := ⟨b17, 0, none⟩) g17 (.int .i64 x1)).far (p := ⟨b17, 1, none⟩) g17 (.int .i64 y1))
              have h17u : some b17 ≠ u13.ownBlock := fun e => by
                obtain ⟨cells, hc⟩ := Go.Proofs.YthnjmokaiiajmaaDoorW.PrintWords.own_typed HO9.out b17 e.symm
                have := hc.symm.trans H179.out
                cases this
              have HO11 := Aside0.mk (impl_FirstThumbs.own_far (p := ⟨b17, 1, none⟩) (impl_FirstThumbs.own_far (p := ⟨b17, 0, none⟩) (impl_FirstThumbs.own_grow HO9.out hb8) h17u (.int .i64 x1)) h17u (.int .i64 y1))
              have H17b := Aside0.mk (blk_put (cs := #[.int .i64 x1, .int .i64 y0]) (blk_put h17_ 0 (.int .i64 x1) rfl) 1 (.int .i64 y1) rfl)
              clear HX9 HO9 H179 hb8 h17_ e0 e1 e2 e3 c0 c1 HMv
              generalize (w8.setCell ⟨b17, 0, none⟩ (.int .i64 x1)).setCell ⟨b17, 1, none⟩ (.int .i64 y1) = W11 at *
              obtain ⟨i9, hi9, hz9, hz91, hz92⟩ := info_parts info3
              have hne : some b10 ≠ u13.ownBlock := fun e => by
                have := Go.Proofs.YthnjmokaiiajmaaDoorW.PrintWords.own_base HO11.out b10 e.symm
                have := HX11.out.lt2
                omega
              have hlg : b10 < W11.heap.size := blk_lt HX11.out.h10
              have hl17 : b17 < W11.heap.size := blk_lt H17b.out
              have hs11 : B2 ≤ W11.heap.size := HX11.out.size
              have c0 : W11.cell? ⟨b10, 0, none⟩ = some (.int .i64 l) := (blk_cell HX11.out.h10 0).trans rfl
              have c1 : W11.cell? ⟨b10, 1, none⟩ = some (.int .i64 r) := (blk_cell HX11.out.h10 1).trans rfl
              have c2 : W11.cell? ⟨b17, 0, none⟩ = some (.int .i64 x1) := (blk_cell H17b.out 0).trans rfl
              have c3 : W11.cell? ⟨b17, 1, none⟩ = some (.int .i64 y1) := (blk_cell H17b.out 1).trans rfl
              have f0 := blk_frozen HX11.out.h10 0
              have f1 := blk_frozen HX11.out.h10 1
              have hnn : b10 ≠ b17 := by
                have := HX11.out.lt2
                omega
              have hacc : acc.length ≤ 1000 := by omega
              have hA0 := blk_alloc HX11.out.h10 (.cells #[.int .i64 1] 3)
              have ca0 : (W11.alloc (.cells #[.int .i64 1] 3)).cell? ⟨b10, 0, none⟩ = some (.int .i64 l) := (blk_cell hA0 0).trans rfl
              have ca1 : (W11.alloc (.cells #[.int .i64 1] 3)).cell? ⟨b10, 1, none⟩ = some (.int .i64 r) := (blk_cell hA0 1).trans rfl
              have hB0 := blk_alloc H17b.out (.cells #[.int .i64 1] 3)
              have ca2 : (W11.alloc (.cells #[.int .i64 1] 3)).cell? ⟨b17, 0, none⟩ = some (.int .i64 x1) := (blk_cell hB0 0).trans rfl
              have ca3 : (W11.alloc (.cells #[.int .i64 1] 3)).cell? ⟨b17, 1, none⟩ = some (.int .i64 y1) := (blk_cell hB0 1).trans rfl
              have hne7 : some b17 ≠ u13.ownBlock := fun e => by
                obtain ⟨cells, hc⟩ := Go.Proofs.YthnjmokaiiajmaaDoorW.PrintWords.own_typed HO11.out b17 e.symm
                have := hc.symm.trans H17b.out
                cases this
              clear hB0
              have fa0 := blk_frozen hA0 0
              have fa1 := blk_frozen hA0 1
              have HA0 := Aside0.mk hA0
              clear hA0
              have HOs := Aside0.mk (impl_FirstThumbs.own_far (p := ⟨b10, 1, none⟩) (impl_FirstThumbs.own_far (p := ⟨b10, 0, none⟩) HO11.out hne (.int .i64 x1)) hne (.int .i64 y1))
              go_region_law
                ((refine step_append_lies _ (by rfl) _ _ _ (by rfl) B2 3 i9 _ 1 8 Tryd.underlying28 hi9 hz9 hz91 hz92 rfl (by omega) u13 acc.length (encs (Value.int .i64) acc) (by rfl) (by first | exact (HO11.out.alloc _).drew | exact HO11.out.drew.alloc _ | exact HO11.out.alloc _ | exact (HOs.out.alloc _).drew | exact HOs.out.drew.alloc _ | exact HOs.out.alloc _ | exact impl_FirstThumbs.own_far (impl_FirstThumbs.own_far (HO11.out.alloc _).drew hne _) hne _ | exact (impl_FirstThumbs.own_far (impl_FirstThumbs.own_far (HO11.out.alloc _) hne _) hne _).drew) ⟨W11.heap.size, 0, none⟩ 1 1 [.int .i64 1] (by rfl) (by rfl) (by first | exact World.news_of_block (cs := #[.int .i64 1]) (t := 3) (fr := (0, 0)) (heap_alloc_new W11 _) | exact World.news_of_block (cs := #[.int .i64 1]) (t := 3) (fr := (0, 0)) (by simpa using heap_alloc_new ((W11.setCell ⟨b10, 0, none⟩ (.int .i64 x1)).setCell ⟨b10, 1, none⟩ (.int .i64 y1)) (.cells #[.int .i64 1] 3)) | exact World.news_of_block (cs := #[.int .i64 1]) (t := 3) (fr := (0, 0)) (by rw [World.drew_heap]; simp)) (by simp [Value.oneCell']) (by omega) (by simp only [maxLen]; omega) (by omega) (by simp; omega) (W11.heap.size + 1) (by simp) ?_; intro gg7 cap7 w7 hown7 hg7 hat7 hlt7; (try have f70 : w7.frozen? ⟨b10, 0, none⟩ = false := (hg7.frozen_far ⟨b10, 0, none⟩ (by simp; omega) hne).trans (by first | exact fa0 | simpa using fa0)); (try have f71 : w7.frozen? ⟨b10, 1, none⟩ = false := (hg7.frozen_far ⟨b10, 1, none⟩ (by simp; omega) hne).trans (by first | exact fa1 | simpa using fa1)); (try have c70 : w7.cell? ⟨b10, 0, none⟩ = some (.int .i64 l) := (hg7.cell_far ⟨b10, 0, none⟩ (by simp; omega) hne).trans (by first | exact ca0 | simpa using ca0)); (try have c72 : w7.cell? ⟨b17, 0, none⟩ = some (.int .i64 x1) := (hg7.cell_far ⟨b17, 0, none⟩ (by simp; omega) hne7).trans (by first | exact ca2 | simpa using ca2)); (try have c73 : w7.cell? ⟨b17, 1, none⟩ = some (.int .i64 y1) := (hg7.cell_far ⟨b17, 1, none⟩ (by simp; omega) hne7).trans (by first | exact ca3 | simpa using ca3)); (try have c71 : w7.cell? ⟨b10, 1, none⟩ = some (.int .i64 r) := (hg7.cell_far ⟨b10, 1, none⟩ (by simp; omega) hne).trans (by first | exact ca1 | simpa using ca1))))
              all_goals as_aux_lemma =>
                have hHG : Aside0 (impl_FirstThumbs.go a3 t g (i + 1) x1 y1 (acc ++ [1]) = some out) := HG4
                have HX12 : impl_FirstThumbs.Fs w w7 D B B2 b10 l r := (HX11.out.grow (((below_alloc (Below.refl _ _) _).drew))).grown hg7 (fun q hq => Go.Proofs.YthnjmokaiiajmaaDoorW.PrintWords.own_base HO11.out q hq)
                have HX13 := Aside0.mk (HX12.put x1 y1)
                have hgg : b10 ≠ gg7 := fun e => by
                  have := Go.Proofs.YthnjmokaiiajmaaDoorW.PrintWords.own_base hown7 gg7 rfl
                  have := HX12.lt2
                  omega
                have hgo : some b10 ≠ (Value.slice (some (⟨gg7, 0, none⟩ : Addr)) (acc.length + 1) cap7).ownBlock := fun e => hgg (Option.some.inj e)
                have hO := impl_FirstThumbs.own_far (p := ⟨b10, 1, none⟩) (impl_FirstThumbs.own_far (p := ⟨b10, 0, none⟩) hown7 hgo (.int .i64 x1)) hgo (.int .i64 y1)
                have HO13 : Aside0 (((w7.setCell ⟨b10, 0, none⟩ (.int .i64 x1)).setCell ⟨b10, 1, none⟩ (.int .i64 y1)).ownsRow B2 3 1 (.slice (some ⟨gg7, 0, none⟩) (acc.length + 1) cap7) (acc ++ [1]).length (encs (Value.int .i64) (acc ++ [1]))) := ⟨by rw [List.length_append, List.length_singleton, show encs (Value.int .i64) (acc ++ [1]) = encs (Value.int .i64) acc ++ [.int .i64 1] by simp [encs]]; exact hO⟩
                clear hown7 hg7 hat7 hlt7 f70 f71 c70 c71 c72 c73 ca0 ca1 ca2 ca3 fa0 fa1 HA0 HOs HX12 hgg hgo hO hne hne7 hlg hl17 hs11 c0 c1 c2 c3 f0 f1 hnn HX11 HO11 H17b
                generalize (w7.setCell ⟨b10, 0, none⟩ (.int .i64 x1)).setCell ⟨b10, 1, none⟩ (.int .i64 y1) = W13 at *
                go_wp2
                go_roundg g
                case measure => omega
                case rel => exact ⟨i + 1, x1, y1, acc ++ [1], by go_num, by omega, by rw [List.length_append, List.length_singleton, hal], hHG, HX13, (by rw [← hal]; exact HO13)⟩
            · have kd : decide (s1 < u) = false := decide_eq_false kk
              have hG := HG3.out
              rw [if_neg kk] at hG
              have HG4 : Aside0 (impl_FirstThumbs.go a3 t g (i + 1) x0 y0 (acc ++ [0]) = some out) := ⟨hG⟩
              clear HG3 hG
              go_upto_region 13 with fail
              have HX11 := HX9
              have HO11 := HO9
              have H17b := H179
              clear HX9 HO9 H179
              generalize w7 = W11 at *
              obtain ⟨i9, hi9, hz9, hz91, hz92⟩ := info_parts info3
              have hne : some b10 ≠ u13.ownBlock := fun e => by
                have := Go.Proofs.YthnjmokaiiajmaaDoorW.PrintWords.own_base HO11.out b10 e.symm
                have := HX11.out.lt2
                omega
              have hlg : b10 < W11.heap.size := blk_lt HX11.out.h10
              have hl17 : b17 < W11.heap.size := blk_lt H17b.out
              have hs11 : B2 ≤ W11.heap.size := HX11.out.size
              have c0 : W11.cell? ⟨b10, 0, none⟩ = some (.int .i64 l) := (blk_cell HX11.out.h10 0).trans rfl
              have c1 : W11.cell? ⟨b10, 1, none⟩ = some (.int .i64 r) := (blk_cell HX11.out.h10 1).trans rfl
              have c2 : W11.cell? ⟨b17, 0, none⟩ = some (.int .i64 x0) := (blk_cell H17b.out 0).trans rfl
              have c3 : W11.cell? ⟨b17, 1, none⟩ = some (.int .i64 y0) := (blk_cell H17b.out 1).trans rfl
              have f0 := blk_frozen HX11.out.h10 0
              have f1 := blk_frozen HX11.out.h10 1
              have hnn : b10 ≠ b17 := by
                have := HX11.out.lt2
                omega
              have hacc : acc.length ≤ 1000 := by omega
              have hA0 := blk_alloc HX11.out.h10 (.cells #[.int .i64 0] 3)
              have ca0 : (W11.alloc (.cells #[.int .i64 0] 3)).cell? ⟨b10, 0, none⟩ = some (.int .i64 l) := (blk_cell hA0 0).trans rfl
              have ca1 : (W11.alloc (.cells #[.int .i64 0] 3)).cell? ⟨b10, 1, none⟩ = some (.int .i64 r) := (blk_cell hA0 1).trans rfl
              have hB0 := blk_alloc H17b.out (.cells #[.int .i64 0] 3)
              have ca2 : (W11.alloc (.cells #[.int .i64 0] 3)).cell? ⟨b17, 0, none⟩ = some (.int .i64 x0) := (blk_cell hB0 0).trans rfl
              have ca3 : (W11.alloc (.cells #[.int .i64 0] 3)).cell? ⟨b17, 1, none⟩ = some (.int .i64 y0) := (blk_cell hB0 1).trans rfl
              have hne7 : some b17 ≠ u13.ownBlock := fun e => by
                obtain ⟨cells, hc⟩ := Go.Proofs.YthnjmokaiiajmaaDoorW.PrintWords.own_typed HO11.out b17 e.symm
                have := hc.symm.trans H17b.out
                cases this
              clear hB0
              have fa0 := blk_frozen hA0 0
              have fa1 := blk_frozen hA0 1
              have HA0 := Aside0.mk hA0
              clear hA0
              have HOs := Aside0.mk (impl_FirstThumbs.own_far (p := ⟨b10, 1, none⟩) (impl_FirstThumbs.own_far (p := ⟨b10, 0, none⟩) HO11.out hne (.int .i64 x0)) hne (.int .i64 y0))
              go_region_law
                ((refine step_append_lies _ (by rfl) _ _ _ (by rfl) B2 3 i9 _ 1 8 Tryd.underlying28 hi9 hz9 hz91 hz92 rfl (by omega) u13 acc.length (encs (Value.int .i64) acc) (by rfl) (by first | exact (HO11.out.alloc _).drew | exact HO11.out.drew.alloc _ | exact HO11.out.alloc _ | exact (HOs.out.alloc _).drew | exact HOs.out.drew.alloc _ | exact HOs.out.alloc _ | exact impl_FirstThumbs.own_far (impl_FirstThumbs.own_far (HO11.out.alloc _).drew hne _) hne _ | exact (impl_FirstThumbs.own_far (impl_FirstThumbs.own_far (HO11.out.alloc _) hne _) hne _).drew) ⟨W11.heap.size, 0, none⟩ 1 1 [.int .i64 0] (by rfl) (by rfl) (by first | exact World.news_of_block (cs := #[.int .i64 0]) (t := 3) (fr := (0, 0)) (heap_alloc_new W11 _) | exact World.news_of_block (cs := #[.int .i64 0]) (t := 3) (fr := (0, 0)) (by simpa using heap_alloc_new ((W11.setCell ⟨b10, 0, none⟩ (.int .i64 x0)).setCell ⟨b10, 1, none⟩ (.int .i64 y0)) (.cells #[.int .i64 0] 3)) | exact World.news_of_block (cs := #[.int .i64 0]) (t := 3) (fr := (0, 0)) (by rw [World.drew_heap]; simp)) (by simp [Value.oneCell']) (by omega) (by simp only [maxLen]; omega) (by omega) (by simp; omega) (W11.heap.size + 1) (by simp) ?_; intro gg7 cap7 w7 hown7 hg7 hat7 hlt7; (try have f70 : w7.frozen? ⟨b10, 0, none⟩ = false := (hg7.frozen_far ⟨b10, 0, none⟩ (by simp; omega) hne).trans (by first | exact fa0 | simpa using fa0)); (try have f71 : w7.frozen? ⟨b10, 1, none⟩ = false := (hg7.frozen_far ⟨b10, 1, none⟩ (by simp; omega) hne).trans (by first | exact fa1 | simpa using fa1)); (try have c70 : w7.cell? ⟨b10, 0, none⟩ = some (.int .i64 l) := (hg7.cell_far ⟨b10, 0, none⟩ (by simp; omega) hne).trans (by first | exact ca0 | simpa using ca0)); (try have c72 : w7.cell? ⟨b17, 0, none⟩ = some (.int .i64 x0) := (hg7.cell_far ⟨b17, 0, none⟩ (by simp; omega) hne7).trans (by first | exact ca2 | simpa using ca2)); (try have c73 : w7.cell? ⟨b17, 1, none⟩ = some (.int .i64 y0) := (hg7.cell_far ⟨b17, 1, none⟩ (by simp; omega) hne7).trans (by first | exact ca3 | simpa using ca3)); (try have c71 : w7.cell? ⟨b10, 1, none⟩ = some (.int .i64 r) := (hg7.cell_far ⟨b10, 1, none⟩ (by simp; omega) hne).trans (by first | exact ca1 | simpa using ca1))))
              all_goals as_aux_lemma =>
                have hHG : Aside0 (impl_FirstThumbs.go a3 t g (i + 1) x0 y0 (acc ++ [0]) = some out) := HG4
                have HX12 : impl_FirstThumbs.Fs w w7 D B B2 b10 l r := (HX11.out.grow (((below_alloc (Below.refl _ _) _).drew))).grown hg7 (fun q hq => Go.Proofs.YthnjmokaiiajmaaDoorW.PrintWords.own_base HO11.out q hq)
                have HX13 := Aside0.mk (HX12.put x0 y0)
                have hgg : b10 ≠ gg7 := fun e => by
                  have := Go.Proofs.YthnjmokaiiajmaaDoorW.PrintWords.own_base hown7 gg7 rfl
                  have := HX12.lt2
                  omega
                have hgo : some b10 ≠ (Value.slice (some (⟨gg7, 0, none⟩ : Addr)) (acc.length + 1) cap7).ownBlock := fun e => hgg (Option.some.inj e)
                have hO := impl_FirstThumbs.own_far (p := ⟨b10, 1, none⟩) (impl_FirstThumbs.own_far (p := ⟨b10, 0, none⟩) hown7 hgo (.int .i64 x0)) hgo (.int .i64 y0)
                have HO13 : Aside0 (((w7.setCell ⟨b10, 0, none⟩ (.int .i64 x0)).setCell ⟨b10, 1, none⟩ (.int .i64 y0)).ownsRow B2 3 1 (.slice (some ⟨gg7, 0, none⟩) (acc.length + 1) cap7) (acc ++ [0]).length (encs (Value.int .i64) (acc ++ [0]))) := ⟨by rw [List.length_append, List.length_singleton, show encs (Value.int .i64) (acc ++ [0]) = encs (Value.int .i64) acc ++ [.int .i64 0] by simp [encs]]; exact hO⟩
                clear hown7 hg7 hat7 hlt7 f70 f71 c70 c71 c72 c73 ca0 ca1 ca2 ca3 fa0 fa1 HA0 HOs HX12 hgg hgo hO hne hne7 hlg hl17 hs11 c0 c1 c2 c3 f0 f1 hnn HX11 HO11 H17b
                generalize (w7.setCell ⟨b10, 0, none⟩ (.int .i64 x0)).setCell ⟨b10, 1, none⟩ (.int .i64 y0) = W13 at *
                go_wp2
                go_roundg g
                case measure => omega
                case rel => exact ⟨i + 1, x0, y0, acc ++ [0], by go_num, by omega, by rw [List.length_append, List.length_singleton, hal], hHG, HX13, (by rw [← hal]; exact HO13)⟩
        · obtain rfl : gk = 0 := by omega
          have hG := HG.out
          rw [impl_FirstThumbs.go] at hG
          obtain rfl := Option.some.inj hG
          have hid : decide ((i : Int) < (N : Int)) = false := decide_eq_false (by omega)
          have hR : Kd.R (Kd.int .i64) 3 wr w.heap.size (fun _ => True) _ acc := Kd.R_lower (Kd.R_of_own HO.out (fun _ _ => trivial)) (by have := HX.out.lt2; have := HX.out.g10; omega)
          have HR := Aside0.mk hR
          have HBf := Aside0.mk HX.out.below
          clear HG hG HX HO hR
          go_wp2
          go_ret2
          exact ⟨_, rfl, HR.out, HBf.out⟩
    · cases h

end Go.Proofs.YthnjmokaiiajmaaDoor.P

namespace Go.Proofs.YthnjmokaiiajmaaDoor.P
open Go.RowKit Go.Proofs.YthnjmokaiiajmaaDoorW.PrintWords Go.Proofs.YthnjmokaiiajmaaDoorW.PrintLast Go.Proofs.YthnjmokaiiajmaaDoorW.PrintMore
attribute [local go_sem] max2_int min2_int max_two min_two max_three min_three max_four min_four   -- for this text's walks alone
set_option linter.unusedVariables false
set_option linter.unusedSimpArgs false

/-! ### laws_eqIntS: function 15 -/
def laws_eqIntS.l0 : Nat → List Int → List Int → Int → Option (Bool)
  | 0, _, _, _ => none
  | k + 1, x0, x1, x5 => if x5 < (x0.length : Int) then (if 0 ≤ x5 then (if x5 < (x1.length : Int) then (if (rd x0 x5) = (rd x1 x5) then (laws_eqIntS.l0 k x0 x1 (wrap64 (x5 + 1))) else (some false)) else (none)) else (none)) else (some true)
def laws_eqIntS.f (k : Nat) (l0 : List Int) (l1 : List Int) : Option (Bool) := if (l0.length : Int) = (l1.length : Int) then (laws_eqIntS.l0 k l0 l1 0) else (some false)
theorem laws_eqIntS.mono_l : ∀ k, (∀ y0 y1 y2, LeO (laws_eqIntS.l0 k y0 y1 y2) (laws_eqIntS.l0 (k + 1) y0 y1 y2))
  | 0 => fun _ _ _ r h => by simp [laws_eqIntS.l0] at h
  | k + 1 => by
    have ih0 := laws_eqIntS.mono_l k
    · intro y0 y1 y2
      unfold laws_eqIntS.l0
      repeat' first
      | (with_reducible exact ih0 _ _ _)
      | (with_reducible exact LeO.refl _)
      | (with_reducible exact LeO.none _)
      | (with_reducible refine LeO.ite ?_ ?_)
      | (with_reducible refine LeO.bind ?_ (fun _ => ?_))
      | exact ih0 _ _ _
      | exact LeO.none _
      | refine LeO.ite ?_ ?_
      | refine LeO.bind ?_ (fun _ => ?_)
theorem laws_eqIntS.mono : ∀ a0 a1 k, LeO (laws_eqIntS.f k a0 a1) (laws_eqIntS.f (k + 1) a0 a1) := by
  intro a0 a1 k
  have ih0 := laws_eqIntS.mono_l k
  unfold laws_eqIntS.f
  repeat' first
      | (with_reducible exact ih0 _ _ _)
      | (with_reducible exact LeO.refl _)
      | (with_reducible exact LeO.none _)
      | (with_reducible refine LeO.ite ?_ ?_)
      | (with_reducible refine LeO.bind ?_ (fun _ => ?_))
      | exact ih0 _ _ _
      | exact LeO.none _
      | refine LeO.ite ?_ ?_
      | refine LeO.bind ?_ (fun _ => ?_)
set_option maxHeartbeats 8000000 in
set_option maxRecDepth 100000 in
theorem laws_eqIntS.calls (k : Nat) (A0 : Option Addr) (c0 : Nat) (l0 : List Int) (A1 : Option Addr) (c1 : Nat) (l1 : List Int) (r : Bool) (w : World) (hr0 : Kd.C (Kd.int .i64) w A0 l0.length l0) (hc0 : l0.length ≤ c0) (hr1 : Kd.C (Kd.int .i64) w A1 l1.length l1) (hc1 : l1.length ≤ c1) (h : laws_eqIntS.f k l0 l1 = some r) :
    Calls Tryd.prog 15 #[.slice A0 l0.length c0, .slice A1 l1.length c1] w fun e w' => e = .returned (.bool r) ∧ Drawn0 w w' := by
  have HR0 := Aside0.mk hr0
  have HC0 := Aside0.mk hc0
  clear hr0 hc0
  have HR1 := Aside0.mk hr1
  have HC1 := Aside0.mk hc1
  clear hr1 hc1
  have H : (if (l0.length : Int) = (l1.length : Int) then (laws_eqIntS.l0 k l0 l1 0) else (some false)) = some r := h
  clear h
  by_cases c3 : (l0.length : Int) = (l1.length : Int)
  · rw [if_pos c3] at H
    have c3b0 : ((l0.length : Int) == (l1.length : Int)) = true := beq_iff_eq.mpr c3
    have c3b1 : ((l0.length : Int) != (l1.length : Int)) = false := bne_eq_false_iff_eq.mpr c3
    have c3b2 : (l0.length == l1.length) = true := by first | simpa using c3 | (simp at c3 ⊢; omega)
    clear c3
    have H' := Aside0.mk H
    clear H
    go_enter Tryd.func15, Tryd.ntmps15
    go_wp2
    repeat (go_quiet (fail); try go_wp2)
    go_loopg [5] k (fun kq v5 w' => ∃ (x5_1 : Int), v5 = .int .i64 x5_1 ∧ Aside0 (laws_eqIntS.l0 kq l0 l1 x5_1 = some r) ∧ Aside0 (kq ≤ k) ∧ Drawn0 w w')
    case atStart => exact ⟨(0), (by first | rfl | (simp; done) | (simp [*]; done)), H', ⟨Nat.le_refl _⟩, by repeat (first | exact Drawn0.refl _ | apply Drawn0.step)⟩
    case round =>
      clear H'
      try clear c1
      try clear p2
      try clear c3
      try clear c3b0
      try clear c3b1
      try clear c3b2
      obtain ⟨x5_1, rfl, HA, HK1, ⟨m1, rfl⟩⟩ := hrel
      cases gk with
      | zero => exact absurd HA.out (by simp [laws_eqIntS.l0])
      | succ k1 =>
        have H := HA.out
        clear HA
        simp only [laws_eqIntS.l0] at H
        by_cases c4 : x5_1 < (l0.length : Int)
        · rw [if_pos c4] at H
          have c4b0 : decide (x5_1 < (l0.length : Int)) = true := decide_eq_true c4
          clear c4
          by_cases c5 : 0 ≤ x5_1
          · rw [if_pos c5] at H
            have c5b0 : decide (0 ≤ x5_1) = true := decide_eq_true c5
            clear c5
            by_cases c6 : x5_1 < (l1.length : Int)
            · rw [if_pos c6] at H
              have c6b0 : decide (x5_1 < (l1.length : Int)) = true := decide_eq_true c6
              clear c6
              by_cases c7 : (rd l0 x5_1) = (rd l1 x5_1)
              · rw [if_pos c7] at H
                have c7b0 : ((rd l0 x5_1) == (rd l1 x5_1)) = true := beq_iff_eq.mpr c7
                have c7b1 : ((rd l0 x5_1) != (rd l1 x5_1)) = false := bne_eq_false_iff_eq.mpr c7
                clear c7
                have H' := Aside0.mk H
                clear H
                have p206 : 0 ≤ (x5_1 : Int) := of_decide_eq_true (by first | (with_reducible assumption) | assumption)
                have q206 : x5_1 < (l0.length : Int) := of_decide_eq_true (by first | (with_reducible assumption) | assumption)
                obtain ⟨ad206, e206, hx206_0⟩ := Kd.at_int HR0.out x5_1 p206 q206
                cases e206
                replace p206 := eq_true p206
                replace q206 := eq_true q206
                have p207 : 0 ≤ (x5_1 : Int) := of_decide_eq_true (by first | (with_reducible assumption) | assumption)
                have q207 : x5_1 < (l1.length : Int) := of_decide_eq_true (by first | (with_reducible assumption) | assumption)
                obtain ⟨ad207, e207, hx207_0⟩ := Kd.at_int HR1.out x5_1 p207 q207
                cases e207
                replace p207 := eq_true p207
                replace q207 := eq_true q207
                go_wp2
                repeat (go_quiet (fail); try go_wp2)
                go_roundg k1
                case measure => have := HK1.out; omega
                case rel => exact ⟨(wrap64 (x5_1 + 1)), (by first | rfl | (simp; done) | (simp [*]; done)), H', ⟨by have := HK1.out; omega⟩, by repeat (first | exact Drawn0.refl _ | apply Drawn0.step)⟩
              · rw [if_neg c7] at H
                have c7b0 : ((rd l0 x5_1) == (rd l1 x5_1)) = false := beq_eq_false_iff_ne.mpr c7
                have c7b1 : ((rd l0 x5_1) != (rd l1 x5_1)) = true := bne_iff_ne.mpr c7
                obtain rfl := Option.some.inj H
                have p206 : 0 ≤ (x5_1 : Int) := of_decide_eq_true (by first | (with_reducible assumption) | assumption)
                have q206 : x5_1 < (l0.length : Int) := of_decide_eq_true (by first | (with_reducible assumption) | assumption)
                obtain ⟨ad206, e206, hx206_0⟩ := Kd.at_int HR0.out x5_1 p206 q206
                cases e206
                replace p206 := eq_true p206
                replace q206 := eq_true q206
                have p207 : 0 ≤ (x5_1 : Int) := of_decide_eq_true (by first | (with_reducible assumption) | assumption)
                have q207 : x5_1 < (l1.length : Int) := of_decide_eq_true (by first | (with_reducible assumption) | assumption)
                obtain ⟨ad207, e207, hx207_0⟩ := Kd.at_int HR1.out x5_1 p207 q207
                cases e207
                replace p207 := eq_true p207
                replace q207 := eq_true q207
                go_wp2
                repeat (go_quiet (fail); try go_wp2)
                go_ret
                exact ⟨by first | rfl | (simp; done) | (simp [*]; done), by repeat (first | exact Drawn0.refl _ | apply Drawn0.step)⟩
            · rw [if_neg c6] at H
              exact absurd H (by simp)
          · rw [if_neg c5] at H
            exact absurd H (by simp)
        · rw [if_neg c4] at H
          have c4b0 : decide (x5_1 < (l0.length : Int)) = false := decide_eq_false c4
          clear c4
          obtain rfl := Option.some.inj H
          go_wp2
          repeat (go_quiet (fail); try go_wp2)
          go_ret
          exact ⟨by first | rfl | (simp; done) | (simp [*]; done), by repeat (first | exact Drawn0.refl _ | apply Drawn0.step)⟩
  · rw [if_neg c3] at H
    have c3b0 : ((l0.length : Int) == (l1.length : Int)) = false := beq_eq_false_iff_ne.mpr c3
    have c3b1 : ((l0.length : Int) != (l1.length : Int)) = true := bne_iff_ne.mpr c3
    have c3b2 : (l0.length == l1.length) = false := by first | simpa using c3 | (simp at c3 ⊢; omega)
    obtain rfl := Option.some.inj H
    go_enter Tryd.func15, Tryd.ntmps15
    go_wp2
    repeat (go_quiet (fail); try go_wp2)
    go_ret
    exact ⟨by first | rfl | (simp; done) | (simp [*]; done), by repeat (first | exact Drawn0.refl _ | apply Drawn0.step)⟩

end Go.Proofs.YthnjmokaiiajmaaDoor.P

namespace Go.Proofs.YthnjmokaiiajmaaDoor.P
open Go.RowKit Go.Proofs.YthnjmokaiiajmaaDoorW.PrintWords Go.Proofs.YthnjmokaiiajmaaDoorW.PrintLast Go.Proofs.YthnjmokaiiajmaaDoorW.PrintMore
attribute [local go_sem] max2_int min2_int max_two min_two max_three min_three max_four min_four   -- for this text's walks alone
set_option linter.unusedVariables false
set_option linter.unusedSimpArgs false

/-! ### laws_markIntS: function 16 -/
def laws_markIntS.l0 : Nat → List Int → Int → Int → Option (Int × List Int)
  | 0, _, _, _ => none
  | k + 1, x0, x1, x5 => if x5 < (x0.length : Int) then (if 0 ≤ x5 then (laws_markIntS.l0 k (x0.set (x5 : Int).toNat x1) (wrap64 (x1 + 1)) (wrap64 (x5 + 1))) else (none)) else (some (x1, x0))
def laws_markIntS.f (k : Nat) (l0 : List Int) (a1 : Int) : Option (Int × List Int) := laws_markIntS.l0 k l0 a1 0
theorem laws_markIntS.mono_l : ∀ k, (∀ y0 y1 y2, LeO (laws_markIntS.l0 k y0 y1 y2) (laws_markIntS.l0 (k + 1) y0 y1 y2))
  | 0 => fun _ _ _ r h => by simp [laws_markIntS.l0] at h
  | k + 1 => by
    have ih0 := laws_markIntS.mono_l k
    · intro y0 y1 y2
      unfold laws_markIntS.l0
      repeat' first
      | (with_reducible exact ih0 _ _ _)
      | (with_reducible exact LeO.refl _)
      | (with_reducible exact LeO.none _)
      | (with_reducible refine LeO.ite ?_ ?_)
      | (with_reducible refine LeO.bind ?_ (fun _ => ?_))
      | exact ih0 _ _ _
      | exact LeO.none _
      | refine LeO.ite ?_ ?_
      | refine LeO.bind ?_ (fun _ => ?_)
theorem laws_markIntS.mono : ∀ a0 a1 k, LeO (laws_markIntS.f k a0 a1) (laws_markIntS.f (k + 1) a0 a1) := by
  intro a0 a1 k
  have ih0 := laws_markIntS.mono_l k
  unfold laws_markIntS.f
  repeat' first
      | (with_reducible exact ih0 _ _ _)
      | (with_reducible exact LeO.refl _)
      | (with_reducible exact LeO.none _)
      | (with_reducible refine LeO.ite ?_ ?_)
      | (with_reducible refine LeO.bind ?_ (fun _ => ?_))
      | exact ih0 _ _ _
      | exact LeO.none _
      | refine LeO.ite ?_ ?_
      | refine LeO.bind ?_ (fun _ => ?_)
set_option maxHeartbeats 8000000 in
set_option maxRecDepth 100000 in
theorem laws_markIntS.calls (k : Nat) (P0_ : Nat → Prop) (u9000_ : Value) (l0 : List Int) (a1 : Int) (r1 : Int) (r2 : List Int) (w0 w : World) (hB : Below w0.heap.size w0 w) (ho0 : Kd.R (Kd.int .i64) 3 w w0.heap.size P0_ u9000_ l0) (h : laws_markIntS.f k l0 a1 = some (r1, r2)) :
    Calls Tryd.prog 16 #[u9000_, .int .i64 a1] w fun e w' => e = .returned (.int .i64 r1) ∧ Kd.R (Kd.int .i64) 3 w' w0.heap.size (fun k_ => (P0_ k_ ∨ w.heap.size ≤ k_)) u9000_ r2 ∧ Below w0.heap.size w0 w' ∧ Kept w w' (fun k_ => P0_ k_) := by
  have HO0 := Aside0.mk (show Kd.R (Kd.int .i64) 3 w w0.heap.size (fun k_ => (P0_ k_ ∨ w.heap.size ≤ k_)) u9000_ l0 from Kd.R_mono ho0 (fun k_ hk => (.inl hk)))
  have HK := Aside0.mk (Kept.refl w (fun k_ => P0_ k_))
  have HW0 := Aside0.mk hB.size
  have HB := Aside0.mk hB
  clear hB
  have H : (laws_markIntS.l0 k l0 a1 0) = some (r1, r2) := h
  clear h
  have H' := Aside0.mk H
  clear H
  go_enter Tryd.func16, Tryd.ntmps16
  go_wp2
  go_loopg [1, 5] k (fun kq v1 v5 w' => ∃ (x0_1 : List Int) (x1_1 : Int) (x5_1 : Int), v1 = .int .i64 x1_1 ∧ v5 = .int .i64 x5_1 ∧ Aside0 (laws_markIntS.l0 kq x0_1 x1_1 x5_1 = some (r1, r2)) ∧ Aside0 (kq ≤ k) ∧ Aside0 (Kd.R (Kd.int .i64) 3 w' w0.heap.size (fun k_ => (P0_ k_ ∨ w.heap.size ≤ k_)) u9000_ x0_1) ∧ Aside0 (Kept w w' (fun k_ => P0_ k_)) ∧ Aside0 (Below w0.heap.size w0 w'))
  case atStart => exact ⟨(l0), (a1), (0), (by first | rfl | (simp; done) | (simp [*]; done)), (by first | rfl | (simp; done) | (simp [*]; done)), H', ⟨Nat.le_refl _⟩, ⟨by (with_reducible repeat (first | apply Kd.R_alloc | apply Kd.R_drewN | apply Kd.R_drew)); exact HO0.out⟩, ⟨by repeat (first | (with_reducible first | exact HK.out | apply Kept.alloc | apply Kept.drewN | apply Kept.drew) | exact HK.out)⟩, ⟨by repeat (first | (with_reducible first | exact HB.out | apply below_alloc | apply pw_below_drewN | apply below_drew1) | exact HB.out)⟩⟩
  case round =>
    clear H'
    try clear c1
    try clear p2
    obtain ⟨x0_1, x1_1, x5_1, rfl, rfl, HA, HK1, HO_0, HK, HB⟩ := hrel
    cases gk with
    | zero => exact absurd HA.out (by simp [laws_markIntS.l0])
    | succ k1 =>
      have H := HA.out
      clear HA
      simp only [laws_markIntS.l0] at H
      by_cases c3 : x5_1 < (x0_1.length : Int)
      · rw [if_pos c3] at H
        have c3b0 : decide (x5_1 < (x0_1.length : Int)) = true := decide_eq_true c3
        clear c3
        by_cases c4 : 0 ≤ x5_1
        · rw [if_pos c4] at H
          have c4b0 : decide (0 ≤ x5_1) = true := decide_eq_true c4
          clear c4
          obtain ⟨y208, hy208⟩ : ∃ y_ : List Int, y_ = (x0_1.set (x5_1 : Int).toNat x1_1) := ⟨_, rfl⟩
          replace H : (laws_markIntS.l0 k1 y208 (wrap64 (x1_1 + 1)) (wrap64 (x5_1 + 1))) = some (r1, r2) := by first | (rw [hy208]; with_reducible exact H) | (have H2_ := (Option.bind_some _ _).symm.trans H; rw [hy208]; with_reducible exact H2_) | (have H2_ := (Option.bind_some _ _).symm.trans H; with_reducible exact H2_) | with_reducible exact H | (rw [hy208]; exact H) | exact H
          have Ny208 := Aside0.mk hy208
          clear hy208
          have H' := Aside0.mk H
          clear H
          obtain ⟨Ao6, co6, eo6⟩ := Kd.R_slice HO_0.out
          subst eo6
          have p5 : 0 ≤ (x5_1 : Int) := of_decide_eq_true (by first | (with_reducible assumption) | assumption)
          have q5 : (x5_1 : Int) < ((x0_1.length : Int) : Int) := of_decide_eq_true (by first | (with_reducible assumption) | assumption)
          obtain ⟨go5, co5, eo5, gb5, gl5, cl5, HG5⟩ := Kd.R_form HO_0.out (by omega)
          (first | cases eo5 | (injection eo5 with ea_ en_ ec_; (first | subst ea_ | (injection ea_ with ea_; subst ea_)); subst ec_; clear en_))
          have GB5 := Aside0.mk gb5
          have GG5 := Aside0.mk HG5
          clear gb5 gl5 HG5
          have HMgo5 := Aside0.mk (show (P0_ go5 ∨ w.heap.size ≤ go5) from (HO_0.out.1 _ rfl))
          obtain ⟨hx5_0, hf5_0⟩ := Kd.R_celln 0 HO_0.out (x5_1 : Int) p5 q5
          replace p5 := eq_true p5
          replace q5 := eq_true q5
          have HP7 := Kd.R_putg HO_0.out (x5_1 : Int) x1_1
          go_wp2_with (first | ((with_reducible refine gate_store (t := 3) (p := 15) rfl ?_); refine store_event (t := 3) (p := 15) (v := ?vo_w8) (w1 := (wr.setCell ⟨go5, (x5_1 : Int).toNat, none⟩ (.int .i64 x1_1))) ?hg ?ho ?hn ?hr ?_; (case ho => rfl); (case hg => rfl); (case hn => rfl); (case hr => first | (go_simp; done) | (go_simp; rfl)); intro w8 hw; have hg : wr.grownBy w8 (some go5) := (by rw [hw]; exact HP7.2); have hp_ : Kd.R (Kd.int .i64) 3 w8 w0.heap.size (fun k_ => (P0_ k_ ∨ w.heap.size ≤ k_)) (.slice (some ⟨go5, 0, none⟩) x0_1.length co6) y208 := (by rw [hw, Ny208.out]; exact HP7.1); clear HP7; have n0_ := Aside0.mk (hp_); have n1_ := Aside0.mk ((by rw [hw]; exact below_set (HB.out) GB5.out : Below w0.heap.size w0 w8)); have n2_ := Aside0.mk (Kept.of_grown (S := (fun k_ => P0_ k_)) hg (by repeat (first | (with_reducible first | exact HK.out | apply Kept.alloc | apply Kept.drewN | apply Kept.drew) | exact HK.out)) (fun k_ e_ => (HO_0.out.1 k_ e_))); clear HO_0; clear HB; clear HK; have HO_0 := n0_; have HB := n1_; have HK := n2_; clear n0_ n1_ n2_; clear hg hw hp_))
          go_roundg k1
          case measure => have := HK1.out; omega
          case rel => exact ⟨(y208), (wrap64 (x1_1 + 1)), (wrap64 (x5_1 + 1)), (by first | rfl | (simp; done) | (simp [*]; done)), (by first | rfl | (simp; done) | (simp [*]; done)), H', ⟨by have := HK1.out; omega⟩, ⟨by (with_reducible repeat (first | apply Kd.R_alloc | apply Kd.R_drewN | apply Kd.R_drew)); exact HO_0.out⟩, ⟨by repeat (first | (with_reducible first | exact HK.out | apply Kept.alloc | apply Kept.drewN | apply Kept.drew) | exact HK.out)⟩, ⟨by repeat (first | (with_reducible first | exact HB.out | apply below_alloc | apply pw_below_drewN | apply below_drew1) | exact HB.out)⟩⟩
        · rw [if_neg c4] at H
          exact absurd H (by simp)
      · rw [if_neg c3] at H
        have c3b0 : decide (x5_1 < (x0_1.length : Int)) = false := decide_eq_false c3
        clear c3
        simp only [Option.some.injEq, Prod.mk.injEq] at H
        obtain ⟨rfl, rfl⟩ := H
        obtain ⟨Ao9, co9, eo9⟩ := Kd.R_slice HO_0.out
        subst eo9
        go_wp2
        go_ret
        exact ⟨by first | rfl | (simp [errW_none, errW_some] <;> rfl) | (simp [*, errW_none, errW_some] <;> rfl), by (with_reducible repeat (first | apply Kd.R_alloc | apply Kd.R_drewN | apply Kd.R_drew)); exact HO_0.out, by repeat (first | (with_reducible first | exact HB.out | apply below_alloc | apply pw_below_drewN | apply below_drew1) | exact HB.out), by repeat (first | (with_reducible first | exact HK.out | apply Kept.alloc | apply Kept.drewN | apply Kept.drew) | exact HK.out)⟩

end Go.Proofs.YthnjmokaiiajmaaDoor.P

namespace Go.Proofs.YthnjmokaiiajmaaDoor.P
open Go.RowKit Go.Proofs.YthnjmokaiiajmaaDoorW.PrintWords Go.Proofs.YthnjmokaiiajmaaDoorW.PrintLast Go.Proofs.YthnjmokaiiajmaaDoorW.PrintMore
attribute [local go_sem] max2_int min2_int max_two min_two max_three min_three max_four min_four   -- for this text's walks alone
set_option linter.unusedVariables false
set_option linter.unusedSimpArgs false

/-! ### laws_heldIntS: function 17 -/
def laws_heldIntS.l0 : Nat → List Int → Int → Int → Option (Int)
  | 0, _, _, _ => none
  | k + 1, x0, x1, x5 => if x5 < (x0.length : Int) then (if 0 ≤ x5 then (if (rd x0 x5) = x1 then (laws_heldIntS.l0 k x0 (wrap64 (x1 + 1)) (wrap64 (x5 + 1))) else (some (-1))) else (none)) else (some x1)
def laws_heldIntS.f (k : Nat) (l0 : List Int) (a1 : Int) : Option (Int) := laws_heldIntS.l0 k l0 a1 0
theorem laws_heldIntS.mono_l : ∀ k, (∀ y0 y1 y2, LeO (laws_heldIntS.l0 k y0 y1 y2) (laws_heldIntS.l0 (k + 1) y0 y1 y2))
  | 0 => fun _ _ _ r h => by simp [laws_heldIntS.l0] at h
  | k + 1 => by
    have ih0 := laws_heldIntS.mono_l k
    · intro y0 y1 y2
      unfold laws_heldIntS.l0
      repeat' first
      | (with_reducible exact ih0 _ _ _)
      | (with_reducible exact LeO.refl _)
      | (with_reducible exact LeO.none _)
      | (with_reducible refine LeO.ite ?_ ?_)
      | (with_reducible refine LeO.bind ?_ (fun _ => ?_))
      | exact ih0 _ _ _
      | exact LeO.none _
      | refine LeO.ite ?_ ?_
      | refine LeO.bind ?_ (fun _ => ?_)
theorem laws_heldIntS.mono : ∀ a0 a1 k, LeO (laws_heldIntS.f k a0 a1) (laws_heldIntS.f (k + 1) a0 a1) := by
  intro a0 a1 k
  have ih0 := laws_heldIntS.mono_l k
  unfold laws_heldIntS.f
  repeat' first
      | (with_reducible exact ih0 _ _ _)
      | (with_reducible exact LeO.refl _)
      | (with_reducible exact LeO.none _)
      | (with_reducible refine LeO.ite ?_ ?_)
      | (with_reducible refine LeO.bind ?_ (fun _ => ?_))
      | exact ih0 _ _ _
      | exact LeO.none _
      | refine LeO.ite ?_ ?_
      | refine LeO.bind ?_ (fun _ => ?_)
set_option maxHeartbeats 8000000 in
set_option maxRecDepth 100000 in
theorem laws_heldIntS.calls (k : Nat) (A0 : Option Addr) (c0 : Nat) (l0 : List Int) (a1 : Int) (r : Int) (w : World) (hr0 : Kd.C (Kd.int .i64) w A0 l0.length l0) (hc0 : l0.length ≤ c0) (h : laws_heldIntS.f k l0 a1 = some r) :
    Calls Tryd.prog 17 #[.slice A0 l0.length c0, .int .i64 a1] w fun e w' => e = .returned (.int .i64 r) ∧ Drawn0 w w' := by
  have HR0 := Aside0.mk hr0
  have HC0 := Aside0.mk hc0
  clear hr0 hc0
  have H : (laws_heldIntS.l0 k l0 a1 0) = some r := h
  clear h
  have H' := Aside0.mk H
  clear H
  go_enter Tryd.func17, Tryd.ntmps17
  go_wp2
  go_loopg [1, 5] k (fun kq v1 v5 w' => ∃ (x1_1 : Int) (x5_1 : Int), v1 = .int .i64 x1_1 ∧ v5 = .int .i64 x5_1 ∧ Aside0 (laws_heldIntS.l0 kq l0 x1_1 x5_1 = some r) ∧ Aside0 (kq ≤ k) ∧ Drawn0 w w')
  case atStart => exact ⟨(a1), (0), (by first | rfl | (simp; done) | (simp [*]; done)), (by first | rfl | (simp; done) | (simp [*]; done)), H', ⟨Nat.le_refl _⟩, by repeat (first | exact Drawn0.refl _ | apply Drawn0.step)⟩
  case round =>
    clear H'
    try clear c1
    try clear p2
    obtain ⟨x1_1, x5_1, rfl, rfl, HA, HK1, ⟨m1, rfl⟩⟩ := hrel
    cases gk with
    | zero => exact absurd HA.out (by simp [laws_heldIntS.l0])
    | succ k1 =>
      have H := HA.out
      clear HA
      simp only [laws_heldIntS.l0] at H
      by_cases c3 : x5_1 < (l0.length : Int)
      · rw [if_pos c3] at H
        have c3b0 : decide (x5_1 < (l0.length : Int)) = true := decide_eq_true c3
        clear c3
        by_cases c4 : 0 ≤ x5_1
        · rw [if_pos c4] at H
          have c4b0 : decide (0 ≤ x5_1) = true := decide_eq_true c4
          clear c4
          by_cases c5 : (rd l0 x5_1) = x1_1
          · rw [if_pos c5] at H
            have c5b0 : ((rd l0 x5_1) == x1_1) = true := beq_iff_eq.mpr c5
            have c5b1 : ((rd l0 x5_1) != x1_1) = false := bne_eq_false_iff_eq.mpr c5
            clear c5
            have H' := Aside0.mk H
            clear H
            have p209 : 0 ≤ (x5_1 : Int) := of_decide_eq_true (by first | (with_reducible assumption) | assumption)
            have q209 : x5_1 < (l0.length : Int) := of_decide_eq_true (by first | (with_reducible assumption) | assumption)
            obtain ⟨ad209, e209, hx209_0⟩ := Kd.at_int HR0.out x5_1 p209 q209
            cases e209
            replace p209 := eq_true p209
            replace q209 := eq_true q209
            go_wp2
            go_roundg k1
            case measure => have := HK1.out; omega
            case rel => exact ⟨(wrap64 (x1_1 + 1)), (wrap64 (x5_1 + 1)), (by first | rfl | (simp; done) | (simp [*]; done)), (by first | rfl | (simp; done) | (simp [*]; done)), H', ⟨by have := HK1.out; omega⟩, by repeat (first | exact Drawn0.refl _ | apply Drawn0.step)⟩
          · rw [if_neg c5] at H
            have c5b0 : ((rd l0 x5_1) == x1_1) = false := beq_eq_false_iff_ne.mpr c5
            have c5b1 : ((rd l0 x5_1) != x1_1) = true := bne_iff_ne.mpr c5
            obtain rfl := Option.some.inj H
            have p209 : 0 ≤ (x5_1 : Int) := of_decide_eq_true (by first | (with_reducible assumption) | assumption)
            have q209 : x5_1 < (l0.length : Int) := of_decide_eq_true (by first | (with_reducible assumption) | assumption)
            obtain ⟨ad209, e209, hx209_0⟩ := Kd.at_int HR0.out x5_1 p209 q209
            cases e209
            replace p209 := eq_true p209
            replace q209 := eq_true q209
            go_wp2
            go_ret
            exact ⟨by first | rfl | (simp; done) | (simp [*]; done), by repeat (first | exact Drawn0.refl _ | apply Drawn0.step)⟩
        · rw [if_neg c4] at H
          exact absurd H (by simp)
      · rw [if_neg c3] at H
        have c3b0 : decide (x5_1 < (l0.length : Int)) = false := decide_eq_false c3
        clear c3
        obtain rfl := Option.some.inj H
        go_wp2
        go_ret
        exact ⟨by first | rfl | (simp; done) | (simp [*]; done), by repeat (first | exact Drawn0.refl _ | apply Drawn0.step)⟩

end Go.Proofs.YthnjmokaiiajmaaDoor.P

namespace Go.Proofs.YthnjmokaiiajmaaDoor.P
open Go.RowKit Go.Proofs.YthnjmokaiiajmaaDoorW.PrintWords Go.Proofs.YthnjmokaiiajmaaDoorW.PrintLast Go.Proofs.YthnjmokaiiajmaaDoorW.PrintMore
attribute [local go_sem] max2_int min2_int max_two min_two max_three min_three max_four min_four   -- for this text's walks alone
set_option linter.unusedVariables false
set_option linter.unusedSimpArgs false

/-! ### laws_FnExactFirstThumbs: function 6 -/
mutual
def laws_FnExactFirstThumbs.j0 : Nat → ByteArray → ByteArray → ByteArray → Bool → List Int → Bool → List Int → Bool → Option (Bool)
  | 0, _, _, _, _, _, _, _, _ => none
  | k + 1, x0, x1, x2, x3, x9, x10, x11, x50 => if x50 = true then (some false) else ((laws_markIntS.f k x11 1).bind fun bt219 => ((laws_heldIntS.f k bt219.2 1).bind fun t221 => (if t221 < 0 then (some false) else (if t221 = bt219.1 then ((impl_FirstThumbs.f k x0 x1 x2 x3).bind fun bt222 => ((laws_eqIntS.f k bt222.1 x9).bind fun t226 => (if t226 = true then (laws_FnExactFirstThumbs.j1 k bt219.2 bt219.1 (bt222.2 != x10)) else (laws_FnExactFirstThumbs.j1 k bt219.2 bt219.1 true)))) else (some false)))))
def laws_FnExactFirstThumbs.j1 : Nat → List Int → Int → Bool → Option (Bool)
  | 0, _, _, _ => none
  | k + 1, x11, x13, x78 => if x78 = true then (some false) else ((laws_heldIntS.f k x11 1).bind fun t227 => (if t227 < 0 then (some false) else (if t227 = x13 then (some true) else (some false))))
end
def laws_FnExactFirstThumbs.f (k : Nat) (a0 : ByteArray) (a1 : ByteArray) (a2 : ByteArray) (a3 : Bool) : Option (Bool) := if (a0.size : Int) > 1048576 then (some true) else (if (a1.size : Int) > 1048576 then (some true) else (if (a2.size : Int) > 1048576 then (some true) else ((spec_FirstThumbs.f k a0 a1 a2 a3).bind fun bt210 => ((impl_FirstThumbs.f k a0 a1 a2 a3).bind fun bt214 => ((laws_eqIntS.f k bt214.1 bt210.1).bind fun t218 => (if t218 = true then (laws_FnExactFirstThumbs.j0 k a0 a1 a2 a3 bt210.1 bt210.2 bt214.1 (bt214.2 != bt210.2)) else (laws_FnExactFirstThumbs.j0 k a0 a1 a2 a3 bt210.1 bt210.2 bt214.1 true)))))))
theorem laws_FnExactFirstThumbs.mono_l : ∀ k, (∀ y0 y1 y2 y3 y4 y5 y6 y7, LeO (laws_FnExactFirstThumbs.j0 k y0 y1 y2 y3 y4 y5 y6 y7) (laws_FnExactFirstThumbs.j0 (k + 1) y0 y1 y2 y3 y4 y5 y6 y7)) ∧ (∀ y0 y1 y2, LeO (laws_FnExactFirstThumbs.j1 k y0 y1 y2) (laws_FnExactFirstThumbs.j1 (k + 1) y0 y1 y2))
  | 0 => ⟨fun _ _ _ _ _ _ _ _ r h => by simp [laws_FnExactFirstThumbs.j0] at h, fun _ _ _ r h => by simp [laws_FnExactFirstThumbs.j1] at h⟩
  | k + 1 => by
    obtain ⟨ih0, ih1⟩ := laws_FnExactFirstThumbs.mono_l k
    refine ⟨?_, ?_⟩
    · intro y0 y1 y2 y3 y4 y5 y6 y7
      unfold laws_FnExactFirstThumbs.j0
      repeat' first
      | (with_reducible exact ih0 _ _ _ _ _ _ _ _)
      | (with_reducible exact ih1 _ _ _)
      | (with_reducible exact impl_FirstThumbs.mono _ _ _ _ _)
      | (with_reducible exact laws_eqIntS.mono _ _ _)
      | (with_reducible exact laws_heldIntS.mono _ _ _)
      | (with_reducible exact laws_markIntS.mono _ _ _)
      | (with_reducible exact spec_FirstThumbs.mono _ _ _ _ _)
      | (with_reducible exact LeO.refl _)
      | (with_reducible exact LeO.none _)
      | (with_reducible refine LeO.ite ?_ ?_)
      | (with_reducible refine LeO.bind ?_ (fun _ => ?_))
      | exact ih0 _ _ _ _ _ _ _ _
      | exact ih1 _ _ _
      | exact impl_FirstThumbs.mono _ _ _ _ _
      | exact laws_eqIntS.mono _ _ _
      | exact laws_heldIntS.mono _ _ _
      | exact laws_markIntS.mono _ _ _
      | exact spec_FirstThumbs.mono _ _ _ _ _
      | exact LeO.none _
      | refine LeO.ite ?_ ?_
      | refine LeO.bind ?_ (fun _ => ?_)
    · intro y0 y1 y2
      unfold laws_FnExactFirstThumbs.j1
      repeat' first
      | (with_reducible exact ih0 _ _ _ _ _ _ _ _)
      | (with_reducible exact ih1 _ _ _)
      | (with_reducible exact impl_FirstThumbs.mono _ _ _ _ _)
      | (with_reducible exact laws_eqIntS.mono _ _ _)
      | (with_reducible exact laws_heldIntS.mono _ _ _)
      | (with_reducible exact laws_markIntS.mono _ _ _)
      | (with_reducible exact spec_FirstThumbs.mono _ _ _ _ _)
      | (with_reducible exact LeO.refl _)
      | (with_reducible exact LeO.none _)
      | (with_reducible refine LeO.ite ?_ ?_)
      | (with_reducible refine LeO.bind ?_ (fun _ => ?_))
      | exact ih0 _ _ _ _ _ _ _ _
      | exact ih1 _ _ _
      | exact impl_FirstThumbs.mono _ _ _ _ _
      | exact laws_eqIntS.mono _ _ _
      | exact laws_heldIntS.mono _ _ _
      | exact laws_markIntS.mono _ _ _
      | exact spec_FirstThumbs.mono _ _ _ _ _
      | exact LeO.none _
      | refine LeO.ite ?_ ?_
      | refine LeO.bind ?_ (fun _ => ?_)
theorem laws_FnExactFirstThumbs.mono : ∀ a0 a1 a2 a3 k, LeO (laws_FnExactFirstThumbs.f k a0 a1 a2 a3) (laws_FnExactFirstThumbs.f (k + 1) a0 a1 a2 a3) := by
  intro a0 a1 a2 a3 k
  obtain ⟨ih0, ih1⟩ := laws_FnExactFirstThumbs.mono_l k
  unfold laws_FnExactFirstThumbs.f
  repeat' first
      | (with_reducible exact ih0 _ _ _ _ _ _ _ _)
      | (with_reducible exact ih1 _ _ _)
      | (with_reducible exact impl_FirstThumbs.mono _ _ _ _ _)
      | (with_reducible exact laws_eqIntS.mono _ _ _)
      | (with_reducible exact laws_heldIntS.mono _ _ _)
      | (with_reducible exact laws_markIntS.mono _ _ _)
      | (with_reducible exact spec_FirstThumbs.mono _ _ _ _ _)
      | (with_reducible exact LeO.refl _)
      | (with_reducible exact LeO.none _)
      | (with_reducible refine LeO.ite ?_ ?_)
      | (with_reducible refine LeO.bind ?_ (fun _ => ?_))
      | exact ih0 _ _ _ _ _ _ _ _
      | exact ih1 _ _ _
      | exact impl_FirstThumbs.mono _ _ _ _ _
      | exact laws_eqIntS.mono _ _ _
      | exact laws_heldIntS.mono _ _ _
      | exact laws_markIntS.mono _ _ _
      | exact spec_FirstThumbs.mono _ _ _ _ _
      | exact LeO.none _
      | refine LeO.ite ?_ ?_
      | refine LeO.bind ?_ (fun _ => ?_)
set_option maxHeartbeats 8000000 in
set_option maxRecDepth 100000 in
theorem laws_FnExactFirstThumbs.calls (k : Nat) (a0 : ByteArray) (a1 : ByteArray) (a2 : ByteArray) (a3 : Bool) (r : Bool) (w : World) (h : laws_FnExactFirstThumbs.f k a0 a1 a2 a3 = some r) :
    Calls Tryd.prog 6 #[.string a0, .string a1, .string a2, .bool a3] w fun e w' => e = .returned (.bool r) ∧ Below w.heap.size w w' := by
  have HB := Aside0.mk (Below.refl w.heap.size w)
  have H : (if (a0.size : Int) > 1048576 then (some true) else (if (a1.size : Int) > 1048576 then (some true) else (if (a2.size : Int) > 1048576 then (some true) else ((spec_FirstThumbs.f k a0 a1 a2 a3).bind fun bt210 => ((impl_FirstThumbs.f k a0 a1 a2 a3).bind fun bt214 => ((laws_eqIntS.f k bt214.1 bt210.1).bind fun t218 => (if t218 = true then (laws_FnExactFirstThumbs.j0 k a0 a1 a2 a3 bt210.1 bt210.2 bt214.1 (bt214.2 != bt210.2)) else (laws_FnExactFirstThumbs.j0 k a0 a1 a2 a3 bt210.1 bt210.2 bt214.1 true)))))))) = some r := h
  clear h
  by_cases c5 : (a0.size : Int) > 1048576
  · rw [if_pos c5] at H
    have c5b0 : decide (1048576 < (a0.size : Int)) = true := decide_eq_true c5
    have c5b1 : decide (1048576 < a0.size) = true := decide_eq_true (by omega)
    clear c5
    obtain rfl := Option.some.inj H
    go_enter Tryd.func6, Tryd.ntmps6
    go_wp2
    go_ret
    exact ⟨by first | rfl | (simp [errW_none, errW_some] <;> rfl) | (simp [*, errW_none, errW_some] <;> rfl), by repeat (first | (with_reducible first | exact HB.out | apply below_alloc | apply pw_below_drewN | apply below_drew1) | exact HB.out)⟩
  · rw [if_neg c5] at H
    have c5b0 : decide (1048576 < (a0.size : Int)) = false := decide_eq_false c5
    have c5b1 : decide (1048576 < a0.size) = false := decide_eq_false (by omega)
    clear c5
    by_cases c6 : (a1.size : Int) > 1048576
    · rw [if_pos c6] at H
      have c6b0 : decide (1048576 < (a1.size : Int)) = true := decide_eq_true c6
      have c6b1 : decide (1048576 < a1.size) = true := decide_eq_true (by omega)
      clear c6
      obtain rfl := Option.some.inj H
      go_enter Tryd.func6, Tryd.ntmps6
      go_wp2
      go_ret
      exact ⟨by first | rfl | (simp [errW_none, errW_some] <;> rfl) | (simp [*, errW_none, errW_some] <;> rfl), by repeat (first | (with_reducible first | exact HB.out | apply below_alloc | apply pw_below_drewN | apply below_drew1) | exact HB.out)⟩
    · rw [if_neg c6] at H
      have c6b0 : decide (1048576 < (a1.size : Int)) = false := decide_eq_false c6
      have c6b1 : decide (1048576 < a1.size) = false := decide_eq_false (by omega)
      clear c6
      by_cases c7 : (a2.size : Int) > 1048576
      · rw [if_pos c7] at H
        have c7b0 : decide (1048576 < (a2.size : Int)) = true := decide_eq_true c7
        have c7b1 : decide (1048576 < a2.size) = true := decide_eq_true (by omega)
        clear c7
        obtain rfl := Option.some.inj H
        go_enter Tryd.func6, Tryd.ntmps6
        go_wp2
        go_ret
        exact ⟨by first | rfl | (simp [errW_none, errW_some] <;> rfl) | (simp [*, errW_none, errW_some] <;> rfl), by repeat (first | (with_reducible first | exact HB.out | apply below_alloc | apply pw_below_drewN | apply below_drew1) | exact HB.out)⟩
      · rw [if_neg c7] at H
        have c7b0 : decide (1048576 < (a2.size : Int)) = false := decide_eq_false c7
        have c7b1 : decide (1048576 < a2.size) = false := decide_eq_false (by omega)
        clear c7
        replace H := Option.bind_eq_some_iff.mp H
        obtain ⟨⟨t210, t211⟩, A80, H⟩ := H
        replace H : ((impl_FirstThumbs.f k a0 a1 a2 a3).bind fun bt214 => ((laws_eqIntS.f k bt214.1 t210).bind fun t218 => (if t218 = true then (laws_FnExactFirstThumbs.j0 k a0 a1 a2 a3 t210 t211 bt214.1 (bt214.2 != t211)) else (laws_FnExactFirstThumbs.j0 k a0 a1 a2 a3 t210 t211 bt214.1 true)))) = some r := H
        have A8 := Aside0.mk A80
        clear A80
        replace H := Option.bind_eq_some_iff.mp H
        obtain ⟨⟨t214, t215⟩, A90, H⟩ := H
        replace H : ((laws_eqIntS.f k t214 t210).bind fun t218 => (if t218 = true then (laws_FnExactFirstThumbs.j0 k a0 a1 a2 a3 t210 t211 t214 (t215 != t211)) else (laws_FnExactFirstThumbs.j0 k a0 a1 a2 a3 t210 t211 t214 true))) = some r := H
        have A9 := Aside0.mk A90
        clear A90
        have HC10 := Aside0.mk H
        clear H
        go_enter Tryd.func6, Tryd.ntmps6
        go_upto_region 9 with (first | ((with_reducible refine gate_callee (f := 13) rfl ?_); refine goesL_ (some 31) rfl rfl Tryd.func13 (by kernel_rfl) rfl #[.string a0, .string a1, .string a2, .bool a3] rfl (by (try simp only [List.map_toArray, List.map_cons, List.map_nil]); first | done | rfl | (simp only [List.length_drop, List.length_take]; rfl)) ?_; (with_reducible refine (spec_FirstThumbs.calls k a0 a1 a2 a3 t210 t211 _ A8.out).mono ?_); rintro e w11 ⟨v212, rfl, ho0, hb⟩; refine ⟨_, rfl, ?_⟩; have n0_ := Aside0.mk (Kd.R_lower ho0 (below_size (by repeat (first | (with_reducible first | exact HB.out | apply below_alloc | apply pw_below_drewN | apply below_drew1) | exact HB.out)))); have n1_ := Aside0.mk (below_step (by repeat (first | (with_reducible first | exact HB.out | apply below_alloc | apply pw_below_drewN | apply below_drew1) | exact HB.out)) hb); clear HB; have HO213 := n0_; have HB := n1_; clear n0_ n1_; (try clear hb); (try clear hb2); (try clear hk); (try clear hi); (try clear ho0)) | ((with_reducible refine gate_callee (f := 14) rfl ?_); refine goesL_ (some 39) rfl rfl Tryd.func14 (by kernel_rfl) rfl #[.string a0, .string a1, .string a2, .bool a3] rfl (by (try simp only [List.map_toArray, List.map_cons, List.map_nil]); first | done | rfl | (simp only [List.length_drop, List.length_take]; rfl)) ?_; (with_reducible refine (impl_FirstThumbs.calls k a0 a1 a2 a3 t214 t215 _ A9.out).mono ?_); rintro e w12 ⟨v216, rfl, ho0, hb⟩; refine ⟨_, rfl, ?_⟩; have n0_ := Aside0.mk (Kd.R_elder' (by (with_reducible repeat (first | apply Kd.R_alloc | apply Kd.R_drewN | apply Kd.R_drew)); exact HO213.out) (Kd.R_base ho0) hb); have n1_ := Aside0.mk (Kd.R_lower (Kd.R_new' ho0 (Kd.R_lt (by (with_reducible repeat (first | apply Kd.R_alloc | apply Kd.R_drewN | apply Kd.R_drew)); exact HO213.out))) (below_size (by repeat (first | (with_reducible first | exact HB.out | apply below_alloc | apply pw_below_drewN | apply below_drew1) | exact HB.out)))); have n2_ := Aside0.mk (below_step (by repeat (first | (with_reducible first | exact HB.out | apply below_alloc | apply pw_below_drewN | apply below_drew1) | exact HB.out)) hb); clear HO213; clear HB; have HO213 := n0_; have HO217 := n1_; have HB := n2_; clear n0_ n1_ n2_; (try clear hb); (try clear hb2); (try clear hk); (try clear hi); (try clear ho0)))
        (try simp only [Act.put, List.setIfInBounds_toArray, List.set_cons_zero, List.set_cons_succ])
        go_cut [50] (fun v50 wc => ∃ (kq : Nat) (x50_9 : Bool), v50 = .bool x50_9 ∧ Aside0 (laws_FnExactFirstThumbs.j0 kq a0 a1 a2 a3 t210 t211 t214 x50_9 = some r) ∧ Aside0 (kq ≤ k) ∧ Aside0 (Kd.R (Kd.int .i64) 3 wc w.heap.size (fun k_ => some k_ ≠ (v216 : Value).ownBlock) v212 t210) ∧ Aside0 (Kd.R (Kd.int .i64) 3 wc w.heap.size (fun k_ => some k_ ≠ (v212 : Value).ownBlock) v216 t214) ∧ Aside0 (Below w.heap.size w wc))
        case first =>
          have H := HC10.out
          clear HC10
          replace H := Option.bind_eq_some_iff.mp H
          obtain ⟨t218, A130, H⟩ := H
          replace H : (if t218 = true then (laws_FnExactFirstThumbs.j0 k a0 a1 a2 a3 t210 t211 t214 (t215 != t211)) else (laws_FnExactFirstThumbs.j0 k a0 a1 a2 a3 t210 t211 t214 true)) = some r := H
          have A13 := Aside0.mk A130
          clear A130
          by_cases c14 : t218 = true
          · subst c14
            have H1 : (laws_FnExactFirstThumbs.j0 k a0 a1 a2 a3 t210 t211 t214 (t215 != t211)) = some r := by rw [if_pos rfl] at H; exact H
            clear H
            have H := H1
            clear H1
            have H' := Aside0.mk H
            clear H
            obtain ⟨Ao15, co15, eo15⟩ := Kd.R_slice HO217.out
            subst eo15
            obtain ⟨Ao16, co16, eo16⟩ := Kd.R_slice HO213.out
            subst eo16
            go_wp2_with (first | ((with_reducible refine gate_callee (f := 15) rfl ?_); refine goesL_ (some 44) rfl rfl Tryd.func15 (by kernel_rfl) rfl #[.slice Ao15 t214.length co15, .slice Ao16 t210.length co16] rfl (by (try simp only [List.map_toArray, List.map_cons, List.map_nil]); first | done | rfl | (simp only [List.length_drop, List.length_take]; rfl)) ?_; (with_reducible refine (laws_eqIntS.calls k _ _ t214 _ _ t210 true _ ?side1 ?side2 ?side3 ?side4 A13.out).mono ?_); (case side1 => repeat (first | exact (Kd.R_reads' HO217.out).2.2 | (with_reducible refine Kd.C_alloc ?_ _) | (with_reducible refine Kd.C_drewN ?_ _) | (with_reducible refine Kd.C_drew ?_))); (case side2 => exact (Kd.R_reads' HO217.out).2.1); (case side3 => repeat (first | exact (Kd.R_reads' HO213.out).2.2 | (with_reducible refine Kd.C_alloc ?_ _) | (with_reducible refine Kd.C_drewN ?_ _) | (with_reducible refine Kd.C_drew ?_))); (case side4 => exact (Kd.R_reads' HO213.out).2.1); rintro e w' ⟨rfl, ⟨nd, rfl⟩⟩; refine ⟨_, rfl, ?_⟩))
            go_meet
            case rel => exact ⟨_, ((t215 != t211)), (by first | rfl | (simp; done) | (simp [*]; done)), H', ⟨by first | omega | exact Nat.le_refl _⟩, ⟨by (with_reducible repeat (first | apply Kd.R_alloc | apply Kd.R_drewN | apply Kd.R_drew)); exact Kd.R_mono HO213.out (fun _ hk => hk.2)⟩, ⟨by (with_reducible repeat (first | apply Kd.R_alloc | apply Kd.R_drewN | apply Kd.R_drew)); exact Kd.R_mono HO217.out (fun _ hk => hk.2)⟩, ⟨by repeat (first | (with_reducible first | exact HB.out | apply below_alloc | apply pw_below_drewN | apply below_drew1) | exact HB.out)⟩⟩
          · replace c14 := Bool.eq_false_iff.mpr c14
            subst c14
            have H1 : (laws_FnExactFirstThumbs.j0 k a0 a1 a2 a3 t210 t211 t214 true) = some r := by rw [if_neg (show ¬ (false = true) by decide)] at H; exact H
            clear H
            have H := H1
            clear H1
            have H' := Aside0.mk H
            clear H
            obtain ⟨Ao17, co17, eo17⟩ := Kd.R_slice HO217.out
            subst eo17
            obtain ⟨Ao18, co18, eo18⟩ := Kd.R_slice HO213.out
            subst eo18
            go_wp2_with (first | ((with_reducible refine gate_callee (f := 15) rfl ?_); refine goesL_ (some 44) rfl rfl Tryd.func15 (by kernel_rfl) rfl #[.slice Ao17 t214.length co17, .slice Ao18 t210.length co18] rfl (by (try simp only [List.map_toArray, List.map_cons, List.map_nil]); first | done | rfl | (simp only [List.length_drop, List.length_take]; rfl)) ?_; (with_reducible refine (laws_eqIntS.calls k _ _ t214 _ _ t210 false _ ?side1 ?side2 ?side3 ?side4 A13.out).mono ?_); (case side1 => repeat (first | exact (Kd.R_reads' HO217.out).2.2 | (with_reducible refine Kd.C_alloc ?_ _) | (with_reducible refine Kd.C_drewN ?_ _) | (with_reducible refine Kd.C_drew ?_))); (case side2 => exact (Kd.R_reads' HO217.out).2.1); (case side3 => repeat (first | exact (Kd.R_reads' HO213.out).2.2 | (with_reducible refine Kd.C_alloc ?_ _) | (with_reducible refine Kd.C_drewN ?_ _) | (with_reducible refine Kd.C_drew ?_))); (case side4 => exact (Kd.R_reads' HO213.out).2.1); rintro e w' ⟨rfl, ⟨nd, rfl⟩⟩; refine ⟨_, rfl, ?_⟩))
            go_meet
            case rel => exact ⟨_, (true), (by first | rfl | (simp; done) | (simp [*]; done)), H', ⟨by first | omega | exact Nat.le_refl _⟩, ⟨by (with_reducible repeat (first | apply Kd.R_alloc | apply Kd.R_drewN | apply Kd.R_drew)); exact Kd.R_mono HO213.out (fun _ hk => hk.2)⟩, ⟨by (with_reducible repeat (first | apply Kd.R_alloc | apply Kd.R_drewN | apply Kd.R_drew)); exact Kd.R_mono HO217.out (fun _ hk => hk.2)⟩, ⟨by repeat (first | (with_reducible first | exact HB.out | apply below_alloc | apply pw_below_drewN | apply below_drew1) | exact HB.out)⟩⟩
        case rest =>
          clear HC10
          try clear c1
          try clear p2
          try clear c5
          try clear c5b0
          try clear c5b1
          try clear c6
          try clear c6b0
          try clear c6b1
          try clear c7
          try clear c7b0
          try clear c7b1
          try clear c13
          try clear c14
          try clear c15
          obtain ⟨kq, x50_9, rfl, HA, HJ9, HO_9, HO_11, HB⟩ := hcut
          cases kq with
          | zero => exact absurd HA.out (by simp [laws_FnExactFirstThumbs.j0])
          | succ kj9 =>
            have H := HA.out
            clear HA
            simp only [laws_FnExactFirstThumbs.j0] at H
            by_cases c19 : x50_9 = true
            · subst c19
              have H1 : (some false) = some r := by rw [if_pos rfl] at H; exact H
              clear H
              have H := H1
              clear H1
              obtain rfl := Option.some.inj H
              go_wp2
              go_ret
              exact ⟨by first | rfl | (simp [errW_none, errW_some] <;> rfl) | (simp [*, errW_none, errW_some] <;> rfl), by repeat (first | (with_reducible first | exact HB.out | apply below_alloc | apply pw_below_drewN | apply below_drew1) | exact HB.out)⟩
            · replace c19 := Bool.eq_false_iff.mpr c19
              subst c19
              have H1 : ((laws_markIntS.f kj9 t214 1).bind fun bt219 => ((laws_heldIntS.f kj9 bt219.2 1).bind fun t221 => (if t221 < 0 then (some false) else (if t221 = bt219.1 then ((impl_FirstThumbs.f kj9 a0 a1 a2 a3).bind fun bt222 => ((laws_eqIntS.f kj9 bt222.1 t210).bind fun t226 => (if t226 = true then (laws_FnExactFirstThumbs.j1 kj9 bt219.2 bt219.1 (bt222.2 != t211)) else (laws_FnExactFirstThumbs.j1 kj9 bt219.2 bt219.1 true)))) else (some false))))) = some r := by rw [if_neg (show ¬ (false = true) by decide)] at H; exact H
              clear H
              have H := H1
              clear H1
              replace H := Option.bind_eq_some_iff.mp H
              obtain ⟨⟨t219, t220⟩, A200, H⟩ := H
              replace H : ((laws_heldIntS.f kj9 t220 1).bind fun t221 => (if t221 < 0 then (some false) else (if t221 = t219 then ((impl_FirstThumbs.f kj9 a0 a1 a2 a3).bind fun bt222 => ((laws_eqIntS.f kj9 bt222.1 t210).bind fun t226 => (if t226 = true then (laws_FnExactFirstThumbs.j1 kj9 t220 t219 (bt222.2 != t211)) else (laws_FnExactFirstThumbs.j1 kj9 t220 t219 true)))) else (some false)))) = some r := H
              have A20 := Aside0.mk A200
              clear A200
              replace H := Option.bind_eq_some_iff.mp H
              obtain ⟨t221, A210, H⟩ := H
              replace H : (if t221 < 0 then (some false) else (if t221 = t219 then ((impl_FirstThumbs.f kj9 a0 a1 a2 a3).bind fun bt222 => ((laws_eqIntS.f kj9 bt222.1 t210).bind fun t226 => (if t226 = true then (laws_FnExactFirstThumbs.j1 kj9 t220 t219 (bt222.2 != t211)) else (laws_FnExactFirstThumbs.j1 kj9 t220 t219 true)))) else (some false))) = some r := H
              have A21 := Aside0.mk A210
              clear A210
              by_cases c22 : t221 < 0
              · rw [if_pos c22] at H
                have c22b0 : decide (t221 < 0) = true := decide_eq_true c22
                clear c22
                obtain rfl := Option.some.inj H
                obtain ⟨Ao23, co23, eo23⟩ := Kd.R_slice HO_11.out
                subst eo23
                go_wp2_with (first | ((with_reducible refine gate_callee (f := 16) rfl ?_); refine goesL_ (some 53) rfl rfl Tryd.func16 (by kernel_rfl) rfl #[.slice Ao23 t214.length co23, .int .i64 1] rfl (by (try simp only [List.map_toArray, List.map_cons, List.map_nil]); first | done | rfl | (simp only [List.length_drop, List.length_take]; rfl)) ?_; (with_reducible refine (laws_markIntS.calls kj9 (fun k_ => some k_ = (.slice Ao23 t214.length co23 : Value).ownBlock) (.slice Ao23 t214.length co23) t214 1 t219 t220 w _ ?side1 ?side2 A20.out).mono ?_); (case side1 => repeat (first | (with_reducible first | exact HB.out | apply below_alloc | apply pw_below_drewN | apply below_drew1) | exact HB.out)); (case side2 => exact Kd.R_tight rfl HO_11.out); rintro e w24 ⟨rfl, hy0, hb, hkp⟩; refine ⟨_, rfl, ?_⟩; have n0_ := Aside0.mk (Kd.R_mono (ok' := fun k_ => some k_ ≠ (.slice Ao23 t214.length co23 : Value).ownBlock) (Kd.R_keptB (HO_9.out) hkp (fun k_ hk_ hs_ => (hk_) hs_)) (fun k_ hk_ => hk_.1)); have n1_ := Aside0.mk (Kd.R_reok rfl hy0 (fun k_ e_ => HO_11.out.1 k_ e_)); have n2_ := Aside0.mk (hb); clear HO_9; clear HO_11; clear HB; have HO_9 := n0_; have HO_11 := n1_; have HB := n2_; clear n0_ n1_ n2_; (try clear hb); (try clear hkp); (try clear hy0)) | ((with_reducible refine gate_callee (f := 17) rfl ?_); refine goesL_ (some 56) rfl rfl Tryd.func17 (by kernel_rfl) rfl #[.slice Ao23 t220.length co23, .int .i64 1] rfl (by (try simp only [List.map_toArray, List.map_cons, List.map_nil]); first | done | (rw [show t220.length = t214.length from (Kd.R_reads' HO_11.out).1.symm] <;> rfl) | rfl | (simp only [List.length_drop, List.length_take]; rfl)) ?_; (with_reducible refine (laws_heldIntS.calls kj9 _ _ t220 1 t221 _ ?side1 ?side2 A21.out).mono ?_); (case side1 => repeat (first | exact (Kd.R_reads' HO_11.out).2.2 | (with_reducible refine Kd.C_alloc ?_ _) | (with_reducible refine Kd.C_drewN ?_ _) | (with_reducible refine Kd.C_drew ?_))); (case side2 => rw [show t220.length = t214.length from (Kd.R_reads' HO_11.out).1.symm]; exact (Kd.R_reads' HO_11.out).2.1); rintro e w' ⟨rfl, ⟨nd, rfl⟩⟩; refine ⟨_, rfl, ?_⟩))
                go_ret
                exact ⟨by first | rfl | (simp [errW_none, errW_some] <;> rfl) | (simp [*, errW_none, errW_some] <;> rfl), by repeat (first | (with_reducible first | exact HB.out | apply below_alloc | apply pw_below_drewN | apply below_drew1) | exact HB.out)⟩
              · rw [if_neg c22] at H
                have c22b0 : decide (t221 < 0) = false := decide_eq_false c22
                clear c22
                by_cases c25 : t221 = t219
                · rw [if_pos c25] at H
                  have c25b0 : (t221 == t219) = true := beq_iff_eq.mpr c25
                  have c25b1 : (t221 != t219) = false := bne_eq_false_iff_eq.mpr c25
                  clear c25
                  replace H := Option.bind_eq_some_iff.mp H
                  obtain ⟨⟨t222, t223⟩, A260, H⟩ := H
                  replace H : ((laws_eqIntS.f kj9 t222 t210).bind fun t226 => (if t226 = true then (laws_FnExactFirstThumbs.j1 kj9 t220 t219 (t223 != t211)) else (laws_FnExactFirstThumbs.j1 kj9 t220 t219 true))) = some r := H
                  have A26 := Aside0.mk A260
                  clear A260
                  have HC27 := Aside0.mk H
                  clear H
                  obtain ⟨Ao28, co28, eo28⟩ := Kd.R_slice HO_11.out
                  subst eo28
                  go_upto_region 20 with (first | ((with_reducible refine gate_callee (f := 16) rfl ?_); refine goesL_ (some 53) rfl rfl Tryd.func16 (by kernel_rfl) rfl #[.slice Ao28 t214.length co28, .int .i64 1] rfl (by (try simp only [List.map_toArray, List.map_cons, List.map_nil]); first | done | rfl | (simp only [List.length_drop, List.length_take]; rfl)) ?_; (with_reducible refine (laws_markIntS.calls kj9 (fun k_ => some k_ = (.slice Ao28 t214.length co28 : Value).ownBlock) (.slice Ao28 t214.length co28) t214 1 t219 t220 w _ ?side1 ?side2 A20.out).mono ?_); (case side1 => repeat (first | (with_reducible first | exact HB.out | apply below_alloc | apply pw_below_drewN | apply below_drew1) | exact HB.out)); (case side2 => exact Kd.R_tight rfl HO_11.out); rintro e w29 ⟨rfl, hy0, hb, hkp⟩; refine ⟨_, rfl, ?_⟩; have n0_ := Aside0.mk (Kd.R_mono (ok' := fun k_ => some k_ ≠ (.slice Ao28 t214.length co28 : Value).ownBlock) (Kd.R_keptB (HO_9.out) hkp (fun k_ hk_ hs_ => (hk_) hs_)) (fun k_ hk_ => hk_.1)); have n1_ := Aside0.mk (Kd.R_reok rfl hy0 (fun k_ e_ => HO_11.out.1 k_ e_)); have n2_ := Aside0.mk (hb); clear HO_9; clear HO_11; clear HB; have HO_9 := n0_; have HO_11 := n1_; have HB := n2_; clear n0_ n1_ n2_; (try clear hb); (try clear hkp); (try clear hy0)) | ((with_reducible refine gate_callee (f := 17) rfl ?_); refine goesL_ (some 56) rfl rfl Tryd.func17 (by kernel_rfl) rfl #[.slice Ao28 t220.length co28, .int .i64 1] rfl (by (try simp only [List.map_toArray, List.map_cons, List.map_nil]); first | done | (rw [show t220.length = t214.length from (Kd.R_reads' HO_11.out).1.symm] <;> rfl) | rfl | (simp only [List.length_drop, List.length_take]; rfl)) ?_; (with_reducible refine (laws_heldIntS.calls kj9 _ _ t220 1 t221 _ ?side1 ?side2 A21.out).mono ?_); (case side1 => repeat (first | exact (Kd.R_reads' HO_11.out).2.2 | (with_reducible refine Kd.C_alloc ?_ _) | (with_reducible refine Kd.C_drewN ?_ _) | (with_reducible refine Kd.C_drew ?_))); (case side2 => rw [show t220.length = t214.length from (Kd.R_reads' HO_11.out).1.symm]; exact (Kd.R_reads' HO_11.out).2.1); rintro e w' ⟨rfl, ⟨nd, rfl⟩⟩; refine ⟨_, rfl, ?_⟩) | ((with_reducible refine gate_callee (f := 14) rfl ?_); refine goesL_ (some 67) rfl rfl Tryd.func14 (by kernel_rfl) rfl #[.string a0, .string a1, .string a2, .bool a3] rfl (by (try simp only [List.map_toArray, List.map_cons, List.map_nil]); first | done | rfl | (simp only [List.length_drop, List.length_take]; rfl)) ?_; (with_reducible refine (impl_FirstThumbs.calls kj9 a0 a1 a2 a3 t222 t223 _ A26.out).mono ?_); rintro e w30 ⟨v224, rfl, ho0, hb⟩; refine ⟨_, rfl, ?_⟩; have n0_ := Aside0.mk (Kd.R_elder' (by (with_reducible repeat (first | apply Kd.R_alloc | apply Kd.R_drewN | apply Kd.R_drew)); exact HO_9.out) (Kd.R_base ho0) hb); have n1_ := Aside0.mk (Kd.R_elder' (by (with_reducible repeat (first | apply Kd.R_alloc | apply Kd.R_drewN | apply Kd.R_drew)); exact HO_11.out) (Kd.R_base ho0) hb); have n2_ := Aside0.mk (Kd.R_lower (Kd.R_new' (Kd.R_new' ho0 (Kd.R_lt (by (with_reducible repeat (first | apply Kd.R_alloc | apply Kd.R_drewN | apply Kd.R_drew)); exact HO_9.out))) (Kd.R_lt (by (with_reducible repeat (first | apply Kd.R_alloc | apply Kd.R_drewN | apply Kd.R_drew)); exact HO_11.out))) (below_size (by repeat (first | (with_reducible first | exact HB.out | apply below_alloc | apply pw_below_drewN | apply below_drew1) | exact HB.out)))); have n3_ := Aside0.mk (below_step (by repeat (first | (with_reducible first | exact HB.out | apply below_alloc | apply pw_below_drewN | apply below_drew1) | exact HB.out)) hb); clear HO_9; clear HO_11; clear HB; have HO_9 := n0_; have HO_11 := n1_; have HO225 := n2_; have HB := n3_; clear n0_ n1_ n2_ n3_; (try clear hb); (try clear hb2); (try clear hk); (try clear hi); (try clear ho0)))
                  (try simp only [Act.put, List.setIfInBounds_toArray, List.set_cons_zero, List.set_cons_succ])
                  go_cut [78] (fun v78 wc => ∃ (kq : Nat) (x78_26 : Bool), v78 = .bool x78_26 ∧ Aside0 (laws_FnExactFirstThumbs.j1 kq t220 t219 x78_26 = some r) ∧ Aside0 (kq ≤ kj9) ∧ Aside0 (Kd.R (Kd.int .i64) 3 wc w.heap.size (fun _ => True) (.slice Ao28 t214.length co28) t220) ∧ Aside0 (Below w.heap.size w wc))
                  case first =>
                    have H := HC27.out
                    clear HC27
                    replace H := Option.bind_eq_some_iff.mp H
                    obtain ⟨t226, A310, H⟩ := H
                    replace H : (if t226 = true then (laws_FnExactFirstThumbs.j1 kj9 t220 t219 (t223 != t211)) else (laws_FnExactFirstThumbs.j1 kj9 t220 t219 true)) = some r := H
                    have A31 := Aside0.mk A310
                    clear A310
                    by_cases c32 : t226 = true
                    · subst c32
                      have H1 : (laws_FnExactFirstThumbs.j1 kj9 t220 t219 (t223 != t211)) = some r := by rw [if_pos rfl] at H; exact H
                      clear H
                      have H := H1
                      clear H1
                      have H' := Aside0.mk H
                      clear H
                      obtain ⟨Ao33, co33, eo33⟩ := Kd.R_slice HO225.out
                      subst eo33
                      obtain ⟨Ao34, co34, eo34⟩ := Kd.R_slice HO_9.out
                      subst eo34
                      go_wp2_with (first | ((with_reducible refine gate_callee (f := 15) rfl ?_); refine goesL_ (some 72) rfl rfl Tryd.func15 (by kernel_rfl) rfl #[.slice Ao33 t222.length co33, .slice Ao34 t210.length co34] rfl (by (try simp only [List.map_toArray, List.map_cons, List.map_nil]); first | done | rfl | (simp only [List.length_drop, List.length_take]; rfl)) ?_; (with_reducible refine (laws_eqIntS.calls kj9 _ _ t222 _ _ t210 true _ ?side1 ?side2 ?side3 ?side4 A31.out).mono ?_); (case side1 => repeat (first | exact (Kd.R_reads' HO225.out).2.2 | (with_reducible refine Kd.C_alloc ?_ _) | (with_reducible refine Kd.C_drewN ?_ _) | (with_reducible refine Kd.C_drew ?_))); (case side2 => exact (Kd.R_reads' HO225.out).2.1); (case side3 => repeat (first | exact (Kd.R_reads' HO_9.out).2.2 | (with_reducible refine Kd.C_alloc ?_ _) | (with_reducible refine Kd.C_drewN ?_ _) | (with_reducible refine Kd.C_drew ?_))); (case side4 => exact (Kd.R_reads' HO_9.out).2.1); rintro e w' ⟨rfl, ⟨nd, rfl⟩⟩; refine ⟨_, rfl, ?_⟩))
                      go_meet
                      case rel => exact ⟨_, ((t223 != t211)), (by first | rfl | (simp; done) | (simp [*]; done)), H', ⟨by have := HJ9.out; first | omega | exact Nat.le_refl _⟩, ⟨by (with_reducible repeat (first | apply Kd.R_alloc | apply Kd.R_drewN | apply Kd.R_drew)); exact Kd.R_mono HO_11.out (fun _ hk => trivial)⟩, ⟨by repeat (first | (with_reducible first | exact HB.out | apply below_alloc | apply pw_below_drewN | apply below_drew1) | exact HB.out)⟩⟩
                    · replace c32 := Bool.eq_false_iff.mpr c32
                      subst c32
                      have H1 : (laws_FnExactFirstThumbs.j1 kj9 t220 t219 true) = some r := by rw [if_neg (show ¬ (false = true) by decide)] at H; exact H
                      clear H
                      have H := H1
                      clear H1
                      have H' := Aside0.mk H
                      clear H
                      obtain ⟨Ao35, co35, eo35⟩ := Kd.R_slice HO225.out
                      subst eo35
                      obtain ⟨Ao36, co36, eo36⟩ := Kd.R_slice HO_9.out
                      subst eo36
                      go_wp2_with (first | ((with_reducible refine gate_callee (f := 15) rfl ?_); refine goesL_ (some 72) rfl rfl Tryd.func15 (by kernel_rfl) rfl #[.slice Ao35 t222.length co35, .slice Ao36 t210.length co36] rfl (by (try simp only [List.map_toArray, List.map_cons, List.map_nil]); first | done | rfl | (simp only [List.length_drop, List.length_take]; rfl)) ?_; (with_reducible refine (laws_eqIntS.calls kj9 _ _ t222 _ _ t210 false _ ?side1 ?side2 ?side3 ?side4 A31.out).mono ?_); (case side1 => repeat (first | exact (Kd.R_reads' HO225.out).2.2 | (with_reducible refine Kd.C_alloc ?_ _) | (with_reducible refine Kd.C_drewN ?_ _) | (with_reducible refine Kd.C_drew ?_))); (case side2 => exact (Kd.R_reads' HO225.out).2.1); (case side3 => repeat (first | exact (Kd.R_reads' HO_9.out).2.2 | (with_reducible refine Kd.C_alloc ?_ _) | (with_reducible refine Kd.C_drewN ?_ _) | (with_reducible refine Kd.C_drew ?_))); (case side4 => exact (Kd.R_reads' HO_9.out).2.1); rintro e w' ⟨rfl, ⟨nd, rfl⟩⟩; refine ⟨_, rfl, ?_⟩))
                      go_meet
                      case rel => exact ⟨_, (true), (by first | rfl | (simp; done) | (simp [*]; done)), H', ⟨by have := HJ9.out; first | omega | exact Nat.le_refl _⟩, ⟨by (with_reducible repeat (first | apply Kd.R_alloc | apply Kd.R_drewN | apply Kd.R_drew)); exact Kd.R_mono HO_11.out (fun _ hk => trivial)⟩, ⟨by repeat (first | (with_reducible first | exact HB.out | apply below_alloc | apply pw_below_drewN | apply below_drew1) | exact HB.out)⟩⟩
                  case rest =>
                    clear HC27
                    try clear c1
                    try clear c2
                    try clear p2
                    try clear c3
                    try clear c5
                    try clear c5b0
                    try clear c5b1
                    try clear c6
                    try clear c6b0
                    try clear c6b1
                    try clear c7
                    try clear c7b0
                    try clear c7b1
                    try clear c13
                    try clear c14
                    try clear c15
                    try clear c16
                    try clear c17
                    try clear c19
                    try clear c22
                    try clear c22b0
                    try clear c25
                    try clear c25b0
                    try clear c25b1
                    try clear c32
                    try clear p2
                    obtain ⟨kq, x78_26, rfl, HA, HJ26, HO_11, HB⟩ := hcut
                    have hl11_26 := (Kd.R_reads' HO_11.out).1
                    rw [hl11_26] at HO_11
                    (try simp only [hl11_26])
                    cases kq with
                    | zero => exact absurd HA.out (by simp [laws_FnExactFirstThumbs.j1])
                    | succ kj26 =>
                      have H := HA.out
                      clear HA
                      simp only [laws_FnExactFirstThumbs.j1] at H
                      by_cases c37 : x78_26 = true
                      · subst c37
                        have H1 : (some false) = some r := by rw [if_pos rfl] at H; exact H
                        clear H
                        have H := H1
                        clear H1
                        obtain rfl := Option.some.inj H
                        go_wp2
                        go_ret
                        exact ⟨by first | rfl | (simp [errW_none, errW_some] <;> rfl) | (simp [*, errW_none, errW_some] <;> rfl), by repeat (first | (with_reducible first | exact HB.out | apply below_alloc | apply pw_below_drewN | apply below_drew1) | exact HB.out)⟩
                      · replace c37 := Bool.eq_false_iff.mpr c37
                        subst c37
                        have H1 : ((laws_heldIntS.f kj26 t220 1).bind fun t227 => (if t227 < 0 then (some false) else (if t227 = t219 then (some true) else (some false)))) = some r := by rw [if_neg (show ¬ (false = true) by decide)] at H; exact H
                        clear H
                        have H := H1
                        clear H1
                        replace H := Option.bind_eq_some_iff.mp H
                        obtain ⟨t227, A380, H⟩ := H
                        replace H : (if t227 < 0 then (some false) else (if t227 = t219 then (some true) else (some false))) = some r := H
                        have A38 := Aside0.mk A380
                        clear A380
                        by_cases c39 : t227 < 0
                        · rw [if_pos c39] at H
                          have c39b0 : decide (t227 < 0) = true := decide_eq_true c39
                          clear c39
                          obtain rfl := Option.some.inj H
                          go_wp2_with (first | ((with_reducible refine gate_callee (f := 17) rfl ?_); refine goesL_ (some 81) rfl rfl Tryd.func17 (by kernel_rfl) rfl #[.slice Ao28 t220.length co28, .int .i64 1] rfl (by (try simp only [List.map_toArray, List.map_cons, List.map_nil]); first | done | rfl | (simp only [List.length_drop, List.length_take]; rfl)) ?_; (with_reducible refine (laws_heldIntS.calls kj26 _ _ t220 1 t227 _ ?side1 ?side2 A38.out).mono ?_); (case side1 => repeat (first | exact (Kd.R_reads' HO_11.out).2.2 | (with_reducible refine Kd.C_alloc ?_ _) | (with_reducible refine Kd.C_drewN ?_ _) | (with_reducible refine Kd.C_drew ?_))); (case side2 => exact (Kd.R_reads' HO_11.out).2.1); rintro e w' ⟨rfl, ⟨nd, rfl⟩⟩; refine ⟨_, rfl, ?_⟩))
                          go_ret
                          exact ⟨by first | rfl | (simp [errW_none, errW_some] <;> rfl) | (simp [*, errW_none, errW_some] <;> rfl), by repeat (first | (with_reducible first | exact HB.out | apply below_alloc | apply pw_below_drewN | apply below_drew1) | exact HB.out)⟩
                        · rw [if_neg c39] at H
                          have c39b0 : decide (t227 < 0) = false := decide_eq_false c39
                          clear c39
                          by_cases c40 : t227 = t219
                          · rw [if_pos c40] at H
                            have c40b0 : (t227 == t219) = true := beq_iff_eq.mpr c40
                            have c40b1 : (t227 != t219) = false := bne_eq_false_iff_eq.mpr c40
                            clear c40
                            obtain rfl := Option.some.inj H
                            go_wp2_with (first | ((with_reducible refine gate_callee (f := 17) rfl ?_); refine goesL_ (some 81) rfl rfl Tryd.func17 (by kernel_rfl) rfl #[.slice Ao28 t220.length co28, .int .i64 1] rfl (by (try simp only [List.map_toArray, List.map_cons, List.map_nil]); first | done | rfl | (simp only [List.length_drop, List.length_take]; rfl)) ?_; (with_reducible refine (laws_heldIntS.calls kj26 _ _ t220 1 t227 _ ?side1 ?side2 A38.out).mono ?_); (case side1 => repeat (first | exact (Kd.R_reads' HO_11.out).2.2 | (with_reducible refine Kd.C_alloc ?_ _) | (with_reducible refine Kd.C_drewN ?_ _) | (with_reducible refine Kd.C_drew ?_))); (case side2 => exact (Kd.R_reads' HO_11.out).2.1); rintro e w' ⟨rfl, ⟨nd, rfl⟩⟩; refine ⟨_, rfl, ?_⟩))
                            go_ret
                            exact ⟨by first | rfl | (simp [errW_none, errW_some] <;> rfl) | (simp [*, errW_none, errW_some] <;> rfl), by repeat (first | (with_reducible first | exact HB.out | apply below_alloc | apply pw_below_drewN | apply below_drew1) | exact HB.out)⟩
                          · rw [if_neg c40] at H
                            have c40b0 : (t227 == t219) = false := beq_eq_false_iff_ne.mpr c40
                            have c40b1 : (t227 != t219) = true := bne_iff_ne.mpr c40
                            obtain rfl := Option.some.inj H
                            go_wp2_with (first | ((with_reducible refine gate_callee (f := 17) rfl ?_); refine goesL_ (some 81) rfl rfl Tryd.func17 (by kernel_rfl) rfl #[.slice Ao28 t220.length co28, .int .i64 1] rfl (by (try simp only [List.map_toArray, List.map_cons, List.map_nil]); first | done | rfl | (simp only [List.length_drop, List.length_take]; rfl)) ?_; (with_reducible refine (laws_heldIntS.calls kj26 _ _ t220 1 t227 _ ?side1 ?side2 A38.out).mono ?_); (case side1 => repeat (first | exact (Kd.R_reads' HO_11.out).2.2 | (with_reducible refine Kd.C_alloc ?_ _) | (with_reducible refine Kd.C_drewN ?_ _) | (with_reducible refine Kd.C_drew ?_))); (case side2 => exact (Kd.R_reads' HO_11.out).2.1); rintro e w' ⟨rfl, ⟨nd, rfl⟩⟩; refine ⟨_, rfl, ?_⟩))
                            go_ret
                            exact ⟨by first | rfl | (simp [errW_none, errW_some] <;> rfl) | (simp [*, errW_none, errW_some] <;> rfl), by repeat (first | (with_reducible first | exact HB.out | apply below_alloc | apply pw_below_drewN | apply below_drew1) | exact HB.out)⟩
                · rw [if_neg c25] at H
                  have c25b0 : (t221 == t219) = false := beq_eq_false_iff_ne.mpr c25
                  have c25b1 : (t221 != t219) = true := bne_iff_ne.mpr c25
                  obtain rfl := Option.some.inj H
                  obtain ⟨Ao41, co41, eo41⟩ := Kd.R_slice HO_11.out
                  subst eo41
                  go_wp2_with (first | ((with_reducible refine gate_callee (f := 16) rfl ?_); refine goesL_ (some 53) rfl rfl Tryd.func16 (by kernel_rfl) rfl #[.slice Ao41 t214.length co41, .int .i64 1] rfl (by (try simp only [List.map_toArray, List.map_cons, List.map_nil]); first | done | rfl | (simp only [List.length_drop, List.length_take]; rfl)) ?_; (with_reducible refine (laws_markIntS.calls kj9 (fun k_ => some k_ = (.slice Ao41 t214.length co41 : Value).ownBlock) (.slice Ao41 t214.length co41) t214 1 t219 t220 w _ ?side1 ?side2 A20.out).mono ?_); (case side1 => repeat (first | (with_reducible first | exact HB.out | apply below_alloc | apply pw_below_drewN | apply below_drew1) | exact HB.out)); (case side2 => exact Kd.R_tight rfl HO_11.out); rintro e w42 ⟨rfl, hy0, hb, hkp⟩; refine ⟨_, rfl, ?_⟩; have n0_ := Aside0.mk (Kd.R_mono (ok' := fun k_ => some k_ ≠ (.slice Ao41 t214.length co41 : Value).ownBlock) (Kd.R_keptB (HO_9.out) hkp (fun k_ hk_ hs_ => (hk_) hs_)) (fun k_ hk_ => hk_.1)); have n1_ := Aside0.mk (Kd.R_reok rfl hy0 (fun k_ e_ => HO_11.out.1 k_ e_)); have n2_ := Aside0.mk (hb); clear HO_9; clear HO_11; clear HB; have HO_9 := n0_; have HO_11 := n1_; have HB := n2_; clear n0_ n1_ n2_; (try clear hb); (try clear hkp); (try clear hy0)) | ((with_reducible refine gate_callee (f := 17) rfl ?_); refine goesL_ (some 56) rfl rfl Tryd.func17 (by kernel_rfl) rfl #[.slice Ao41 t220.length co41, .int .i64 1] rfl (by (try simp only [List.map_toArray, List.map_cons, List.map_nil]); first | done | (rw [show t220.length = t214.length from (Kd.R_reads' HO_11.out).1.symm] <;> rfl) | rfl | (simp only [List.length_drop, List.length_take]; rfl)) ?_; (with_reducible refine (laws_heldIntS.calls kj9 _ _ t220 1 t221 _ ?side1 ?side2 A21.out).mono ?_); (case side1 => repeat (first | exact (Kd.R_reads' HO_11.out).2.2 | (with_reducible refine Kd.C_alloc ?_ _) | (with_reducible refine Kd.C_drewN ?_ _) | (with_reducible refine Kd.C_drew ?_))); (case side2 => rw [show t220.length = t214.length from (Kd.R_reads' HO_11.out).1.symm]; exact (Kd.R_reads' HO_11.out).2.1); rintro e w' ⟨rfl, ⟨nd, rfl⟩⟩; refine ⟨_, rfl, ?_⟩))
                  go_ret
                  exact ⟨by first | rfl | (simp [errW_none, errW_some] <;> rfl) | (simp [*, errW_none, errW_some] <;> rfl), by repeat (first | (with_reducible first | exact HB.out | apply below_alloc | apply pw_below_drewN | apply below_drew1) | exact HB.out)⟩

/-- THE ONE PURE STATEMENT of laws_FnExactFirstThumbs: yours. -/
def laws_FnExactFirstThumbs.Pure : Prop := ∀ (a0 : ByteArray) (a1 : ByteArray) (a2 : ByteArray) (a3 : Bool), a0.size ≤ 140737488351232 → a1.size ≤ 140737488351232 → a2.size ≤ 140737488351232 → ∃ k, laws_FnExactFirstThumbs.f k a0 a1 a2 a3 = some true
theorem laws_FnExactFirstThumbs.walk (P : laws_FnExactFirstThumbs.Pure) (a0 : ByteArray) (a1 : ByteArray) (a2 : ByteArray) (a3 : Bool) (w : World) (w0 : a0.size ≤ 140737488351232) (w1 : a1.size ≤ 140737488351232) (w2 : a2.size ≤ 140737488351232) :
    Calls Tryd.prog 6 #[.string a0, .string a1, .string a2, .bool a3] w fun e w' => e = .returned (.bool true) ∧ Below w.heap.size w w' := by
  obtain ⟨k, h⟩ := P a0 a1 a2 a3 w0 w1 w2
  refine (laws_FnExactFirstThumbs.calls k a0 a1 a2 a3 true w h).mono ?_
  rintro e w' ⟨rfl, hd⟩
  exact ⟨rfl, hd⟩

end Go.Proofs.YthnjmokaiiajmaaDoor.P

namespace Go.Proofs.YthnjmokaiiajmaaDoor.P
open Go.RowKit Go.Proofs.YthnjmokaiiajmaaDoorW.PrintWords Go.Proofs.YthnjmokaiiajmaaDoorW.PrintLast Go.Proofs.YthnjmokaiiajmaaDoorW.PrintMore
attribute [local go_sem] max2_int min2_int max_two min_two max_three min_three max_four min_four   -- for this text's walks alone
set_option linter.unusedVariables false
set_option linter.unusedSimpArgs false

/-! ### spec_TwoThumbs: function 7 -/
def spec_TwoThumbs.f (k : Nat) (a0 : ByteArray) (a1 : ByteArray) (a2 : ByteArray) (a3 : Bool) : Option (Int × Bool) := (spec_thBoth.f k a0 a1 a2).bind fun t114 => (if t114 = true then ((spec_thTable.f k a0 a3).bind fun bt115 => (if 0 < (bt115.1.length : Int) then ((spec_thAt.f k a1 a2).bind fun t122 => (if 0 ≤ t122 then (if t122 < ((rd_L1 bt115.1 0).length : Int) then (some (rd (rd_L1 bt115.1 0) t122, true)) else (none)) else (none))) else (none))) else (some (0, false)))
theorem spec_TwoThumbs.mono : ∀ a0 a1 a2 a3 k, LeO (spec_TwoThumbs.f k a0 a1 a2 a3) (spec_TwoThumbs.f (k + 1) a0 a1 a2 a3) := by
  intro a0 a1 a2 a3 k
  unfold spec_TwoThumbs.f
  repeat' first
      | (with_reducible exact spec_thAt.mono _ _ _)
      | (with_reducible exact spec_thBoth.mono _ _ _ _)
      | (with_reducible exact spec_thTable.mono _ _ _)
      | (with_reducible exact LeO.refl _)
      | (with_reducible exact LeO.none _)
      | (with_reducible refine LeO.ite ?_ ?_)
      | (with_reducible refine LeO.bind ?_ (fun _ => ?_))
      | exact spec_thAt.mono _ _ _
      | exact spec_thBoth.mono _ _ _ _
      | exact spec_thTable.mono _ _ _
      | exact LeO.none _
      | refine LeO.ite ?_ ?_
      | refine LeO.bind ?_ (fun _ => ?_)
set_option maxHeartbeats 8000000 in
set_option maxRecDepth 100000 in
theorem spec_TwoThumbs.calls (k : Nat) (a0 : ByteArray) (a1 : ByteArray) (a2 : ByteArray) (a3 : Bool) (r1 : Int) (r2 : Bool) (w : World) (h : spec_TwoThumbs.f k a0 a1 a2 a3 = some (r1, r2)) :
    Calls Tryd.prog 7 #[.string a0, .string a1, .string a2, .bool a3] w fun e w' => e = .returned (.tuple #[.int .i64 r1, .bool r2]) ∧ Below w.heap.size w w' := by
  have HB := Aside0.mk (Below.refl w.heap.size w)
  have H : ((spec_thBoth.f k a0 a1 a2).bind fun t114 => (if t114 = true then ((spec_thTable.f k a0 a3).bind fun bt115 => (if 0 < (bt115.1.length : Int) then ((spec_thAt.f k a1 a2).bind fun t122 => (if 0 ≤ t122 then (if t122 < ((rd_L1 bt115.1 0).length : Int) then (some (rd (rd_L1 bt115.1 0) t122, true)) else (none)) else (none))) else (none))) else (some (0, false)))) = some (r1, r2) := h
  clear h
  replace H := Option.bind_eq_some_iff.mp H
  obtain ⟨t114, A50, H⟩ := H
  replace H : (if t114 = true then ((spec_thTable.f k a0 a3).bind fun bt115 => (if 0 < (bt115.1.length : Int) then ((spec_thAt.f k a1 a2).bind fun t122 => (if 0 ≤ t122 then (if t122 < ((rd_L1 bt115.1 0).length : Int) then (some (rd (rd_L1 bt115.1 0) t122, true)) else (none)) else (none))) else (none))) else (some (0, false))) = some (r1, r2) := H
  have A5 := Aside0.mk A50
  clear A50
  by_cases c6 : t114 = true
  · subst c6
    have H1 : ((spec_thTable.f k a0 a3).bind fun bt115 => (if 0 < (bt115.1.length : Int) then ((spec_thAt.f k a1 a2).bind fun t122 => (if 0 ≤ t122 then (if t122 < ((rd_L1 bt115.1 0).length : Int) then (some (rd (rd_L1 bt115.1 0) t122, true)) else (none)) else (none))) else (none))) = some (r1, r2) := by rw [if_pos rfl] at H; exact H
    clear H
    have H := H1
    clear H1
    replace H := Option.bind_eq_some_iff.mp H
    obtain ⟨⟨t115, t116⟩, A70, H⟩ := H
    replace H : (if 0 < (t115.length : Int) then ((spec_thAt.f k a1 a2).bind fun t122 => (if 0 ≤ t122 then (if t122 < ((rd_L1 t115 0).length : Int) then (some (rd (rd_L1 t115 0) t122, true)) else (none)) else (none))) else (none)) = some (r1, r2) := H
    have A7 := Aside0.mk A70
    clear A70
    by_cases c8 : 0 < (t115.length : Int)
    · rw [if_pos c8] at H
      have c8b0 : decide (0 < (t115.length : Int)) = true := decide_eq_true c8
      have c8b1 : decide (0 < t115.length) = true := decide_eq_true (by omega)
      clear c8
      replace H := Option.bind_eq_some_iff.mp H
      obtain ⟨t122, A90, H⟩ := H
      replace H : (if 0 ≤ t122 then (if t122 < ((rd_L1 t115 0).length : Int) then (some (rd (rd_L1 t115 0) t122, true)) else (none)) else (none)) = some (r1, r2) := H
      have A9 := Aside0.mk A90
      clear A90
      by_cases c10 : 0 ≤ t122
      · rw [if_pos c10] at H
        have c10b0 : decide (0 ≤ t122) = true := decide_eq_true c10
        clear c10
        by_cases c11 : t122 < ((rd_L1 t115 0).length : Int)
        · rw [if_pos c11] at H
          have c11b0 : decide (t122 < ((rd_L1 t115 0).length : Int)) = true := decide_eq_true c11
          clear c11
          simp only [Option.some.injEq, Prod.mk.injEq] at H
          obtain ⟨rfl, rfl⟩ := H
          go_enter Tryd.func7, Tryd.ntmps7
          go_wp2_with (first | (go_at_call 18; (with_reducible refine (spec_thBoth.calls k a0 a1 a2 true _ A5.out).mono ?_); rintro e w' ⟨rfl, ⟨nd, rfl⟩⟩; (try first | exact ⟨rfl, _, World.drewN_drewN _ _ _⟩ | exact ⟨rfl, _, Eq.trans (World.drewN_drewN _ _ _) (congrArg (World.drewN _) (Nat.add_assoc _ _ _))⟩)) | (go_at_call 19; (with_reducible refine (spec_thTable.calls k a0 a3 t115 t116 _ A7.out).mono ?_); rintro e w12 ⟨v117, v119, rfl, ho0, ho1, hb⟩; have n0_ := Aside0.mk (Kd.S_lower ho0 (below_size (by repeat (first | (with_reducible first | exact HB.out | apply below_alloc | apply pw_below_drewN | apply below_drew1) | exact HB.out)))); have n1_ := Aside0.mk (Kd.S_lower ho1 (below_size (by repeat (first | (with_reducible first | exact HB.out | apply below_alloc | apply pw_below_drewN | apply below_drew1) | exact HB.out)))); have n2_ := Aside0.mk (below_step (by repeat (first | (with_reducible first | exact HB.out | apply below_alloc | apply pw_below_drewN | apply below_drew1) | exact HB.out)) hb); clear HB; have HO118 := n0_; have HO120 := n1_; have HB := n2_; clear n0_ n1_ n2_; (try clear hb); (try clear hb2); (try clear hk); (try clear hi); (try clear ho0); (try clear ho1); obtain ⟨Ao13, co13, eo13⟩ := Kd.S_slice HO118.out; subst eo13; have p121 : 0 ≤ (0 : Int) := (by omega); have q121 : 0 < (t115.length : Int) := of_decide_eq_true (by first | (with_reducible assumption) | assumption); obtain ⟨ad121, A121_0, c121_0, e121, hx121_0, hl121_0, hi121_0⟩ := at_L1 (Kd.S_reads' HO118.out).2.2 0 p121 q121; cases e121; obtain ⟨ce121, hce121, hMe121, hcc121⟩ := Kd.S_get HO118.out [] 0 p121 (by first | exact q121 | exact of_decide_eq_true (by first | (with_reducible assumption) | assumption) | (have e_ := (Kd.S_reads' HO118.out).1; omega)); obtain ⟨ve121_0, rfl, ge121_0⟩ := hMe121; have hv121_0 := hcc121 0 _ rfl; rw [Nat.add_zero, show ((Kd.slice 3 (Kd.int .i64))).sz = 1 from rfl, Nat.mul_one] at hv121_0; replace hv121_0 := Option.some.inj (hv121_0.symm.trans hx121_0); rw [hv121_0] at ge121_0; have HL121_0 := Aside0.mk (show Kd.R (Kd.int .i64) 3 _ _ _ _ (rd_L1 t115 0) from ge121_0); clear hv121_0 ge121_0; clear hcc121 hce121; have qi121 : (0 < t115.length) = True := eq_true (by omega); (try rw [show ((0 : Int)).toNat = 0 from rfl] at hx121_0); (try rw [Addr.add_zero'] at hx121_0); have HR121_0 := Aside0.mk hi121_0; have HC121_0 := Aside0.mk hl121_0; clear hi121_0 hl121_0; replace p121 := eq_true p121; replace q121 := eq_true q121) | (go_at_call 20; (with_reducible refine (spec_thAt.calls k a1 a2 t122 _ A9.out).mono ?_); rintro e w' ⟨rfl, ⟨nd, rfl⟩⟩; (try first | exact ⟨rfl, _, World.drewN_drewN _ _ _⟩ | exact ⟨rfl, _, Eq.trans (World.drewN_drewN _ _ _) (congrArg (World.drewN _) (Nat.add_assoc _ _ _))⟩); have p123 : 0 ≤ (t122 : Int) := of_decide_eq_true (by first | (with_reducible assumption) | assumption); have q123 : t122 < ((rd_L1 t115 0).length : Int) := of_decide_eq_true (by first | (with_reducible assumption) | assumption); obtain ⟨ad123, e123, hx123_0⟩ := Kd.at_int (by repeat (first | (with_reducible exact HR121_0.out) | (with_reducible refine Kd.C_alloc ?_ _) | (with_reducible refine Kd.C_drewN ?_ _) | (with_reducible refine Kd.C_drew ?_) | exact HR121_0.out)) t122 p123 q123; cases e123; replace p123 := eq_true p123; replace q123 := eq_true q123))
          repeat (go_quiet (first | (go_at_call 18; (with_reducible refine (spec_thBoth.calls k a0 a1 a2 true _ A5.out).mono ?_); rintro e w' ⟨rfl, ⟨nd, rfl⟩⟩; (try first | exact ⟨rfl, _, World.drewN_drewN _ _ _⟩ | exact ⟨rfl, _, Eq.trans (World.drewN_drewN _ _ _) (congrArg (World.drewN _) (Nat.add_assoc _ _ _))⟩)) | (go_at_call 19; (with_reducible refine (spec_thTable.calls k a0 a3 t115 t116 _ A7.out).mono ?_); rintro e w12 ⟨v117, v119, rfl, ho0, ho1, hb⟩; have n0_ := Aside0.mk (Kd.S_lower ho0 (below_size (by repeat (first | (with_reducible first | exact HB.out | apply below_alloc | apply pw_below_drewN | apply below_drew1) | exact HB.out)))); have n1_ := Aside0.mk (Kd.S_lower ho1 (below_size (by repeat (first | (with_reducible first | exact HB.out | apply below_alloc | apply pw_below_drewN | apply below_drew1) | exact HB.out)))); have n2_ := Aside0.mk (below_step (by repeat (first | (with_reducible first | exact HB.out | apply below_alloc | apply pw_below_drewN | apply below_drew1) | exact HB.out)) hb); clear HB; have HO118 := n0_; have HO120 := n1_; have HB := n2_; clear n0_ n1_ n2_; (try clear hb); (try clear hb2); (try clear hk); (try clear hi); (try clear ho0); (try clear ho1); obtain ⟨Ao13, co13, eo13⟩ := Kd.S_slice HO118.out; subst eo13; have p121 : 0 ≤ (0 : Int) := (by omega); have q121 : 0 < (t115.length : Int) := of_decide_eq_true (by first | (with_reducible assumption) | assumption); obtain ⟨ad121, A121_0, c121_0, e121, hx121_0, hl121_0, hi121_0⟩ := at_L1 (Kd.S_reads' HO118.out).2.2 0 p121 q121; cases e121; obtain ⟨ce121, hce121, hMe121, hcc121⟩ := Kd.S_get HO118.out [] 0 p121 (by first | exact q121 | exact of_decide_eq_true (by first | (with_reducible assumption) | assumption) | (have e_ := (Kd.S_reads' HO118.out).1; omega)); obtain ⟨ve121_0, rfl, ge121_0⟩ := hMe121; have hv121_0 := hcc121 0 _ rfl; rw [Nat.add_zero, show ((Kd.slice 3 (Kd.int .i64))).sz = 1 from rfl, Nat.mul_one] at hv121_0; replace hv121_0 := Option.some.inj (hv121_0.symm.trans hx121_0); rw [hv121_0] at ge121_0; have HL121_0 := Aside0.mk (show Kd.R (Kd.int .i64) 3 _ _ _ _ (rd_L1 t115 0) from ge121_0); clear hv121_0 ge121_0; clear hcc121 hce121; have qi121 : (0 < t115.length) = True := eq_true (by omega); (try rw [show ((0 : Int)).toNat = 0 from rfl] at hx121_0); (try rw [Addr.add_zero'] at hx121_0); have HR121_0 := Aside0.mk hi121_0; have HC121_0 := Aside0.mk hl121_0; clear hi121_0 hl121_0; replace p121 := eq_true p121; replace q121 := eq_true q121) | (go_at_call 20; (with_reducible refine (spec_thAt.calls k a1 a2 t122 _ A9.out).mono ?_); rintro e w' ⟨rfl, ⟨nd, rfl⟩⟩; (try first | exact ⟨rfl, _, World.drewN_drewN _ _ _⟩ | exact ⟨rfl, _, Eq.trans (World.drewN_drewN _ _ _) (congrArg (World.drewN _) (Nat.add_assoc _ _ _))⟩); have p123 : 0 ≤ (t122 : Int) := of_decide_eq_true (by first | (with_reducible assumption) | assumption); have q123 : t122 < ((rd_L1 t115 0).length : Int) := of_decide_eq_true (by first | (with_reducible assumption) | assumption); obtain ⟨ad123, e123, hx123_0⟩ := Kd.at_int (by repeat (first | (with_reducible exact HR121_0.out) | (with_reducible refine Kd.C_alloc ?_ _) | (with_reducible refine Kd.C_drewN ?_ _) | (with_reducible refine Kd.C_drew ?_) | exact HR121_0.out)) t122 p123 q123; cases e123; replace p123 := eq_true p123; replace q123 := eq_true q123)); try go_wp2_with (first | (go_at_call 18; (with_reducible refine (spec_thBoth.calls k a0 a1 a2 true _ A5.out).mono ?_); rintro e w' ⟨rfl, ⟨nd, rfl⟩⟩; (try first | exact ⟨rfl, _, World.drewN_drewN _ _ _⟩ | exact ⟨rfl, _, Eq.trans (World.drewN_drewN _ _ _) (congrArg (World.drewN _) (Nat.add_assoc _ _ _))⟩)) | (go_at_call 19; (with_reducible refine (spec_thTable.calls k a0 a3 t115 t116 _ A7.out).mono ?_); rintro e w12 ⟨v117, v119, rfl, ho0, ho1, hb⟩; have n0_ := Aside0.mk (Kd.S_lower ho0 (below_size (by repeat (first | (with_reducible first | exact HB.out | apply below_alloc | apply pw_below_drewN | apply below_drew1) | exact HB.out)))); have n1_ := Aside0.mk (Kd.S_lower ho1 (below_size (by repeat (first | (with_reducible first | exact HB.out | apply below_alloc | apply pw_below_drewN | apply below_drew1) | exact HB.out)))); have n2_ := Aside0.mk (below_step (by repeat (first | (with_reducible first | exact HB.out | apply below_alloc | apply pw_below_drewN | apply below_drew1) | exact HB.out)) hb); clear HB; have HO118 := n0_; have HO120 := n1_; have HB := n2_; clear n0_ n1_ n2_; (try clear hb); (try clear hb2); (try clear hk); (try clear hi); (try clear ho0); (try clear ho1); obtain ⟨Ao13, co13, eo13⟩ := Kd.S_slice HO118.out; subst eo13; have p121 : 0 ≤ (0 : Int) := (by omega); have q121 : 0 < (t115.length : Int) := of_decide_eq_true (by first | (with_reducible assumption) | assumption); obtain ⟨ad121, A121_0, c121_0, e121, hx121_0, hl121_0, hi121_0⟩ := at_L1 (Kd.S_reads' HO118.out).2.2 0 p121 q121; cases e121; obtain ⟨ce121, hce121, hMe121, hcc121⟩ := Kd.S_get HO118.out [] 0 p121 (by first | exact q121 | exact of_decide_eq_true (by first | (with_reducible assumption) | assumption) | (have e_ := (Kd.S_reads' HO118.out).1; omega)); obtain ⟨ve121_0, rfl, ge121_0⟩ := hMe121; have hv121_0 := hcc121 0 _ rfl; rw [Nat.add_zero, show ((Kd.slice 3 (Kd.int .i64))).sz = 1 from rfl, Nat.mul_one] at hv121_0; replace hv121_0 := Option.some.inj (hv121_0.symm.trans hx121_0); rw [hv121_0] at ge121_0; have HL121_0 := Aside0.mk (show Kd.R (Kd.int .i64) 3 _ _ _ _ (rd_L1 t115 0) from ge121_0); clear hv121_0 ge121_0; clear hcc121 hce121; have qi121 : (0 < t115.length) = True := eq_true (by omega); (try rw [show ((0 : Int)).toNat = 0 from rfl] at hx121_0); (try rw [Addr.add_zero'] at hx121_0); have HR121_0 := Aside0.mk hi121_0; have HC121_0 := Aside0.mk hl121_0; clear hi121_0 hl121_0; replace p121 := eq_true p121; replace q121 := eq_true q121) | (go_at_call 20; (with_reducible refine (spec_thAt.calls k a1 a2 t122 _ A9.out).mono ?_); rintro e w' ⟨rfl, ⟨nd, rfl⟩⟩; (try first | exact ⟨rfl, _, World.drewN_drewN _ _ _⟩ | exact ⟨rfl, _, Eq.trans (World.drewN_drewN _ _ _) (congrArg (World.drewN _) (Nat.add_assoc _ _ _))⟩); have p123 : 0 ≤ (t122 : Int) := of_decide_eq_true (by first | (with_reducible assumption) | assumption); have q123 : t122 < ((rd_L1 t115 0).length : Int) := of_decide_eq_true (by first | (with_reducible assumption) | assumption); obtain ⟨ad123, e123, hx123_0⟩ := Kd.at_int (by repeat (first | (with_reducible exact HR121_0.out) | (with_reducible refine Kd.C_alloc ?_ _) | (with_reducible refine Kd.C_drewN ?_ _) | (with_reducible refine Kd.C_drew ?_) | exact HR121_0.out)) t122 p123 q123; cases e123; replace p123 := eq_true p123; replace q123 := eq_true q123)))
          go_ret2
          exact ⟨by first | rfl | (simp [errW_none, errW_some] <;> rfl) | (simp [*, errW_none, errW_some] <;> rfl), by repeat (first | (with_reducible first | exact HB.out | apply below_alloc | apply pw_below_drewN | apply below_drew1) | exact HB.out)⟩
        · rw [if_neg c11] at H
          exact absurd H (by simp)
      · rw [if_neg c10] at H
        exact absurd H (by simp)
    · rw [if_neg c8] at H
      exact absurd H (by simp)
  · replace c6 := Bool.eq_false_iff.mpr c6
    subst c6
    have H1 : (some (0, false)) = some (r1, r2) := by rw [if_neg (show ¬ (false = true) by decide)] at H; exact H
    clear H
    have H := H1
    clear H1
    simp only [Option.some.injEq, Prod.mk.injEq] at H
    obtain ⟨rfl, rfl⟩ := H
    go_enter Tryd.func7, Tryd.ntmps7
    go_wp2_with (first | (go_at_call 18; (with_reducible refine (spec_thBoth.calls k a0 a1 a2 false _ A5.out).mono ?_); rintro e w' ⟨rfl, ⟨nd, rfl⟩⟩; (try first | exact ⟨rfl, _, World.drewN_drewN _ _ _⟩ | exact ⟨rfl, _, Eq.trans (World.drewN_drewN _ _ _) (congrArg (World.drewN _) (Nat.add_assoc _ _ _))⟩)))
    repeat (go_quiet (first | (go_at_call 18; (with_reducible refine (spec_thBoth.calls k a0 a1 a2 false _ A5.out).mono ?_); rintro e w' ⟨rfl, ⟨nd, rfl⟩⟩; (try first | exact ⟨rfl, _, World.drewN_drewN _ _ _⟩ | exact ⟨rfl, _, Eq.trans (World.drewN_drewN _ _ _) (congrArg (World.drewN _) (Nat.add_assoc _ _ _))⟩))); try go_wp2_with (first | (go_at_call 18; (with_reducible refine (spec_thBoth.calls k a0 a1 a2 false _ A5.out).mono ?_); rintro e w' ⟨rfl, ⟨nd, rfl⟩⟩; (try first | exact ⟨rfl, _, World.drewN_drewN _ _ _⟩ | exact ⟨rfl, _, Eq.trans (World.drewN_drewN _ _ _) (congrArg (World.drewN _) (Nat.add_assoc _ _ _))⟩))))
    go_ret2
    exact ⟨by first | rfl | (simp [errW_none, errW_some] <;> rfl) | (simp [*, errW_none, errW_some] <;> rfl), by repeat (first | (with_reducible first | exact HB.out | apply below_alloc | apply pw_below_drewN | apply below_drew1) | exact HB.out)⟩

end Go.Proofs.YthnjmokaiiajmaaDoor.P

namespace Go.Proofs.YthnjmokaiiajmaaDoor.P
open Go.RowKit Go.Proofs.YthnjmokaiiajmaaDoorW.PrintWords Go.Proofs.YthnjmokaiiajmaaDoorW.PrintLast Go.Proofs.YthnjmokaiiajmaaDoorW.PrintMore
attribute [local go_sem] max2_int min2_int max_two min_two max_three min_three max_four min_four   -- for this text's walks alone
set_option linter.unusedVariables false
set_option linter.unusedSimpArgs false

/-! ### impl_TwoThumbs: function 8 -/
def impl_TwoThumbs.f (k : Nat) (a0 a1 a2 : ByteArray) (a3 : Bool) : Option (Int × Bool) := (impl_thumbsOk.f k a0 a1 a2).bind fun bt => (if bt.2.2 = true then ((impl_newLooker.f k a0 a3).bind fun t => ((impl_looker_from.f k t 0 bt.1 bt.2.1).bind fun o => (some (o.1, true)))) else (some (0, false)))
theorem impl_TwoThumbs.mono : ∀ a0 a1 a2 a3 k, LeO (impl_TwoThumbs.f k a0 a1 a2 a3) (impl_TwoThumbs.f (k + 1) a0 a1 a2 a3) := by
  intro a0 a1 a2 a3 k
  unfold impl_TwoThumbs.f
  refine LeO.bind (impl_thumbsOk.mono _ _ _ _) (fun _ => ?_)
  refine LeO.ite ?_ (LeO.refl _)
  exact LeO.bind (impl_newLooker.mono _ _ _) (fun _ => LeO.bind (impl_looker_from.mono _ _ _ _ _) (fun _ => LeO.refl _))
set_option maxHeartbeats 8000000 in
set_option maxRecDepth 100000 in
theorem impl_TwoThumbs.calls (k : Nat) (a0 a1 a2 : ByteArray) (a3 : Bool) (r1 : Int) (r2 : Bool) (w : World) (h : impl_TwoThumbs.f k a0 a1 a2 a3 = some (r1, r2)) :
    Calls Tryd.prog 8 #[.string a0, .string a1, .string a2, .bool a3] w fun e w' => e = .returned (.tuple #[.int .i64 r1, .bool r2]) ∧ Below w.heap.size w w' := by
  unfold impl_TwoThumbs.f at h
  obtain ⟨⟨tl, tr, ok⟩, h1, h⟩ := Option.bind_eq_some_iff.1 h
  have H1 := Aside0.mk h1
  have hu39 := Tryd.underlying39
  have hu43 := Tryd.underlying43
  clear h1
  cases ok with
  | false =>
    rw [if_neg (by simp)] at h
    obtain ⟨rfl, rfl⟩ := Prod.mk.inj (Option.some.inj h)
    go_enter Tryd.func8, Tryd.ntmps8
    go_wp2_with (first | (go_at_call 21; refine (impl_thumbsOk.calls k a0 a1 a2 tl tr false _ H1.out).mono ?_; rintro e w1 ⟨rfl, hb⟩))
    go_ret2
    exact ⟨rfl, below_alloc hb _⟩
  | true =>
    rw [if_pos rfl] at h
    obtain ⟨t, h2, h⟩ := Option.bind_eq_some_iff.1 h
    obtain ⟨⟨s, p⟩, h3, h⟩ := Option.bind_eq_some_iff.1 h
    have H2 := Aside0.mk h2
    have H3 : Aside0 (impl_looker_from.f k t 0 tl tr = some (s, p)) := ⟨h3⟩
    have H4 := Aside0.mk h
    clear h2 h3 h
    go_enter Tryd.func8, Tryd.ntmps8
    go_upto_region 4 with (first | (go_at_call 21; refine (impl_thumbsOk.calls k a0 a1 a2 tl tr true _ H1.out).mono ?_; rintro e w1 ⟨rfl, hb⟩))
    have HB1 : Aside0 (Below w.heap.size w (w1.alloc (.cells #[.int .i64 tl, .int .i64 tr] 39))) := ⟨below_alloc hb _⟩
    have h10 := blk_new w1 (.cells #[.int .i64 tl, .int .i64 tr] 39)
    have hlt := blk_lt h10
    clear hb H1
    generalize w1.alloc (.cells #[.int .i64 tl, .int .i64 tr] 39) = W1 at *
    generalize w1.heap.size = b10 at *
    have c0 : W1.cell? ⟨b10, 0, none⟩ = some (.int .i64 tl) := (blk_cell h10 0).trans rfl
    have c1 : W1.cell? ⟨b10, 1, none⟩ = some (.int .i64 tr) := (blk_cell h10 1).trans rfl
    have H10 := Aside0.mk h10
    clear h10
    have hfl : ∀ W : World, (Instr.field 43 (.agg #[.int .i64 s, .int .i64 p]) 0).run Tryd.prog W = .ok (.int .i64 s) W := fun W => by kernel_rfl
    go_region_held3 (fun w' => w'.cell? ⟨b10, 0, none⟩ = some (.int .i64 tl) ∧ w'.cell? ⟨b10, 1, none⟩ = some (.int .i64 tr)) (first | go_keep | exact ⟨(blk_cell hk3 0).trans rfl, (blk_cell hk3 1).trans rfl⟩ | exact ⟨(blk_cell hk2 0).trans rfl, (blk_cell hk2 1).trans rfl⟩) (first | (go_at_call 22; refine (impl_newLooker.calls k a0 a3 t _ H2.out).mono ?_; rintro e w2 ⟨D, rfl, hDL, hDc, hlim, hms, hLk, hb2⟩; have hk2 := blk_below H10.out (((Below.refl _ _).drew).trans hb2)) | (go_at_call 23; refine (impl_looker_from.calls k t 0 tl tr s p _ H3.out D hDL hDc hLk hlim).mono ?_; rintro e w3 ⟨rfl, hLk3, hMK⟩; have hk3 := hMK.blk hLk hk2))
    all_goals
      have hbw : Below w.heap.size w w3 := hMK.below (below_step HB1.out (((Below.refl _ _).drew).trans hb2)) (by have := HB1.out.size; have := hb2.size; exact Nat.le_trans ‹_› ‹_›) (fun m hm => Nat.le_trans HB1.out.size (hms.ms m hm))
      have HBW := Aside0.mk hbw
      clear hbw hMK hLk hLk3 hms hlim hDL hDc hb2 hk2 hk3

      have H5 := H4.out
      simp only [Option.some.injEq, Prod.mk.injEq] at H5
      obtain ⟨rfl, rfl⟩ := H5
      go_wp2
      go_ret2
      exact ⟨rfl, HBW.out⟩

end Go.Proofs.YthnjmokaiiajmaaDoor.P

namespace Go.Proofs.YthnjmokaiiajmaaDoor.P
open Go.RowKit Go.Proofs.YthnjmokaiiajmaaDoorW.PrintWords Go.Proofs.YthnjmokaiiajmaaDoorW.PrintLast Go.Proofs.YthnjmokaiiajmaaDoorW.PrintMore
attribute [local go_sem] max2_int min2_int max_two min_two max_three min_three max_four min_four   -- for this text's walks alone
set_option linter.unusedVariables false
set_option linter.unusedSimpArgs false

/-! ### spec_CountThumbs: function 9 -/
def spec_CountThumbs.f (k : Nat) (a0 : ByteArray) (a1 : ByteArray) (a2 : ByteArray) (a3 : Bool) : Option (Int × Bool) := (spec_thBoth.f k a0 a1 a2).bind fun t151 => (if t151 = true then ((spec_thTable.f k a0 a3).bind fun bt152 => (if 0 < (bt152.2.length : Int) then ((spec_thAt.f k a1 a2).bind fun t159 => (if 0 ≤ t159 then (if t159 < ((rd_L1 bt152.2 0).length : Int) then (if (rd (rd_L1 bt152.2 0) t159) ≤ 1000000000000000 then (some (rd (rd_L1 bt152.2 0) t159, true)) else (some (0, false))) else (none)) else (none))) else (none))) else (some (0, false)))
theorem spec_CountThumbs.mono : ∀ a0 a1 a2 a3 k, LeO (spec_CountThumbs.f k a0 a1 a2 a3) (spec_CountThumbs.f (k + 1) a0 a1 a2 a3) := by
  intro a0 a1 a2 a3 k
  unfold spec_CountThumbs.f
  repeat' first
      | (with_reducible exact spec_thAt.mono _ _ _)
      | (with_reducible exact spec_thBoth.mono _ _ _ _)
      | (with_reducible exact spec_thTable.mono _ _ _)
      | (with_reducible exact LeO.refl _)
      | (with_reducible exact LeO.none _)
      | (with_reducible refine LeO.ite ?_ ?_)
      | (with_reducible refine LeO.bind ?_ (fun _ => ?_))
      | exact spec_thAt.mono _ _ _
      | exact spec_thBoth.mono _ _ _ _
      | exact spec_thTable.mono _ _ _
      | exact LeO.none _
      | refine LeO.ite ?_ ?_
      | refine LeO.bind ?_ (fun _ => ?_)
set_option maxHeartbeats 8000000 in
set_option maxRecDepth 100000 in
theorem spec_CountThumbs.calls (k : Nat) (a0 : ByteArray) (a1 : ByteArray) (a2 : ByteArray) (a3 : Bool) (r1 : Int) (r2 : Bool) (w : World) (h : spec_CountThumbs.f k a0 a1 a2 a3 = some (r1, r2)) :
    Calls Tryd.prog 9 #[.string a0, .string a1, .string a2, .bool a3] w fun e w' => e = .returned (.tuple #[.int .i64 r1, .bool r2]) ∧ Below w.heap.size w w' := by
  have HB := Aside0.mk (Below.refl w.heap.size w)
  have H : ((spec_thBoth.f k a0 a1 a2).bind fun t151 => (if t151 = true then ((spec_thTable.f k a0 a3).bind fun bt152 => (if 0 < (bt152.2.length : Int) then ((spec_thAt.f k a1 a2).bind fun t159 => (if 0 ≤ t159 then (if t159 < ((rd_L1 bt152.2 0).length : Int) then (if (rd (rd_L1 bt152.2 0) t159) ≤ 1000000000000000 then (some (rd (rd_L1 bt152.2 0) t159, true)) else (some (0, false))) else (none)) else (none))) else (none))) else (some (0, false)))) = some (r1, r2) := h
  clear h
  replace H := Option.bind_eq_some_iff.mp H
  obtain ⟨t151, A50, H⟩ := H
  replace H : (if t151 = true then ((spec_thTable.f k a0 a3).bind fun bt152 => (if 0 < (bt152.2.length : Int) then ((spec_thAt.f k a1 a2).bind fun t159 => (if 0 ≤ t159 then (if t159 < ((rd_L1 bt152.2 0).length : Int) then (if (rd (rd_L1 bt152.2 0) t159) ≤ 1000000000000000 then (some (rd (rd_L1 bt152.2 0) t159, true)) else (some (0, false))) else (none)) else (none))) else (none))) else (some (0, false))) = some (r1, r2) := H
  have A5 := Aside0.mk A50
  clear A50
  by_cases c6 : t151 = true
  · subst c6
    have H1 : ((spec_thTable.f k a0 a3).bind fun bt152 => (if 0 < (bt152.2.length : Int) then ((spec_thAt.f k a1 a2).bind fun t159 => (if 0 ≤ t159 then (if t159 < ((rd_L1 bt152.2 0).length : Int) then (if (rd (rd_L1 bt152.2 0) t159) ≤ 1000000000000000 then (some (rd (rd_L1 bt152.2 0) t159, true)) else (some (0, false))) else (none)) else (none))) else (none))) = some (r1, r2) := by rw [if_pos rfl] at H; exact H
    clear H
    have H := H1
    clear H1
    replace H := Option.bind_eq_some_iff.mp H
    obtain ⟨⟨t152, t153⟩, A70, H⟩ := H
    replace H : (if 0 < (t153.length : Int) then ((spec_thAt.f k a1 a2).bind fun t159 => (if 0 ≤ t159 then (if t159 < ((rd_L1 t153 0).length : Int) then (if (rd (rd_L1 t153 0) t159) ≤ 1000000000000000 then (some (rd (rd_L1 t153 0) t159, true)) else (some (0, false))) else (none)) else (none))) else (none)) = some (r1, r2) := H
    have A7 := Aside0.mk A70
    clear A70
    by_cases c8 : 0 < (t153.length : Int)
    · rw [if_pos c8] at H
      have c8b0 : decide (0 < (t153.length : Int)) = true := decide_eq_true c8
      have c8b1 : decide (0 < t153.length) = true := decide_eq_true (by omega)
      clear c8
      replace H := Option.bind_eq_some_iff.mp H
      obtain ⟨t159, A90, H⟩ := H
      replace H : (if 0 ≤ t159 then (if t159 < ((rd_L1 t153 0).length : Int) then (if (rd (rd_L1 t153 0) t159) ≤ 1000000000000000 then (some (rd (rd_L1 t153 0) t159, true)) else (some (0, false))) else (none)) else (none)) = some (r1, r2) := H
      have A9 := Aside0.mk A90
      clear A90
      by_cases c10 : 0 ≤ t159
      · rw [if_pos c10] at H
        have c10b0 : decide (0 ≤ t159) = true := decide_eq_true c10
        clear c10
        by_cases c11 : t159 < ((rd_L1 t153 0).length : Int)
        · rw [if_pos c11] at H
          have c11b0 : decide (t159 < ((rd_L1 t153 0).length : Int)) = true := decide_eq_true c11
          clear c11
          by_cases c12 : (rd (rd_L1 t153 0) t159) ≤ 1000000000000000
          · rw [if_pos c12] at H
            have c12b0 : decide ((rd (rd_L1 t153 0) t159) ≤ 1000000000000000) = true := decide_eq_true c12
            clear c12
            simp only [Option.some.injEq, Prod.mk.injEq] at H
            obtain ⟨rfl, rfl⟩ := H
            go_enter Tryd.func9, Tryd.ntmps9
            go_wp2_with (first | (go_at_call 18; (with_reducible refine (spec_thBoth.calls k a0 a1 a2 true _ A5.out).mono ?_); rintro e w' ⟨rfl, ⟨nd, rfl⟩⟩; (try first | exact ⟨rfl, _, World.drewN_drewN _ _ _⟩ | exact ⟨rfl, _, Eq.trans (World.drewN_drewN _ _ _) (congrArg (World.drewN _) (Nat.add_assoc _ _ _))⟩)) | (go_at_call 19; (with_reducible refine (spec_thTable.calls k a0 a3 t152 t153 _ A7.out).mono ?_); rintro e w13 ⟨v154, v156, rfl, ho0, ho1, hb⟩; have n0_ := Aside0.mk (Kd.S_lower ho0 (below_size (by repeat (first | (with_reducible first | exact HB.out | apply below_alloc | apply pw_below_drewN | apply below_drew1) | exact HB.out)))); have n1_ := Aside0.mk (Kd.S_lower ho1 (below_size (by repeat (first | (with_reducible first | exact HB.out | apply below_alloc | apply pw_below_drewN | apply below_drew1) | exact HB.out)))); have n2_ := Aside0.mk (below_step (by repeat (first | (with_reducible first | exact HB.out | apply below_alloc | apply pw_below_drewN | apply below_drew1) | exact HB.out)) hb); clear HB; have HO155 := n0_; have HO157 := n1_; have HB := n2_; clear n0_ n1_ n2_; (try clear hb); (try clear hb2); (try clear hk); (try clear hi); (try clear ho0); (try clear ho1); obtain ⟨Ao14, co14, eo14⟩ := Kd.S_slice HO157.out; subst eo14; have p158 : 0 ≤ (0 : Int) := (by omega); have q158 : 0 < (t153.length : Int) := of_decide_eq_true (by first | (with_reducible assumption) | assumption); obtain ⟨ad158, A158_0, c158_0, e158, hx158_0, hl158_0, hi158_0⟩ := at_L1 (Kd.S_reads' HO157.out).2.2 0 p158 q158; cases e158; obtain ⟨ce158, hce158, hMe158, hcc158⟩ := Kd.S_get HO157.out [] 0 p158 (by first | exact q158 | exact of_decide_eq_true (by first | (with_reducible assumption) | assumption) | (have e_ := (Kd.S_reads' HO157.out).1; omega)); obtain ⟨ve158_0, rfl, ge158_0⟩ := hMe158; have hv158_0 := hcc158 0 _ rfl; rw [Nat.add_zero, show ((Kd.slice 3 (Kd.int .i64))).sz = 1 from rfl, Nat.mul_one] at hv158_0; replace hv158_0 := Option.some.inj (hv158_0.symm.trans hx158_0); rw [hv158_0] at ge158_0; have HL158_0 := Aside0.mk (show Kd.R (Kd.int .i64) 3 _ _ _ _ (rd_L1 t153 0) from ge158_0); clear hv158_0 ge158_0; clear hcc158 hce158; have qi158 : (0 < t153.length) = True := eq_true (by omega); (try rw [show ((0 : Int)).toNat = 0 from rfl] at hx158_0); (try rw [Addr.add_zero'] at hx158_0); have HR158_0 := Aside0.mk hi158_0; have HC158_0 := Aside0.mk hl158_0; clear hi158_0 hl158_0; replace p158 := eq_true p158; replace q158 := eq_true q158) | (go_at_call 20; (with_reducible refine (spec_thAt.calls k a1 a2 t159 _ A9.out).mono ?_); rintro e w' ⟨rfl, ⟨nd, rfl⟩⟩; (try first | exact ⟨rfl, _, World.drewN_drewN _ _ _⟩ | exact ⟨rfl, _, Eq.trans (World.drewN_drewN _ _ _) (congrArg (World.drewN _) (Nat.add_assoc _ _ _))⟩); have p160 : 0 ≤ (t159 : Int) := of_decide_eq_true (by first | (with_reducible assumption) | assumption); have q160 : t159 < ((rd_L1 t153 0).length : Int) := of_decide_eq_true (by first | (with_reducible assumption) | assumption); obtain ⟨ad160, e160, hx160_0⟩ := Kd.at_int (by repeat (first | (with_reducible exact HR158_0.out) | (with_reducible refine Kd.C_alloc ?_ _) | (with_reducible refine Kd.C_drewN ?_ _) | (with_reducible refine Kd.C_drew ?_) | exact HR158_0.out)) t159 p160 q160; cases e160; replace p160 := eq_true p160; replace q160 := eq_true q160))
            repeat (go_quiet (first | (go_at_call 18; (with_reducible refine (spec_thBoth.calls k a0 a1 a2 true _ A5.out).mono ?_); rintro e w' ⟨rfl, ⟨nd, rfl⟩⟩; (try first | exact ⟨rfl, _, World.drewN_drewN _ _ _⟩ | exact ⟨rfl, _, Eq.trans (World.drewN_drewN _ _ _) (congrArg (World.drewN _) (Nat.add_assoc _ _ _))⟩)) | (go_at_call 19; (with_reducible refine (spec_thTable.calls k a0 a3 t152 t153 _ A7.out).mono ?_); rintro e w13 ⟨v154, v156, rfl, ho0, ho1, hb⟩; have n0_ := Aside0.mk (Kd.S_lower ho0 (below_size (by repeat (first | (with_reducible first | exact HB.out | apply below_alloc | apply pw_below_drewN | apply below_drew1) | exact HB.out)))); have n1_ := Aside0.mk (Kd.S_lower ho1 (below_size (by repeat (first | (with_reducible first | exact HB.out | apply below_alloc | apply pw_below_drewN | apply below_drew1) | exact HB.out)))); have n2_ := Aside0.mk (below_step (by repeat (first | (with_reducible first | exact HB.out | apply below_alloc | apply pw_below_drewN | apply below_drew1) | exact HB.out)) hb); clear HB; have HO155 := n0_; have HO157 := n1_; have HB := n2_; clear n0_ n1_ n2_; (try clear hb); (try clear hb2); (try clear hk); (try clear hi); (try clear ho0); (try clear ho1); obtain ⟨Ao14, co14, eo14⟩ := Kd.S_slice HO157.out; subst eo14; have p158 : 0 ≤ (0 : Int) := (by omega); have q158 : 0 < (t153.length : Int) := of_decide_eq_true (by first | (with_reducible assumption) | assumption); obtain ⟨ad158, A158_0, c158_0, e158, hx158_0, hl158_0, hi158_0⟩ := at_L1 (Kd.S_reads' HO157.out).2.2 0 p158 q158; cases e158; obtain ⟨ce158, hce158, hMe158, hcc158⟩ := Kd.S_get HO157.out [] 0 p158 (by first | exact q158 | exact of_decide_eq_true (by first | (with_reducible assumption) | assumption) | (have e_ := (Kd.S_reads' HO157.out).1; omega)); obtain ⟨ve158_0, rfl, ge158_0⟩ := hMe158; have hv158_0 := hcc158 0 _ rfl; rw [Nat.add_zero, show ((Kd.slice 3 (Kd.int .i64))).sz = 1 from rfl, Nat.mul_one] at hv158_0; replace hv158_0 := Option.some.inj (hv158_0.symm.trans hx158_0); rw [hv158_0] at ge158_0; have HL158_0 := Aside0.mk (show Kd.R (Kd.int .i64) 3 _ _ _ _ (rd_L1 t153 0) from ge158_0); clear hv158_0 ge158_0; clear hcc158 hce158; have qi158 : (0 < t153.length) = True := eq_true (by omega); (try rw [show ((0 : Int)).toNat = 0 from rfl] at hx158_0); (try rw [Addr.add_zero'] at hx158_0); have HR158_0 := Aside0.mk hi158_0; have HC158_0 := Aside0.mk hl158_0; clear hi158_0 hl158_0; replace p158 := eq_true p158; replace q158 := eq_true q158) | (go_at_call 20; (with_reducible refine (spec_thAt.calls k a1 a2 t159 _ A9.out).mono ?_); rintro e w' ⟨rfl, ⟨nd, rfl⟩⟩; (try first | exact ⟨rfl, _, World.drewN_drewN _ _ _⟩ | exact ⟨rfl, _, Eq.trans (World.drewN_drewN _ _ _) (congrArg (World.drewN _) (Nat.add_assoc _ _ _))⟩); have p160 : 0 ≤ (t159 : Int) := of_decide_eq_true (by first | (with_reducible assumption) | assumption); have q160 : t159 < ((rd_L1 t153 0).length : Int) := of_decide_eq_true (by first | (with_reducible assumption) | assumption); obtain ⟨ad160, e160, hx160_0⟩ := Kd.at_int (by repeat (first | (with_reducible exact HR158_0.out) | (with_reducible refine Kd.C_alloc ?_ _) | (with_reducible refine Kd.C_drewN ?_ _) | (with_reducible refine Kd.C_drew ?_) | exact HR158_0.out)) t159 p160 q160; cases e160; replace p160 := eq_true p160; replace q160 := eq_true q160)); try go_wp2_with (first | (go_at_call 18; (with_reducible refine (spec_thBoth.calls k a0 a1 a2 true _ A5.out).mono ?_); rintro e w' ⟨rfl, ⟨nd, rfl⟩⟩; (try first | exact ⟨rfl, _, World.drewN_drewN _ _ _⟩ | exact ⟨rfl, _, Eq.trans (World.drewN_drewN _ _ _) (congrArg (World.drewN _) (Nat.add_assoc _ _ _))⟩)) | (go_at_call 19; (with_reducible refine (spec_thTable.calls k a0 a3 t152 t153 _ A7.out).mono ?_); rintro e w13 ⟨v154, v156, rfl, ho0, ho1, hb⟩; have n0_ := Aside0.mk (Kd.S_lower ho0 (below_size (by repeat (first | (with_reducible first | exact HB.out | apply below_alloc | apply pw_below_drewN | apply below_drew1) | exact HB.out)))); have n1_ := Aside0.mk (Kd.S_lower ho1 (below_size (by repeat (first | (with_reducible first | exact HB.out | apply below_alloc | apply pw_below_drewN | apply below_drew1) | exact HB.out)))); have n2_ := Aside0.mk (below_step (by repeat (first | (with_reducible first | exact HB.out | apply below_alloc | apply pw_below_drewN | apply below_drew1) | exact HB.out)) hb); clear HB; have HO155 := n0_; have HO157 := n1_; have HB := n2_; clear n0_ n1_ n2_; (try clear hb); (try clear hb2); (try clear hk); (try clear hi); (try clear ho0); (try clear ho1); obtain ⟨Ao14, co14, eo14⟩ := Kd.S_slice HO157.out; subst eo14; have p158 : 0 ≤ (0 : Int) := (by omega); have q158 : 0 < (t153.length : Int) := of_decide_eq_true (by first | (with_reducible assumption) | assumption); obtain ⟨ad158, A158_0, c158_0, e158, hx158_0, hl158_0, hi158_0⟩ := at_L1 (Kd.S_reads' HO157.out).2.2 0 p158 q158; cases e158; obtain ⟨ce158, hce158, hMe158, hcc158⟩ := Kd.S_get HO157.out [] 0 p158 (by first | exact q158 | exact of_decide_eq_true (by first | (with_reducible assumption) | assumption) | (have e_ := (Kd.S_reads' HO157.out).1; omega)); obtain ⟨ve158_0, rfl, ge158_0⟩ := hMe158; have hv158_0 := hcc158 0 _ rfl; rw [Nat.add_zero, show ((Kd.slice 3 (Kd.int .i64))).sz = 1 from rfl, Nat.mul_one] at hv158_0; replace hv158_0 := Option.some.inj (hv158_0.symm.trans hx158_0); rw [hv158_0] at ge158_0; have HL158_0 := Aside0.mk (show Kd.R (Kd.int .i64) 3 _ _ _ _ (rd_L1 t153 0) from ge158_0); clear hv158_0 ge158_0; clear hcc158 hce158; have qi158 : (0 < t153.length) = True := eq_true (by omega); (try rw [show ((0 : Int)).toNat = 0 from rfl] at hx158_0); (try rw [Addr.add_zero'] at hx158_0); have HR158_0 := Aside0.mk hi158_0; have HC158_0 := Aside0.mk hl158_0; clear hi158_0 hl158_0; replace p158 := eq_true p158; replace q158 := eq_true q158) | (go_at_call 20; (with_reducible refine (spec_thAt.calls k a1 a2 t159 _ A9.out).mono ?_); rintro e w' ⟨rfl, ⟨nd, rfl⟩⟩; (try first | exact ⟨rfl, _, World.drewN_drewN _ _ _⟩ | exact ⟨rfl, _, Eq.trans (World.drewN_drewN _ _ _) (congrArg (World.drewN _) (Nat.add_assoc _ _ _))⟩); have p160 : 0 ≤ (t159 : Int) := of_decide_eq_true (by first | (with_reducible assumption) | assumption); have q160 : t159 < ((rd_L1 t153 0).length : Int) := of_decide_eq_true (by first | (with_reducible assumption) | assumption); obtain ⟨ad160, e160, hx160_0⟩ := Kd.at_int (by repeat (first | (with_reducible exact HR158_0.out) | (with_reducible refine Kd.C_alloc ?_ _) | (with_reducible refine Kd.C_drewN ?_ _) | (with_reducible refine Kd.C_drew ?_) | exact HR158_0.out)) t159 p160 q160; cases e160; replace p160 := eq_true p160; replace q160 := eq_true q160)))
            go_ret2
            exact ⟨by first | rfl | (simp [errW_none, errW_some] <;> rfl) | (simp [*, errW_none, errW_some] <;> rfl), by repeat (first | (with_reducible first | exact HB.out | apply below_alloc | apply pw_below_drewN | apply below_drew1) | exact HB.out)⟩
          · rw [if_neg c12] at H
            have c12b0 : decide ((rd (rd_L1 t153 0) t159) ≤ 1000000000000000) = false := decide_eq_false c12
            clear c12
            simp only [Option.some.injEq, Prod.mk.injEq] at H
            obtain ⟨rfl, rfl⟩ := H
            go_enter Tryd.func9, Tryd.ntmps9
            go_wp2_with (first | (go_at_call 18; (with_reducible refine (spec_thBoth.calls k a0 a1 a2 true _ A5.out).mono ?_); rintro e w' ⟨rfl, ⟨nd, rfl⟩⟩; (try first | exact ⟨rfl, _, World.drewN_drewN _ _ _⟩ | exact ⟨rfl, _, Eq.trans (World.drewN_drewN _ _ _) (congrArg (World.drewN _) (Nat.add_assoc _ _ _))⟩)) | (go_at_call 19; (with_reducible refine (spec_thTable.calls k a0 a3 t152 t153 _ A7.out).mono ?_); rintro e w15 ⟨v154, v156, rfl, ho0, ho1, hb⟩; have n0_ := Aside0.mk (Kd.S_lower ho0 (below_size (by repeat (first | (with_reducible first | exact HB.out | apply below_alloc | apply pw_below_drewN | apply below_drew1) | exact HB.out)))); have n1_ := Aside0.mk (Kd.S_lower ho1 (below_size (by repeat (first | (with_reducible first | exact HB.out | apply below_alloc | apply pw_below_drewN | apply below_drew1) | exact HB.out)))); have n2_ := Aside0.mk (below_step (by repeat (first | (with_reducible first | exact HB.out | apply below_alloc | apply pw_below_drewN | apply below_drew1) | exact HB.out)) hb); clear HB; have HO155 := n0_; have HO157 := n1_; have HB := n2_; clear n0_ n1_ n2_; (try clear hb); (try clear hb2); (try clear hk); (try clear hi); (try clear ho0); (try clear ho1); obtain ⟨Ao16, co16, eo16⟩ := Kd.S_slice HO157.out; subst eo16; have p158 : 0 ≤ (0 : Int) := (by omega); have q158 : 0 < (t153.length : Int) := of_decide_eq_true (by first | (with_reducible assumption) | assumption); obtain ⟨ad158, A158_0, c158_0, e158, hx158_0, hl158_0, hi158_0⟩ := at_L1 (Kd.S_reads' HO157.out).2.2 0 p158 q158; cases e158; obtain ⟨ce158, hce158, hMe158, hcc158⟩ := Kd.S_get HO157.out [] 0 p158 (by first | exact q158 | exact of_decide_eq_true (by first | (with_reducible assumption) | assumption) | (have e_ := (Kd.S_reads' HO157.out).1; omega)); obtain ⟨ve158_0, rfl, ge158_0⟩ := hMe158; have hv158_0 := hcc158 0 _ rfl; rw [Nat.add_zero, show ((Kd.slice 3 (Kd.int .i64))).sz = 1 from rfl, Nat.mul_one] at hv158_0; replace hv158_0 := Option.some.inj (hv158_0.symm.trans hx158_0); rw [hv158_0] at ge158_0; have HL158_0 := Aside0.mk (show Kd.R (Kd.int .i64) 3 _ _ _ _ (rd_L1 t153 0) from ge158_0); clear hv158_0 ge158_0; clear hcc158 hce158; have qi158 : (0 < t153.length) = True := eq_true (by omega); (try rw [show ((0 : Int)).toNat = 0 from rfl] at hx158_0); (try rw [Addr.add_zero'] at hx158_0); have HR158_0 := Aside0.mk hi158_0; have HC158_0 := Aside0.mk hl158_0; clear hi158_0 hl158_0; replace p158 := eq_true p158; replace q158 := eq_true q158) | (go_at_call 20; (with_reducible refine (spec_thAt.calls k a1 a2 t159 _ A9.out).mono ?_); rintro e w' ⟨rfl, ⟨nd, rfl⟩⟩; (try first | exact ⟨rfl, _, World.drewN_drewN _ _ _⟩ | exact ⟨rfl, _, Eq.trans (World.drewN_drewN _ _ _) (congrArg (World.drewN _) (Nat.add_assoc _ _ _))⟩); have p160 : 0 ≤ (t159 : Int) := of_decide_eq_true (by first | (with_reducible assumption) | assumption); have q160 : t159 < ((rd_L1 t153 0).length : Int) := of_decide_eq_true (by first | (with_reducible assumption) | assumption); obtain ⟨ad160, e160, hx160_0⟩ := Kd.at_int (by repeat (first | (with_reducible exact HR158_0.out) | (with_reducible refine Kd.C_alloc ?_ _) | (with_reducible refine Kd.C_drewN ?_ _) | (with_reducible refine Kd.C_drew ?_) | exact HR158_0.out)) t159 p160 q160; cases e160; replace p160 := eq_true p160; replace q160 := eq_true q160))
            repeat (go_quiet (first | (go_at_call 18; (with_reducible refine (spec_thBoth.calls k a0 a1 a2 true _ A5.out).mono ?_); rintro e w' ⟨rfl, ⟨nd, rfl⟩⟩; (try first | exact ⟨rfl, _, World.drewN_drewN _ _ _⟩ | exact ⟨rfl, _, Eq.trans (World.drewN_drewN _ _ _) (congrArg (World.drewN _) (Nat.add_assoc _ _ _))⟩)) | (go_at_call 19; (with_reducible refine (spec_thTable.calls k a0 a3 t152 t153 _ A7.out).mono ?_); rintro e w15 ⟨v154, v156, rfl, ho0, ho1, hb⟩; have n0_ := Aside0.mk (Kd.S_lower ho0 (below_size (by repeat (first | (with_reducible first | exact HB.out | apply below_alloc | apply pw_below_drewN | apply below_drew1) | exact HB.out)))); have n1_ := Aside0.mk (Kd.S_lower ho1 (below_size (by repeat (first | (with_reducible first | exact HB.out | apply below_alloc | apply pw_below_drewN | apply below_drew1) | exact HB.out)))); have n2_ := Aside0.mk (below_step (by repeat (first | (with_reducible first | exact HB.out | apply below_alloc | apply pw_below_drewN | apply below_drew1) | exact HB.out)) hb); clear HB; have HO155 := n0_; have HO157 := n1_; have HB := n2_; clear n0_ n1_ n2_; (try clear hb); (try clear hb2); (try clear hk); (try clear hi); (try clear ho0); (try clear ho1); obtain ⟨Ao16, co16, eo16⟩ := Kd.S_slice HO157.out; subst eo16; have p158 : 0 ≤ (0 : Int) := (by omega); have q158 : 0 < (t153.length : Int) := of_decide_eq_true (by first | (with_reducible assumption) | assumption); obtain ⟨ad158, A158_0, c158_0, e158, hx158_0, hl158_0, hi158_0⟩ := at_L1 (Kd.S_reads' HO157.out).2.2 0 p158 q158; cases e158; obtain ⟨ce158, hce158, hMe158, hcc158⟩ := Kd.S_get HO157.out [] 0 p158 (by first | exact q158 | exact of_decide_eq_true (by first | (with_reducible assumption) | assumption) | (have e_ := (Kd.S_reads' HO157.out).1; omega)); obtain ⟨ve158_0, rfl, ge158_0⟩ := hMe158; have hv158_0 := hcc158 0 _ rfl; rw [Nat.add_zero, show ((Kd.slice 3 (Kd.int .i64))).sz = 1 from rfl, Nat.mul_one] at hv158_0; replace hv158_0 := Option.some.inj (hv158_0.symm.trans hx158_0); rw [hv158_0] at ge158_0; have HL158_0 := Aside0.mk (show Kd.R (Kd.int .i64) 3 _ _ _ _ (rd_L1 t153 0) from ge158_0); clear hv158_0 ge158_0; clear hcc158 hce158; have qi158 : (0 < t153.length) = True := eq_true (by omega); (try rw [show ((0 : Int)).toNat = 0 from rfl] at hx158_0); (try rw [Addr.add_zero'] at hx158_0); have HR158_0 := Aside0.mk hi158_0; have HC158_0 := Aside0.mk hl158_0; clear hi158_0 hl158_0; replace p158 := eq_true p158; replace q158 := eq_true q158) | (go_at_call 20; (with_reducible refine (spec_thAt.calls k a1 a2 t159 _ A9.out).mono ?_); rintro e w' ⟨rfl, ⟨nd, rfl⟩⟩; (try first | exact ⟨rfl, _, World.drewN_drewN _ _ _⟩ | exact ⟨rfl, _, Eq.trans (World.drewN_drewN _ _ _) (congrArg (World.drewN _) (Nat.add_assoc _ _ _))⟩); have p160 : 0 ≤ (t159 : Int) := of_decide_eq_true (by first | (with_reducible assumption) | assumption); have q160 : t159 < ((rd_L1 t153 0).length : Int) := of_decide_eq_true (by first | (with_reducible assumption) | assumption); obtain ⟨ad160, e160, hx160_0⟩ := Kd.at_int (by repeat (first | (with_reducible exact HR158_0.out) | (with_reducible refine Kd.C_alloc ?_ _) | (with_reducible refine Kd.C_drewN ?_ _) | (with_reducible refine Kd.C_drew ?_) | exact HR158_0.out)) t159 p160 q160; cases e160; replace p160 := eq_true p160; replace q160 := eq_true q160)); try go_wp2_with (first | (go_at_call 18; (with_reducible refine (spec_thBoth.calls k a0 a1 a2 true _ A5.out).mono ?_); rintro e w' ⟨rfl, ⟨nd, rfl⟩⟩; (try first | exact ⟨rfl, _, World.drewN_drewN _ _ _⟩ | exact ⟨rfl, _, Eq.trans (World.drewN_drewN _ _ _) (congrArg (World.drewN _) (Nat.add_assoc _ _ _))⟩)) | (go_at_call 19; (with_reducible refine (spec_thTable.calls k a0 a3 t152 t153 _ A7.out).mono ?_); rintro e w15 ⟨v154, v156, rfl, ho0, ho1, hb⟩; have n0_ := Aside0.mk (Kd.S_lower ho0 (below_size (by repeat (first | (with_reducible first | exact HB.out | apply below_alloc | apply pw_below_drewN | apply below_drew1) | exact HB.out)))); have n1_ := Aside0.mk (Kd.S_lower ho1 (below_size (by repeat (first | (with_reducible first | exact HB.out | apply below_alloc | apply pw_below_drewN | apply below_drew1) | exact HB.out)))); have n2_ := Aside0.mk (below_step (by repeat (first | (with_reducible first | exact HB.out | apply below_alloc | apply pw_below_drewN | apply below_drew1) | exact HB.out)) hb); clear HB; have HO155 := n0_; have HO157 := n1_; have HB := n2_; clear n0_ n1_ n2_; (try clear hb); (try clear hb2); (try clear hk); (try clear hi); (try clear ho0); (try clear ho1); obtain ⟨Ao16, co16, eo16⟩ := Kd.S_slice HO157.out; subst eo16; have p158 : 0 ≤ (0 : Int) := (by omega); have q158 : 0 < (t153.length : Int) := of_decide_eq_true (by first | (with_reducible assumption) | assumption); obtain ⟨ad158, A158_0, c158_0, e158, hx158_0, hl158_0, hi158_0⟩ := at_L1 (Kd.S_reads' HO157.out).2.2 0 p158 q158; cases e158; obtain ⟨ce158, hce158, hMe158, hcc158⟩ := Kd.S_get HO157.out [] 0 p158 (by first | exact q158 | exact of_decide_eq_true (by first | (with_reducible assumption) | assumption) | (have e_ := (Kd.S_reads' HO157.out).1; omega)); obtain ⟨ve158_0, rfl, ge158_0⟩ := hMe158; have hv158_0 := hcc158 0 _ rfl; rw [Nat.add_zero, show ((Kd.slice 3 (Kd.int .i64))).sz = 1 from rfl, Nat.mul_one] at hv158_0; replace hv158_0 := Option.some.inj (hv158_0.symm.trans hx158_0); rw [hv158_0] at ge158_0; have HL158_0 := Aside0.mk (show Kd.R (Kd.int .i64) 3 _ _ _ _ (rd_L1 t153 0) from ge158_0); clear hv158_0 ge158_0; clear hcc158 hce158; have qi158 : (0 < t153.length) = True := eq_true (by omega); (try rw [show ((0 : Int)).toNat = 0 from rfl] at hx158_0); (try rw [Addr.add_zero'] at hx158_0); have HR158_0 := Aside0.mk hi158_0; have HC158_0 := Aside0.mk hl158_0; clear hi158_0 hl158_0; replace p158 := eq_true p158; replace q158 := eq_true q158) | (go_at_call 20; (with_reducible refine (spec_thAt.calls k a1 a2 t159 _ A9.out).mono ?_); rintro e w' ⟨rfl, ⟨nd, rfl⟩⟩; (try first | exact ⟨rfl, _, World.drewN_drewN _ _ _⟩ | exact ⟨rfl, _, Eq.trans (World.drewN_drewN _ _ _) (congrArg (World.drewN _) (Nat.add_assoc _ _ _))⟩); have p160 : 0 ≤ (t159 : Int) := of_decide_eq_true (by first | (with_reducible assumption) | assumption); have q160 : t159 < ((rd_L1 t153 0).length : Int) := of_decide_eq_true (by first | (with_reducible assumption) | assumption); obtain ⟨ad160, e160, hx160_0⟩ := Kd.at_int (by repeat (first | (with_reducible exact HR158_0.out) | (with_reducible refine Kd.C_alloc ?_ _) | (with_reducible refine Kd.C_drewN ?_ _) | (with_reducible refine Kd.C_drew ?_) | exact HR158_0.out)) t159 p160 q160; cases e160; replace p160 := eq_true p160; replace q160 := eq_true q160)))
            go_ret2
            exact ⟨by first | rfl | (simp [errW_none, errW_some] <;> rfl) | (simp [*, errW_none, errW_some] <;> rfl), by repeat (first | (with_reducible first | exact HB.out | apply below_alloc | apply pw_below_drewN | apply below_drew1) | exact HB.out)⟩
        · rw [if_neg c11] at H
          exact absurd H (by simp)
      · rw [if_neg c10] at H
        exact absurd H (by simp)
    · rw [if_neg c8] at H
      exact absurd H (by simp)
  · replace c6 := Bool.eq_false_iff.mpr c6
    subst c6
    have H1 : (some (0, false)) = some (r1, r2) := by rw [if_neg (show ¬ (false = true) by decide)] at H; exact H
    clear H
    have H := H1
    clear H1
    simp only [Option.some.injEq, Prod.mk.injEq] at H
    obtain ⟨rfl, rfl⟩ := H
    go_enter Tryd.func9, Tryd.ntmps9
    go_wp2_with (first | (go_at_call 18; (with_reducible refine (spec_thBoth.calls k a0 a1 a2 false _ A5.out).mono ?_); rintro e w' ⟨rfl, ⟨nd, rfl⟩⟩; (try first | exact ⟨rfl, _, World.drewN_drewN _ _ _⟩ | exact ⟨rfl, _, Eq.trans (World.drewN_drewN _ _ _) (congrArg (World.drewN _) (Nat.add_assoc _ _ _))⟩)))
    repeat (go_quiet (first | (go_at_call 18; (with_reducible refine (spec_thBoth.calls k a0 a1 a2 false _ A5.out).mono ?_); rintro e w' ⟨rfl, ⟨nd, rfl⟩⟩; (try first | exact ⟨rfl, _, World.drewN_drewN _ _ _⟩ | exact ⟨rfl, _, Eq.trans (World.drewN_drewN _ _ _) (congrArg (World.drewN _) (Nat.add_assoc _ _ _))⟩))); try go_wp2_with (first | (go_at_call 18; (with_reducible refine (spec_thBoth.calls k a0 a1 a2 false _ A5.out).mono ?_); rintro e w' ⟨rfl, ⟨nd, rfl⟩⟩; (try first | exact ⟨rfl, _, World.drewN_drewN _ _ _⟩ | exact ⟨rfl, _, Eq.trans (World.drewN_drewN _ _ _) (congrArg (World.drewN _) (Nat.add_assoc _ _ _))⟩))))
    go_ret2
    exact ⟨by first | rfl | (simp [errW_none, errW_some] <;> rfl) | (simp [*, errW_none, errW_some] <;> rfl), by repeat (first | (with_reducible first | exact HB.out | apply below_alloc | apply pw_below_drewN | apply below_drew1) | exact HB.out)⟩

end Go.Proofs.YthnjmokaiiajmaaDoor.P

namespace Go.Proofs.YthnjmokaiiajmaaDoor.P
open Go.RowKit Go.Proofs.YthnjmokaiiajmaaDoorW.PrintWords Go.Proofs.YthnjmokaiiajmaaDoorW.PrintLast Go.Proofs.YthnjmokaiiajmaaDoorW.PrintMore
attribute [local go_sem] max2_int min2_int max_two min_two max_three min_three max_four min_four   -- for this text's walks alone
set_option linter.unusedVariables false
set_option linter.unusedSimpArgs false

/-! ### impl_CountThumbs: function 10 -/
def impl_CountThumbs.f (k : Nat) (a0 a1 a2 : ByteArray) (a3 : Bool) : Option (Int × Bool) := (impl_thumbsOk.f k a0 a1 a2).bind fun bt => (if bt.2.2 = true then ((impl_newLooker.f k a0 a3).bind fun t => ((impl_looker_from.f k t 0 bt.1 bt.2.1).bind fun o => (if 1000000000000000 < o.2 then some (0, false) else some (o.2, true)))) else (some (0, false)))
theorem impl_CountThumbs.mono : ∀ a0 a1 a2 a3 k, LeO (impl_CountThumbs.f k a0 a1 a2 a3) (impl_CountThumbs.f (k + 1) a0 a1 a2 a3) := by
  intro a0 a1 a2 a3 k
  unfold impl_CountThumbs.f
  refine LeO.bind (impl_thumbsOk.mono _ _ _ _) (fun _ => ?_)
  refine LeO.ite ?_ (LeO.refl _)
  exact LeO.bind (impl_newLooker.mono _ _ _) (fun _ => LeO.bind (impl_looker_from.mono _ _ _ _ _) (fun _ => LeO.refl _))
set_option maxHeartbeats 8000000 in
set_option maxRecDepth 100000 in
theorem impl_CountThumbs.calls (k : Nat) (a0 a1 a2 : ByteArray) (a3 : Bool) (r1 : Int) (r2 : Bool) (w : World) (h : impl_CountThumbs.f k a0 a1 a2 a3 = some (r1, r2)) :
    Calls Tryd.prog 10 #[.string a0, .string a1, .string a2, .bool a3] w fun e w' => e = .returned (.tuple #[.int .i64 r1, .bool r2]) ∧ Below w.heap.size w w' := by
  unfold impl_CountThumbs.f at h
  obtain ⟨⟨tl, tr, ok⟩, h1, h⟩ := Option.bind_eq_some_iff.1 h
  have H1 := Aside0.mk h1
  have hu39 := Tryd.underlying39
  have hu43 := Tryd.underlying43
  clear h1
  cases ok with
  | false =>
    rw [if_neg (by simp)] at h
    obtain ⟨rfl, rfl⟩ := Prod.mk.inj (Option.some.inj h)
    go_enter Tryd.func10, Tryd.ntmps10
    go_wp2_with (first | (go_at_call 21; refine (impl_thumbsOk.calls k a0 a1 a2 tl tr false _ H1.out).mono ?_; rintro e w1 ⟨rfl, hb⟩))
    go_ret2
    exact ⟨rfl, below_alloc hb _⟩
  | true =>
    rw [if_pos rfl] at h
    obtain ⟨t, h2, h⟩ := Option.bind_eq_some_iff.1 h
    obtain ⟨⟨s, p⟩, h3, h⟩ := Option.bind_eq_some_iff.1 h
    have H2 := Aside0.mk h2
    have H3 : Aside0 (impl_looker_from.f k t 0 tl tr = some (s, p)) := ⟨h3⟩
    have H4 := Aside0.mk h
    clear h2 h3 h
    go_enter Tryd.func10, Tryd.ntmps10
    go_upto_region 4 with (first | (go_at_call 21; refine (impl_thumbsOk.calls k a0 a1 a2 tl tr true _ H1.out).mono ?_; rintro e w1 ⟨rfl, hb⟩))
    have HB1 : Aside0 (Below w.heap.size w (w1.alloc (.cells #[.int .i64 tl, .int .i64 tr] 39))) := ⟨below_alloc hb _⟩
    have h10 := blk_new w1 (.cells #[.int .i64 tl, .int .i64 tr] 39)
    have hlt := blk_lt h10
    clear hb H1
    generalize w1.alloc (.cells #[.int .i64 tl, .int .i64 tr] 39) = W1 at *
    generalize w1.heap.size = b10 at *
    have c0 : W1.cell? ⟨b10, 0, none⟩ = some (.int .i64 tl) := (blk_cell h10 0).trans rfl
    have c1 : W1.cell? ⟨b10, 1, none⟩ = some (.int .i64 tr) := (blk_cell h10 1).trans rfl
    have H10 := Aside0.mk h10
    clear h10
    have hfl : ∀ W : World, (Instr.field 43 (.agg #[.int .i64 s, .int .i64 p]) 1).run Tryd.prog W = .ok (.int .i64 p) W := fun W => by kernel_rfl
    go_region_held3 (fun w' => w'.cell? ⟨b10, 0, none⟩ = some (.int .i64 tl) ∧ w'.cell? ⟨b10, 1, none⟩ = some (.int .i64 tr)) (first | go_keep | exact ⟨(blk_cell hk3 0).trans rfl, (blk_cell hk3 1).trans rfl⟩ | exact ⟨(blk_cell hk2 0).trans rfl, (blk_cell hk2 1).trans rfl⟩) (first | (go_at_call 22; refine (impl_newLooker.calls k a0 a3 t _ H2.out).mono ?_; rintro e w2 ⟨D, rfl, hDL, hDc, hlim, hms, hLk, hb2⟩; have hk2 := blk_below H10.out (((Below.refl _ _).drew).trans hb2)) | (go_at_call 23; refine (impl_looker_from.calls k t 0 tl tr s p _ H3.out D hDL hDc hLk hlim).mono ?_; rintro e w3 ⟨rfl, hLk3, hMK⟩; have hk3 := hMK.blk hLk hk2))
    all_goals
      have hbw : Below w.heap.size w w3 := hMK.below (below_step HB1.out (((Below.refl _ _).drew).trans hb2)) (by have := HB1.out.size; have := hb2.size; exact Nat.le_trans ‹_› ‹_›) (fun m hm => Nat.le_trans HB1.out.size (hms.ms m hm))
      have HBW := Aside0.mk hbw
      clear hbw hMK hLk hLk3 hms hlim hDL hDc hb2 hk2 hk3

      by_cases hp : 1000000000000000 < p
      · have hpd : decide (1000000000000000 < p) = true := decide_eq_true hp
        have H5 := H4.out
        rw [if_pos hp] at H5
        obtain ⟨rfl, rfl⟩ := Prod.mk.inj (Option.some.inj H5)
        go_wp2
        go_ret2
        exact ⟨rfl, HBW.out⟩
      · have hpd : decide (1000000000000000 < p) = false := decide_eq_false hp
        have H5 := H4.out
        rw [if_neg hp] at H5
        obtain ⟨rfl, rfl⟩ := Prod.mk.inj (Option.some.inj H5)
        go_wp2
        go_ret2
        exact ⟨rfl, HBW.out⟩

end Go.Proofs.YthnjmokaiiajmaaDoor.P

namespace Go.Proofs.YthnjmokaiiajmaaDoor.Pu
open Go.RowKit Go.Proofs.YthnjmokaiiajmaaDoorW.PrintWords Go.Proofs.YthnjmokaiiajmaaDoorW.PrintLast Go.Proofs.YthnjmokaiiajmaaDoorW.PrintMore

/-! ### rounds -/
theorem ev_succ {α : Type} {g : Nat → Option α} {r : α} (h : Ev (fun k => g (k + 1)) r) : Ev g r := by
  obtain ⟨K, h⟩ := h
  refine ⟨K + 1, fun n hn => ?_⟩
  obtain ⟨m, rfl⟩ : ∃ m, n = m + 1 := ⟨n - 1, by omega⟩
  exact h m (by omega)
theorem ev_from {α : Type} {g : Nat → Option α} {r : α} (K : Nat) (h : ∀ k, K ≤ k → g (k + 1) = some r) : Ev g r := by
  refine ⟨K + 1, fun n hn => ?_⟩
  obtain ⟨m, rfl⟩ : ∃ m, n = m + 1 := ⟨n - 1, by omega⟩
  exact h m (by omega)
theorem ev_const {α : Type} {x : Option α} {r : α} (h : x = some r) : Ev (fun _ => x) r := ⟨0, fun _ _ => h⟩
/-- As Option.bind_some; its proof is no 'rfl', so the kernel is not asked to compare two binds. -/
theorem bsome {α β : Type} (a : α) (f : α → Option β) : (some a).bind f = f a := Option.bind_some a f
theorem ev_at {α : Type} {g : Nat → Option α} {r : α} (h : Ev g r) : ∃ k, g k = some r := h.rounds
theorem ev_both {α β : Type} {g : Nat → Option α} {f : Nat → Option β} {r : α} {q : β} (h : Ev g r) (h' : Ev f q) : ∃ K, ∀ k, K ≤ k → g k = some r ∧ f k = some q := by
  obtain ⟨K, h⟩ := h
  obtain ⟨K', h'⟩ := h'
  exact ⟨K + K', fun k hk => ⟨h k (by omega), h' k (by omega)⟩⟩
theorem ev_eq {α : Type} {g : Nat → Option α} {r r' : α} (h : Ev g r) (e : r = r') : Ev g r' := e ▸ h
theorem ev_unique {α : Type} {g : Nat → Option α} {r r' : α} (h : Ev g r) (h' : Ev g r') : r = r' := by
  obtain ⟨K, h⟩ := ev_both h h'
  have := h K (Nat.le_refl _)
  exact Option.some.inj (this.1.symm.trans this.2)

/-! ### numbers -/
theorem wr {x : Int} (h0 : -9223372036854775808 ≤ x) (h1 : x ≤ 9223372036854775807) : wrap64 x = x := by unfold wrap64; omega
theorem wr32 {x : Int} (h0 : -2147483648 ≤ x) (h1 : x ≤ 2147483647) : wrap32 x = x := by unfold wrap32; omega
theorem wf64 {x : Int} (h : (Lit.int .i64 x).wf = true) : -9223372036854775808 ≤ x ∧ x ≤ 9223372036854775807 := by
  simp only [Lit.wf] at h
  rw [Bool.and_eq_true] at h
  have h1 := of_decide_eq_true h.1
  have h2 := of_decide_eq_true h.2
  exact ⟨h1, h2⟩

/-! ### bytes -/
theorem bytes_ext {s t : ByteArray} (h : bytesOf s = bytesOf t) : s = t := by
  have h1 : s.data.toList = t.data.toList := by
    unfold bytesOf at h
    refine List.ext_getElem (by simpa using congrArg List.length h) fun i h1 h2 => ?_
    have := congrArg (fun l => l[i]?) h
    simp only [List.getElem?_map, List.getElem?_eq_getElem h1, List.getElem?_eq_getElem h2, Option.map_some, Option.some.injEq] at this
    exact UInt8.toNat_inj.1 (by omega)
  cases s; cases t
  simp only [ByteArray.mk.injEq]
  exact Array.toList_inj.1 h1
theorem size_bytes (s : ByteArray) : s.size = (bytesOf s).length := (bytesOf_length s).symm
theorem bt_bytes (s : ByteArray) (i : Int) : bt s i = (bytesOf s).getD i.toNat 0 := by rw [← rd_bytesOf]; rfl
theorem bytes_range (s : ByteArray) : ∀ c ∈ bytesOf s, 0 ≤ c ∧ c ≤ 255 := by
  intro c hc
  unfold bytesOf at hc
  obtain ⟨b, _, rfl⟩ := List.mem_map.1 hc
  have := b.toNat_lt
  omega
theorem bytes_nums {L : List Int} (h : ∀ c ∈ L, 0 ≤ c ∧ c ≤ 255) : bytesOf (strOfNums L) = L := by
  unfold bytesOf strOfNums
  simp only [List.map_map]
  conv => rhs; rw [← List.map_id L]
  refine List.map_congr_left fun c hc => ?_
  have := h c hc
  show ((UInt8.ofNat c.toNat).toNat : Int) = c
  rw [UInt8.toNat_ofNat']
  omega
theorem nums_bytes (s : ByteArray) : strOfNums (bytesOf s) = s := bytes_ext (bytes_nums (bytes_range s))
theorem size_nums (L : List Int) : (strOfNums L).size = L.length := by
  unfold strOfNums
  simp [ByteArray.size]
theorem nums_inj {L M : List Int} (h : ∀ c ∈ L, 0 ≤ c ∧ c ≤ 255) (h' : ∀ c ∈ M, 0 ≤ c ∧ c ≤ 255) (e : strOfNums L = strOfNums M) : L = M := by
  rw [← bytes_nums h, ← bytes_nums h', e]
theorem bytes_append (s t : ByteArray) : bytesOf (s ++ t) = bytesOf s ++ bytesOf t := by
  unfold bytesOf
  rw [ByteArray.data_append, Array.toList_append, List.map_append]
theorem bytes_extract (s : ByteArray) (a b : Nat) : bytesOf (s.extract a b) = ((bytesOf s).take b).drop a := by
  unfold bytesOf
  rw [ByteArray.data_extract, Array.toList_extract, List.extract_eq_take_drop, List.map_take, List.map_drop]
  rw [List.drop_take]
theorem numsApp (L M : List Int) : strOfNums (L ++ M) = strOfNums L ++ strOfNums M := by
  unfold strOfNums
  simp only [List.map_append]
  cases h : (ByteArray.mk (L.map fun x => x.toNat.toUInt8).toArray ++ ByteArray.mk (M.map fun x => x.toNat.toUInt8).toArray) with
  | mk d =>
    have := congrArg ByteArray.data h
    rw [ByteArray.data_append] at this
    simp only at this
    rw [← this]
    congr 1
    simp
theorem toList_bytes {s t : ByteArray} : s.toList = t.toList ↔ s = t := by
  rw [Lib.toList_data, Lib.toList_data]
  refine ⟨fun h => bytes_ext (by unfold bytesOf; rw [h]), fun h => by rw [h]⟩
theorem encode_small {c : Int} (h0 : 0 ≤ c) (h1 : c < 128) : Utf8.encode c = strOfNums [c] := by
  unfold Utf8.encode strOfNums
  have hv : Utf8.valid c = true := by unfold Utf8.valid; simp; omega
  have hc : c.toNat < 128 := by omega
  simp only [hv, if_true, hc]
  simp
theorem bytes_all {p : UInt8 → Bool} {q : Int → Bool} (h : ∀ b : UInt8, p b = q b.toNat) (s : ByteArray) : s.data.toList.all p = (bytesOf s).all q := by
  unfold bytesOf
  rw [List.all_map]
  congr 1
  funext b
  exact h b

theorem drop_bytes (s : ByteArray) (i : Nat) (h : i < s.size) : (bytesOf s).drop i = bt s i :: (bytesOf s).drop (i + 1) := by
  have hl : i < (bytesOf s).length := by rw [bytesOf_length]; exact h
  rw [List.drop_eq_getElem_cons hl, bt_bytes, Int.toNat_natCast, List.getD_eq_getElem?_getD, List.getElem?_eq_getElem hl]
  rfl
theorem drop_end (s : ByteArray) : (bytesOf s).drop s.size = [] := List.drop_eq_nil_of_le (by rw [bytesOf_length]; exact Nat.le_refl _)

theorem bt_mem (s : ByteArray) (i : Nat) (h : i < s.size) : bt s i ∈ bytesOf s := by
  have hd := drop_bytes s i h
  have : bt s i ∈ (bytesOf s).drop i := by rw [hd]; exact List.mem_cons_self
  exact List.mem_of_mem_drop this

/-! ### Trim against a list of signs -/
theorem dropWhile_nil_all {α : Type} (p : α → Bool) (l : List α) : l.dropWhile p = [] ↔ l.all p = true := by
  induction l with
  | nil => simp
  | cons a l ih =>
    rw [List.dropWhile_cons, List.all_cons]
    cases h : p a <;> simp [ih]
theorem trimS_nil (l cs : List UInt8) : Lib.trimS l cs = [] ↔ l.all (fun b => cs.contains b) = true := by
  unfold Lib.trimS Lib.trimLeftS Lib.trimRightS
  rw [dropWhile_nil_all]
  constructor
  · intro h
    have hr : ∀ (m : List UInt8), ((m.dropWhile (cs.contains ·)).reverse).all (fun b => cs.contains b) = true → m.all (fun b => cs.contains b) = true := by
      intro m
      induction m with
      | nil => simp
      | cons a m ih =>
        rw [List.dropWhile_cons]
        cases ha : cs.contains a with
        | true => intro h; rw [if_pos rfl] at h; simp only [List.all_cons, ha, Bool.true_and]; exact ih h
        | false => intro h; simp at h; simpa using And.intro h.2 h.1
    have := hr l.reverse h
    simpa using this
  · intro h
    have : l.reverse.dropWhile (cs.contains ·) = [] := (dropWhile_nil_all _ _).2 (by simpa using h)
    rw [this]
    rfl

end Go.Proofs.YthnjmokaiiajmaaDoor.Pu

namespace Go.Proofs.YthnjmokaiiajmaaDoor.Pu
open Go.RowKit Go.Proofs.YthnjmokaiiajmaaDoor.P Go.Proofs.YthnjmokaiiajmaaDoorW.PrintWords Go.Proofs.YthnjmokaiiajmaaDoorW.PrintLast Go.Proofs.YthnjmokaiiajmaaDoorW.PrintMore

def isPad (c : Int) : Bool := (decide (49 ≤ c) && decide (c ≤ 57)) || c == 42 || c == 48 || c == 35
/-- A key's place in the order of the pad. -/
def plN (c : Int) : Int := if 49 ≤ c then c - 49 else if c = 42 then 9 else if c = 48 then 10 else 11
/-- The key of a place. -/
def padC (p : Int) : Int := if p ≤ 8 then 49 + p else if p = 9 then 42 else if p = 10 then 48 else 35
theorem isPad_iff {c : Int} : isPad c = true ↔ (49 ≤ c ∧ c ≤ 57) ∨ c = 42 ∨ c = 48 ∨ c = 35 := by
  unfold isPad
  simp only [Bool.or_eq_true, Bool.and_eq_true, decide_eq_true_eq, beq_iff_eq]
  omega
theorem plN_range {c : Int} (h : isPad c = true) : 0 ≤ plN c ∧ plN c ≤ 11 := by
  have := isPad_iff.1 h
  unfold plN
  omega
theorem padC_plN {c : Int} (h : isPad c = true) : padC (plN c) = c := by
  have := isPad_iff.1 h
  unfold padC plN
  omega
theorem plN_padC {p : Int} (h : 0 ≤ p ∧ p ≤ 11) : plN (padC p) = p := by
  unfold padC plN
  omega
theorem padC_pad {p : Int} (h : 0 ≤ p ∧ p ≤ 11) : isPad (padC p) = true := by
  rw [isPad_iff]
  unfold padC
  omega
theorem padC_byte (p : Int) (h : 0 ≤ p) : 0 ≤ padC p ∧ padC p ≤ 255 := by
  unfold padC
  omega
theorem pad_contains (b : UInt8) : (⟨#[49, 50, 51, 52, 53, 54, 55, 56, 57, 42, 48, 35]⟩ : ByteArray).data.toList.contains b = isPad b.toNat := by
  have key : ∀ n : Fin 256, (⟨#[49, 50, 51, 52, 53, 54, 55, 56, 57, 42, 48, 35]⟩ : ByteArray).data.toList.contains (UInt8.ofNat n.val) = isPad (UInt8.ofNat n.val).toNat := by decide +kernel
  have := key ⟨b.toNat, b.toNat_lt⟩
  simpa using this
theorem pad_bt {p : Int} (h : 0 ≤ p ∧ p ≤ 11) : bt (⟨#[49, 50, 51, 52, 53, 54, 55, 56, 57, 42, 48, 35]⟩ : ByteArray) p = padC p := by
  have key : ∀ n : Fin 12, bt (⟨#[49, 50, 51, 52, 53, 54, 55, 56, 57, 42, 48, 35]⟩ : ByteArray) (n.val : Int) = padC (n.val : Int) := by decide +kernel
  have := key ⟨p.toNat, by omega⟩
  rwa [show ((p.toNat : Nat) : Int) = p by omega] at this
theorem pad_cut {p : Int} (h : 0 ≤ p ∧ p ≤ 11) : (⟨#[49, 50, 51, 52, 53, 54, 55, 56, 57, 42, 48, 35]⟩ : ByteArray).extract p.toNat (p + 1).toNat = strOfNums [padC p] := by
  have key : ∀ n : Fin 12, ((⟨#[49, 50, 51, 52, 53, 54, 55, 56, 57, 42, 48, 35]⟩ : ByteArray).extract n.val (n.val + 1)).data.toList = (strOfNums [padC (n.val : Int)]).data.toList := by decide +kernel
  have := key ⟨p.toNat, by omega⟩
  rw [show ((p.toNat : Nat) : Int) = p by omega] at this
  rw [show (p + 1).toNat = p.toNat + 1 by omega]
  exact bytes_ext (by unfold bytesOf; rw [this])
theorem place_is (c : Int) (h : isPad c = true) : impl_place.f c = some (plN c) := by
  have key : ∀ n : Fin 12, impl_place.f (padC (n.val : Int)) = some (n.val : Int) := by decide +kernel
  have hp := plN_range h
  have := key ⟨(plN c).toNat, by omega⟩
  rwa [show (((plN c).toNat : Nat) : Int) = plN c by omega, padC_plN h] at this
theorem thPlace_ev (c : Int) (h : 0 ≤ c ∧ c ≤ 255) : Ev (fun k => spec_thPlace.f k c) (if isPad c = true then plN c else -1) := by
  have key : ∀ n : Fin 256, spec_thPlace.f 14 (n.val : Int) = some (if isPad (n.val : Int) = true then plN (n.val : Int) else -1) := by decide +kernel
  have := key ⟨c.toNat, by omega⟩
  rw [show ((c.toNat : Nat) : Int) = c by omega] at this
  exact Ev.of (spec_thPlace.mono c) this
theorem thPlace_pad (c : Int) (h : isPad c = true) : Ev (fun k => spec_thPlace.f k c) (plN c) := by
  have h2 := isPad_iff.1 h
  have := thPlace_ev c ⟨by omega, by omega⟩
  rwa [if_pos h] at this

/-! ### texts of keys -/
def dialB (s : ByteArray) : Bool := decide (s.size ≤ 30) && (bytesOf s).all isPad
theorem dialB_iff {s : ByteArray} : dialB s = true ↔ s.size ≤ 30 ∧ ∀ c ∈ bytesOf s, isPad c = true := by
  unfold dialB
  simp [List.all_eq_true]
def oneB (s : ByteArray) : Bool := decide (s.size = 1) && dialB s
theorem oneB_iff {s : ByteArray} : oneB s = true ↔ s.size = 1 ∧ isPad (bt s 0) = true := by
  unfold oneB
  rw [Bool.and_eq_true, decide_eq_true_eq, dialB_iff]
  constructor
  · rintro ⟨h1, _, h2⟩
    exact ⟨h1, h2 _ (bt_mem s 0 (by omega))⟩
  · rintro ⟨h1, h2⟩
    refine ⟨h1, by omega, fun c hc => ?_⟩
    have := drop_bytes s 0 (by omega)
    rw [List.drop_zero, show (0 : Nat) + 1 = s.size by omega, drop_end] at this
    rw [this, List.mem_singleton] at hc
    rw [hc]
    exact h2
theorem isDialed_is (s : ByteArray) (hs : s.size ≤ 140737488351232) : impl_IsDialed.f s = some (dialB s) := by
  unfold impl_IsDialed.f dialB
  by_cases h : s.size ≤ 30
  · rw [if_pos (by omega)]
    unfold impl_over.f strings_Trim.f
    rw [if_pos (by omega), if_pos (by decide), if_pos (by decide), bsome, bsome, decide_eq_true h, Bool.true_and, ← bytes_all pad_contains]
    congr 1
    rw [Bool.eq_iff_iff, beq_iff_eq, Lib.toList_data, ← trimS_nil]
  · rw [if_neg (by omega), decide_eq_false h]
    rfl
theorem isKey_is (s : ByteArray) (hs : s.size ≤ 140737488351232) : impl_isKey.f s = some (oneB s) := by
  unfold impl_isKey.f oneB
  by_cases h : s.size = 1
  · rw [if_pos (by omega), isDialed_is s hs, bsome, decide_eq_true h]
    rfl
  · rw [if_neg (by omega), decide_eq_false h]
    rfl
theorem thGood_l0 (s : ByteArray) (hs : s.size ≤ 1000000) : ∀ (d i : Nat), i + d = s.size → Ev (fun k => spec_thGood.l0 k s i) (((bytesOf s).drop i).all isPad)
  | 0, i, h => by
    obtain rfl : i = s.size := by omega
    rw [drop_end]
    refine ev_from 0 fun k _ => ?_
    simp only [spec_thGood.l0]
    rw [if_neg (by omega)]
    rfl
  | d + 1, i, h => by
    obtain ⟨K, ih⟩ := thGood_l0 s hs d (i + 1) (by omega)
    obtain ⟨K0, h0⟩ := thPlace_ev (bt s i) (bytes_range s _ (bt_mem s i (by omega)))
    rw [drop_bytes s i (by omega), List.all_cons]
    refine ev_from (K0 + K) fun k hk => ?_
    have e := ih k (by omega)
    have e0 := h0 k (by omega)
    rw [show ((i + 1 : Nat) : Int) = (i : Int) + 1 from rfl] at e
    dsimp only at e e0
    simp only [spec_thGood.l0]
    rw [if_pos (by omega), if_pos (by omega), e0, bsome, wr (by omega) (by omega), e]
    cases hp : isPad (bt s i) with
    | false =>
      rw [show (if false = true then plN (bt s i) else (-1 : Int)) = -1 from rfl, if_pos (by omega)]; rfl
    | true =>
      have := plN_range hp
      rw [show (if true = true then plN (bt s i) else (-1 : Int)) = plN (bt s i) from rfl, if_neg (by omega)]; rfl
theorem thGood_ev (s : ByteArray) : Ev (fun k => spec_thGood.f k s) (dialB s) := by
  unfold dialB
  by_cases h : s.size ≤ 30
  · obtain ⟨K, e⟩ := thGood_l0 s (by omega) s.size 0 (by omega)
    refine ⟨K, fun k hk => ?_⟩
    have e := e k hk
    dsimp only at e ⊢
    unfold spec_thGood.f
    rw [if_neg (by omega), decide_eq_true h, Bool.true_and]
    exact e
  · refine ⟨0, fun k _ => ?_⟩
    dsimp only
    unfold spec_thGood.f
    rw [if_pos (by omega), decide_eq_false h]
    rfl
theorem thOne_ev (s : ByteArray) : Ev (fun k => spec_thOne.f k s) (oneB s) := by
  obtain ⟨K, e⟩ := thGood_ev s
  refine ⟨K, fun k hk => ?_⟩
  have e := e k hk
  dsimp only at e ⊢
  unfold spec_thOne.f oneB
  by_cases h : s.size = 1
  · rw [if_pos (by omega), e, bsome, decide_eq_true h]
    rfl
  · rw [if_neg (by omega), decide_eq_false h]
    rfl

/-! ### places and distances -/
def placesN (s : ByteArray) : List Int := (bytesOf s).map plN
theorem placesN_length (s : ByteArray) : (placesN s).length = s.size := by rw [placesN, List.length_map, bytesOf_length]
theorem placesN_range {s : ByteArray} (h : dialB s = true) : ∀ p ∈ placesN s, 0 ≤ p ∧ p ≤ 11 := by
  intro p hp
  obtain ⟨c, hc, rfl⟩ := List.mem_map.1 hp
  exact plN_range ((dialB_iff.1 h).2 c hc)
def distN (a b : Int) (corners : Bool) : Int :=
  let x := if a % 3 < b % 3 then b % 3 - a % 3 else a % 3 - b % 3
  let y := if a / 3 < b / 3 then b / 3 - a / 3 else a / 3 - b / 3
  if corners then (if x < y then y else x) else x + y
theorem distN_range {a b : Int} (ha : 0 ≤ a ∧ a ≤ 11) (hb : 0 ≤ b ∧ b ≤ 11) (c : Bool) : 0 ≤ distN a b c ∧ distN a b c ≤ 5 := by
  have key : ∀ m n : Fin 12, ∀ c : Bool, 0 ≤ distN (m.val : Int) (n.val : Int) c ∧ distN (m.val : Int) (n.val : Int) c ≤ 5 := by decide +kernel
  have := key ⟨a.toNat, by omega⟩ ⟨b.toNat, by omega⟩ c
  rwa [show ((a.toNat : Nat) : Int) = a by omega, show ((b.toNat : Nat) : Int) = b by omega] at this
theorem distance_is {a b : Int} (ha : 0 ≤ a ∧ a ≤ 11) (hb : 0 ≤ b ∧ b ≤ 11) (c : Bool) : impl_distance.f a b c = some (distN a b c) := by
  have key : ∀ m n : Fin 12, ∀ c : Bool, impl_distance.f (m.val : Int) (n.val : Int) c = some (distN (m.val : Int) (n.val : Int) c) := by decide +kernel
  have := key ⟨a.toNat, by omega⟩ ⟨b.toNat, by omega⟩ c
  rwa [show ((a.toNat : Nat) : Int) = a by omega, show ((b.toNat : Nat) : Int) = b by omega] at this
theorem thFar_ev {a b : Int} (ha : isPad a = true) (hb : isPad b = true) (c : Bool) : Ev (fun k => spec_thFar.f k a b c) (distN (plN a) (plN b) c) := by
  have key : ∀ m n : Fin 12, ∀ c : Bool, spec_thFar.f 14 (padC (m.val : Int)) (padC (n.val : Int)) c = some (distN (m.val : Int) (n.val : Int) c) := by decide +kernel
  have pa := plN_range ha
  have pb := plN_range hb
  have := key ⟨(plN a).toNat, by omega⟩ ⟨(plN b).toNat, by omega⟩ c
  rw [show (((plN a).toNat : Nat) : Int) = plN a by omega, show (((plN b).toNat : Nat) : Int) = plN b by omega, padC_plN ha, padC_plN hb] at this
  exact Ev.of (spec_thFar.mono a b c) this
theorem places_l0 (s : ByteArray) (h : dialB s = true) : ∀ (d i : Nat) (A : List Int), i + d = s.size → A.length ≤ i → Ev (fun k => impl_places.l0 k s A s.size i) (A ++ ((bytesOf s).drop i).map plN)
  | 0, i, A, hi, hA => by
    obtain rfl : i = s.size := by omega
    rw [drop_end]
    refine ev_from 0 fun k _ => ?_
    simp only [impl_places.l0]
    rw [if_neg (by omega)]
    simp
  | d + 1, i, A, hi, hA => by
    have hs := (dialB_iff.1 h).1
    have hp := (dialB_iff.1 h).2 _ (bt_mem s i (by omega))
    obtain ⟨K, ih⟩ := places_l0 s h d (i + 1) (A ++ [plN (bt s i)]) (by omega) (by simp; omega)
    rw [drop_bytes s i (by omega)]
    refine ev_from K fun k hk => ?_
    have e := ih k (by omega)
    rw [show ((i + 1 : Nat) : Int) = (i : Int) + 1 from rfl] at e
    dsimp only at e
    simp only [impl_places.l0]
    rw [if_pos (by omega), if_pos (by omega), if_pos (by omega), place_is _ hp, bsome, if_pos (by omega), wr (by omega) (by omega), e]
    simp
theorem places_ev (s : ByteArray) (h : dialB s = true) : Ev (fun k => impl_places.f k s) (placesN s) := by
  obtain ⟨K, e⟩ := places_l0 s h s.size 0 [] (by omega) (by simp)
  exact ⟨K, fun k hk => by have e := e k hk; dsimp only at e; unfold impl_places.f placesN; simpa using e⟩

end Go.Proofs.YthnjmokaiiajmaaDoor.Pu

namespace Go.Proofs.YthnjmokaiiajmaaDoor.Pu
open Go.RowKit Go.Proofs.YthnjmokaiiajmaaDoor.P Go.Proofs.YthnjmokaiiajmaaDoorW.PrintWords Go.Proofs.YthnjmokaiiajmaaDoorW.PrintLast Go.Proofs.YthnjmokaiiajmaaDoorW.PrintMore

theorem drop_rd (L : List Int) (i : Nat) (h : i < L.length) : L.drop i = rd L i :: L.drop (i + 1) := by
  rw [List.drop_eq_getElem_cons h, rd, Int.toNat_natCast, List.getD_eq_getElem?_getD, List.getElem?_eq_getElem h]
  rfl
theorem rd_mem (L : List Int) (i : Nat) (h : i < L.length) : rd L i ∈ L := by
  have : rd L i ∈ L.drop i := by rw [drop_rd L i h]; exact List.mem_cons_self
  exact List.mem_of_mem_drop this
theorem drop_places (s : ByteArray) (i : Nat) (h : i < s.size) : (placesN s).drop i = plN (bt s i) :: (placesN s).drop (i + 1) := by
  unfold placesN
  rw [← List.map_drop, drop_bytes s i h, List.map_cons, List.map_drop]
theorem rd_places (s : ByteArray) (i : Nat) (h : i < s.size) : rd (placesN s) i = plN (bt s i) := by
  have h1 := drop_rd (placesN s) i (by rw [placesN_length]; exact h)
  rw [drop_places s i h] at h1
  exact (List.cons.inj h1).1.symm

/-! ### KeyDistance -/
/-! ### OneThumb -/
def walkN : List Int → Int → Bool → Int
  | [], _, _ => 0
  | q :: L, p, c => distN p q c + walkN L q c
def oneT (s t : ByteArray) (c : Bool) : Int × Bool := if (dialB s && oneB t) = true then (walkN (placesN s) (plN (bt t 0)) c, true) else (0, false)
/-! ### FarthestNext -/
def farN (c : Bool) : List Int → Int → Int → Int → Int → Int × Int
  | [], _, _, a, b => (a, b)
  | q :: L, p, i, a, b => if distN p q c > b then farN c L q (i + 1) i (distN p q c) else farN c L q (i + 1) a b
def farT (s : ByteArray) (c : Bool) : Int × Int × Bool := if (dialB s && !decide (s.size < 2)) = true then ((farN c ((placesN s).drop 1) (plN (bt s 0)) 0 0 (-1)).1, (farN c ((placesN s).drop 1) (plN (bt s 0)) 0 0 (-1)).2, true) else (0, 0, false)
/-! ### keys turned over -/
def mirP (p : Int) : Int := p / 3 * 3 + 2 - p % 3
def turnP (p : Int) : Int := 11 - p
theorem mirP_range {p : Int} (h : 0 ≤ p ∧ p ≤ 11) : 0 ≤ mirP p ∧ mirP p ≤ 11 := by unfold mirP; omega
theorem turnP_range {p : Int} (h : 0 ≤ p ∧ p ≤ 11) : 0 ≤ turnP p ∧ turnP p ≤ 11 := by unfold turnP; omega
theorem mir_spec {p : Int} (h : 0 ≤ p ∧ p ≤ 11) : wrap64 ((wrap64 (3 * (wrap64 (Int.tdiv p 3)))) + (wrap64 (2 - (Int.tmod p 3)))) = mirP p := by
  have key : ∀ n : Fin 12, wrap64 ((wrap64 (3 * (wrap64 (Int.tdiv (n.val : Int) 3)))) + (wrap64 (2 - (Int.tmod (n.val : Int) 3)))) = mirP (n.val : Int) := by decide +kernel
  have := key ⟨p.toNat, by omega⟩
  rwa [show ((p.toNat : Nat) : Int) = p by omega] at this
theorem turn_spec {p : Int} (h : 0 ≤ p ∧ p ≤ 11) : wrap64 ((wrap64 (3 * (wrap64 (3 - (wrap64 (Int.tdiv p 3)))))) + (wrap64 (2 - (Int.tmod p 3)))) = turnP p := by
  have key : ∀ n : Fin 12, wrap64 ((wrap64 (3 * (wrap64 (3 - (wrap64 (Int.tdiv (n.val : Int) 3)))))) + (wrap64 (2 - (Int.tmod (n.val : Int) 3)))) = turnP (n.val : Int) := by decide +kernel
  have := key ⟨p.toNat, by omega⟩
  rwa [show ((p.toNat : Nat) : Int) = p by omega] at this
theorem numsCons (a : Int) (L : List Int) : strOfNums (a :: L) = strOfNums [a] ++ strOfNums L := numsApp [a] L
def overT (s : ByteArray) (b : Bool) : ByteArray × Bool := if dialB s = true then (strOfNums ((placesN s).map fun p => padC (if b = true then turnP p else mirP p)), true) else (⟨#[]⟩, false)
end Go.Proofs.YthnjmokaiiajmaaDoor.Pu

