/- Parts of the proof (printed walks, lemmas of our own, contracts of the library laid for this program), merged into one text by wip/mclaim.py. Conditions: each theorem's own. -/
import Derived.Test.YtldnddehmpbbpaaGreatDoorM0
section
namespace Go.Proofs.YtldnddehmpbbpaaGreatDoor.P
open Go.RowKit Go.Proofs.YtldnddehmpbbpaaGreatDoorW.PrintWords Go.Proofs.YtldnddehmpbbpaaGreatDoorW.PrintLast Go.Proofs.YtldnddehmpbbpaaGreatDoorW.PrintMore
attribute [local go_sem] max2_int min2_int max_two min_two max_three min_three max_four min_four   -- for this text's walks alone
set_option linter.unusedVariables false
set_option linter.unusedSimpArgs false
structure impl_looker_from.Rv (w wr : World) (D : impl_newLooker.Dk) (b5 b6 b9 : Nat) (l r st pl : Int) : Prop where
  lk : impl_newLooker.Lk wr D
  kept : impl_newLooker.MK D w wr
  lim : D.lim ≤ w.heap.size
  h5 : wr.heap[b5]? = some (.cells #[.int .i64 l, .int .i64 r] 49 (0, 0))
  h6 : wr.heap[b6]? = some (.cells #[.int .i64 0, .int .i64 0] 60 (0, 0))
  h9 : wr.heap[b9]? = some (.cells #[.int .i64 st, .int .i64 pl] 60 (0, 0))
  g5 : w.heap.size ≤ b5
  g6 : w.heap.size ≤ b6
  g9 : b6 < b9
theorem impl_looker_from.Rv.grow {w wr w2 : World} {D : impl_newLooker.Dk} {b5 b6 b9 : Nat} {l r st pl : Int} (h : impl_looker_from.Rv w wr D b5 b6 b9 l r st pl) (hb : Below wr.heap.size wr w2) : impl_looker_from.Rv w w2 D b5 b6 b9 l r st pl where
  lk := h.lk.keep fun k hk => hb.block k (by have := h.lim; have := h.kept.size; omega)
  kept := h.kept.trans (impl_newLooker.MK.of_below hb)
  lim := h.lim
  h5 := blk_below h.h5 hb
  h6 := blk_below h.h6 hb
  h9 := blk_below h.h9 hb
  g5 := h.g5
  g6 := h.g6
  g9 := h.g9
theorem impl_looker_from.Rv.call {w wr w2 : World} {D : impl_newLooker.Dk} {b5 b6 b9 : Nat} {l r st pl : Int} (h : impl_looker_from.Rv w wr D b5 b6 b9 l r st pl) (hl : impl_newLooker.Lk w2 D) (hm : impl_newLooker.MK D wr w2) : impl_looker_from.Rv w w2 D b5 b6 b9 l r st pl where
  lk := hl
  kept := h.kept.trans hm
  lim := h.lim
  h5 := hm.blk h.lk h.h5
  h6 := hm.blk h.lk h.h6
  h9 := hm.blk h.lk h.h9
  g5 := h.g5
  g6 := h.g6
  g9 := h.g9
theorem impl_looker_from.keep_set {w wr : World} {D : impl_newLooker.Dk} (hl : impl_newLooker.Lk wr D) (hm : impl_newLooker.MK D w wr) (hlim : D.lim ≤ w.heap.size) {p : Addr} (hp : w.heap.size ≤ p.block) (u : Value) : impl_newLooker.Lk (wr.setCell p u) D ∧ impl_newLooker.MK D w (wr.setCell p u) :=
  ⟨hl.keep fun k hk => Below.heap_setCell wr p u k (by omega), hm.then_below ((Below.refl _ _).setCell hp u)⟩
theorem impl_looker_from.Rv.far {w wr : World} {D : impl_newLooker.Dk} {b5 b6 b9 : Nat} {l r st pl : Int} (h : impl_looker_from.Rv w wr D b5 b6 b9 l r st pl) {p : Addr} (hp : w.heap.size ≤ p.block) (n5 : b5 ≠ p.block) (n6 : b6 ≠ p.block) (n9 : b9 ≠ p.block) (u : Value) : impl_looker_from.Rv w (wr.setCell p u) D b5 b6 b9 l r st pl :=
  ⟨(impl_looker_from.keep_set h.lk h.kept h.lim hp u).1, (impl_looker_from.keep_set h.lk h.kept h.lim hp u).2, h.lim, (Below.heap_setCell wr p u _ n5).trans h.h5, (Below.heap_setCell wr p u _ n6).trans h.h6, (Below.heap_setCell wr p u _ n9).trans h.h9, h.g5, h.g6, h.g9⟩
theorem impl_looker_from.Rv.n59 {w wr : World} {D : impl_newLooker.Dk} {b5 b6 b9 : Nat} {l r st pl : Int} (h : impl_looker_from.Rv w wr D b5 b6 b9 l r st pl) : b5 ≠ b9 := fun e => by
  have h5 := h.h5
  rw [e, h.h9] at h5
  cases h5
theorem impl_looker_from.Rv.steps {w wr : World} {D : impl_newLooker.Dk} {b5 b6 b9 : Nat} {l r st pl : Int} (h : impl_looker_from.Rv w wr D b5 b6 b9 l r st pl) (x : Int) : impl_looker_from.Rv w (wr.setCell ⟨b9, 0, none⟩ (.int .i64 x)) D b5 b6 b9 l r x pl :=
  ⟨(impl_looker_from.keep_set h.lk h.kept h.lim (p := ⟨b9, 0, none⟩) (by show w.heap.size ≤ b9; have := h.g9; have := h.g6; omega) _).1, (impl_looker_from.keep_set h.lk h.kept h.lim (p := ⟨b9, 0, none⟩) (by show w.heap.size ≤ b9; have := h.g9; have := h.g6; omega) _).2, h.lim, (Below.heap_setCell wr _ _ _ h.n59).trans h.h5, (Below.heap_setCell wr _ _ _ (by show b6 ≠ b9; have := h.g9; omega)).trans h.h6, blk_put h.h9 0 _ rfl, h.g5, h.g6, h.g9⟩
theorem impl_looker_from.Rv.plans {w wr : World} {D : impl_newLooker.Dk} {b5 b6 b9 : Nat} {l r st pl : Int} (h : impl_looker_from.Rv w wr D b5 b6 b9 l r st pl) (x : Int) : impl_looker_from.Rv w (wr.setCell ⟨b9, 1, none⟩ (.int .i64 x)) D b5 b6 b9 l r st x :=
  ⟨(impl_looker_from.keep_set h.lk h.kept h.lim (p := ⟨b9, 1, none⟩) (by show w.heap.size ≤ b9; have := h.g9; have := h.g6; omega) _).1, (impl_looker_from.keep_set h.lk h.kept h.lim (p := ⟨b9, 1, none⟩) (by show w.heap.size ≤ b9; have := h.g9; have := h.g6; omega) _).2, h.lim, (Below.heap_setCell wr _ _ _ h.n59).trans h.h5, (Below.heap_setCell wr _ _ _ (by show b6 ≠ b9; have := h.g9; omega)).trans h.h6, blk_put h.h9 1 _ rfl, h.g5, h.g6, h.g9⟩
def impl_looker_from.At (c : Bool) (L : List Int) (l r p0 s p : Int) : Nat → Int → Int → Prop
  | 0, st, pl => st = -1 ∧ pl = 0 ∧ impl_newLooker.look c (p0 :: L) l r = some (s, p)
  | 1, st, pl => ∃ x y sd s1 q1, impl_thumbs_moved.f l r 1 p0 c = some (x, y, sd) ∧ impl_newLooker.look c L x y = some (s1, q1) ∧ impl_newLooker.rnd st pl s1 q1 sd = (s, p)
  | _, st, pl => st = s ∧ pl = p
theorem impl_looker_from.At.next {c : Bool} {L : List Int} {l r p0 s p : Int} {t : Nat} {st pl : Int} (h : impl_looker_from.At c L l r p0 s p t st pl) (ht : t < 2) :
    ∃ x y sd s1 q1, impl_thumbs_moved.f l r (t : Int) p0 c = some (x, y, sd) ∧ impl_newLooker.look c L x y = some (s1, q1) ∧ impl_looker_from.At c L l r p0 s p (t + 1) (impl_newLooker.rnd st pl s1 q1 sd).1 (impl_newLooker.rnd st pl s1 q1 sd).2 := by
  rcases t with _ | _ | t
  · obtain ⟨rfl, rfl, h⟩ := h
    rw [impl_newLooker.look] at h
    obtain ⟨⟨x, y, sd⟩, e0, h⟩ := Option.bind_eq_some_iff.1 h
    obtain ⟨⟨s0, q0⟩, e1, h⟩ := Option.bind_eq_some_iff.1 h
    obtain ⟨⟨x', y', sd'⟩, e2, h⟩ := Option.bind_eq_some_iff.1 h
    obtain ⟨⟨s1, q1⟩, e3, h⟩ := Option.bind_eq_some_iff.1 h
    exact ⟨x, y, sd, s0, q0, e0, e1, x', y', sd', s1, q1, e2, e3, Option.some.inj h⟩
  · obtain ⟨x, y, sd, s1, q1, e0, e1, e2⟩ := h
    exact ⟨x, y, sd, s1, q1, e0, e1, by rw [e2], by rw [e2]⟩
  · omega
theorem impl_looker_from.begin {w w3 : World} {D : impl_newLooker.Dk} {b5 b6 : Nat} {l r : Int} (hl : impl_newLooker.Lk w D) (hlim : D.lim ≤ w.heap.size) (hb : Below w.heap.size w w3) (h5 : w3.heap[b5]? = some (.cells #[.int .i64 l, .int .i64 r] 49 (0, 0))) (h6 : w3.heap[b6]? = some (.cells #[.int .i64 0, .int .i64 0] 60 (0, 0))) (g5 : w.heap.size ≤ b5) (g6 : w.heap.size ≤ b6) {b9 : Nat} {st pl : Int} (h9 : w3.heap[b9]? = some (.cells #[.int .i64 st, .int .i64 pl] 60 (0, 0))) (g9 : b6 < b9) : impl_looker_from.Rv w w3 D b5 b6 b9 l r st pl :=
  ⟨hl.keep fun k hk => hb.block k (by omega), impl_newLooker.MK.of_below hb, hlim, h5, h6, h9, g5, g6, g9⟩
theorem impl_looker_from.Rv.put {w wr : World} {D : impl_newLooker.Dk} {b5 b6 b9 i : Nat} {l r st pl : Int} {es es' : Array MapEntry} {cl cl' : Nat} (h : impl_looker_from.Rv w wr D b5 b6 b9 l r st pl) (hi : i ≤ D.L.length) (hm : wr.heap[D.ms.getD i 0]? = some (.map es cl)) (hg : impl_newLooker.Good (impl_newLooker.look D.c (D.L.drop i)) es') :
    impl_looker_from.Rv w (ChangeMaps.setBlock wr.drew (D.ms.getD i 0) (.map es' cl')) D b5 b6 b9 l r st pl := by
  have hsame := ChangeMaps.heap_setBlock_same (w := wr.drew) hm (.map es' cl')
  have hother : ∀ k, k ≠ D.ms.getD i 0 → (ChangeMaps.setBlock wr.drew (D.ms.getD i 0) (.map es' cl')).heap[k]? = wr.heap[k]? := fun k hk => ChangeMaps.heap_setBlock_other (w := wr.drew) hm _ hk
  have hmem := h.lk.mem hi
  have hne : ∀ {k : Nat}, k ∉ D.ms → k ≠ D.ms.getD i 0 := fun hk e => hk (e ▸ hmem)
  refine ⟨⟨(hother _ (hne (h.lk.cells_far h.lk.box))).trans h.lk.box, fun j hj => ?_, fun j hj => (impl_newLooker.cell_eq (hother _ (hne (h.lk.cell_far (h.lk.row j hj))))).trans (h.lk.row j hj), fun j hj => ?_, h.lk.len, h.lk.nodup, h.lk.lb_lt, h.lk.mb_lt, h.lk.ms_lt⟩, ⟨h.kept.os, h.kept.tape, h.kept.output, ?_, fun k hk hn => ?_⟩, h.lim, (hother _ (hne (h.lk.cells_far h.h5))).trans h.h5, (hother _ (hne (h.lk.cells_far h.h6))).trans h.h6, (hother _ (hne (h.lk.cells_far h.h9))).trans h.h9, h.g5, h.g6, h.g9⟩
  · obtain ⟨kb, ko, h1, h2, h3⟩ := h.lk.keys j hj
    exact ⟨kb, ko, h1, h2, (impl_newLooker.cell_eq (hother _ (hne (h.lk.cell_far h3)))).trans h3⟩
  · by_cases hji : D.ms.getD j 0 = D.ms.getD i 0
    · have e : j = i := by
        have l1 : j < D.ms.length := by rw [h.lk.len]; omega
        have l2 : i < D.ms.length := by rw [h.lk.len]; omega
        rw [List.getD_eq_getElem?_getD, List.getD_eq_getElem?_getD, List.getElem?_eq_getElem l1, List.getElem?_eq_getElem l2] at hji
        exact (List.getElem_inj h.lk.nodup).1 hji
      subst e
      exact ⟨es', cl', hsame, hg⟩
    · obtain ⟨es1, cl1, h1, h2⟩ := h.lk.maps j hj
      exact ⟨es1, cl1, (hother _ hji).trans h1, h2⟩
  · show w.heap.size ≤ (wr.heap.setIfInBounds _ _).size
    rw [Array.size_setIfInBounds]
    exact h.kept.size
  · exact (hother _ (hne hn)).trans (h.kept.block k hk hn)
theorem impl_looker_from.Rv.out_ {w wr : World} {D : impl_newLooker.Dk} {b5 b6 b9 : Nat} {l r st pl : Int} (h : impl_looker_from.Rv w wr D b5 b6 b9 l r st pl) (s p : Int) :
    ((wr.setCell ⟨b6, 0, none⟩ (.int .i64 s)).setCell ⟨b6, 1, none⟩ (.int .i64 p)).heap[b6]? = some (.cells #[.int .i64 s, .int .i64 p] 60 (0, 0)) ∧ impl_newLooker.Lk ((wr.setCell ⟨b6, 0, none⟩ (.int .i64 s)).setCell ⟨b6, 1, none⟩ (.int .i64 p)) D ∧ impl_newLooker.MK D w ((wr.setCell ⟨b6, 0, none⟩ (.int .i64 s)).setCell ⟨b6, 1, none⟩ (.int .i64 p)) := by
  have k1 := impl_looker_from.keep_set h.lk h.kept h.lim (p := ⟨b6, 0, none⟩) h.g6 (.int .i64 s)
  have k2 := impl_looker_from.keep_set k1.1 k1.2 h.lim (p := ⟨b6, 1, none⟩) h.g6 (.int .i64 p)
  exact ⟨blk_put (cs := #[.int .i64 s, .int .i64 0]) (blk_put (cs := #[.int .i64 0, .int .i64 0]) h.h6 0 _ rfl) 1 _ rfl, k2.1, k2.2⟩
theorem impl_looker_from.run_look2 {lk : Int → Int → Option (Int × Int)} {es : Array MapEntry} {m clock : Nat} {x y : Int} (h : impl_newLooker.Good lk es) (hx : impl_newLooker.rg x) (hy : impl_newLooker.rg y) :
    (∀ w : World, w.heap[m]? = some (.map es clock) → (Instr.lookup 98 (.map (some m)) (.agg #[.int .i64 x, .int .i64 y]) true).run Tryz.prog w = .ok (.tuple #[.agg #[.int .i64 0, .int .i64 0], .bool false]) w) ∨
    ∃ s p, lk x y = some (s, p) ∧ ∀ w : World, w.heap[m]? = some (.map es clock) → (Instr.lookup 98 (.map (some m)) (.agg #[.int .i64 x, .int .i64 y]) true).run Tryz.prog w = .ok (.tuple #[.agg #[.int .i64 s, .int .i64 p], .bool true]) w := by
  have hkey := impl_newLooker.key39 (impl_newLooker.wf hx) (impl_newLooker.wf hy)
  have hz : ∀ w, (zeroValue 60).run Tryz.prog w = .ok (.agg #[.int .i64 0, .int .i64 0]) w := fun w => by kernel_rfl
  by_cases hex : ∃ e, e ∈ es.toList ∧ e.key = .agg #[.int .i64 x, .int .i64 y]
  · obtain ⟨e1, he1, hk1⟩ := hex
    obtain ⟨x1, y1, s, p, _, _, hk1', hv1, hl1⟩ := h e1 he1
    have e := hk1'.symm.trans hk1
    simp only [Value.agg.injEq, Array.mk.injEq, List.cons.injEq, Value.int.injEq, true_and, and_true] at e
    obtain ⟨rfl, rfl⟩ := e
    refine Or.inr ⟨s, p, hl1, fun w hb => ?_⟩
    rcases impl_newLooker.law39.find w hkey es.toList h.keys with ⟨h1, h2⟩ | ⟨j, e0, h1, h2, h3⟩
    · exact absurd hk1 (h2 e1 he1)
    · obtain ⟨x', y', s', p', _, _, hk, hv, hl⟩ := h e0 (List.mem_of_getElem? h2)
      have e := hk.symm.trans h3
      simp only [Value.agg.injEq, Array.mk.injEq, List.cons.injEq, Value.int.injEq, true_and, and_true] at e
      obtain ⟨rfl, rfl⟩ := e
      obtain ⟨rfl, rfl⟩ := Prod.mk.inj (Option.some.inj (hl1.symm.trans hl))
      simp [Instr.lookup, run_underlying Tryz.underlying98, MapKept.run_getObj_map hb, impl_newLooker.law39.check w _ hkey, h1, hv, Result.andThen]
  · refine Or.inl fun w hb => ?_
    rcases impl_newLooker.law39.find w hkey es.toList h.keys with ⟨h1, h2⟩ | ⟨j, e0, h1, h2, h3⟩
    · simp [Instr.lookup, run_underlying Tryz.underlying98, MapKept.run_getObj_map hb, impl_newLooker.law39.check w _ hkey, h1, hz, Result.andThen]
    · exact absurd ⟨e0, List.mem_of_getElem? h2, h3⟩ hex
set_option maxHeartbeats 16000000 in
set_option maxRecDepth 100000 in
theorem impl_looker_from.calls0 (D : impl_newLooker.Dk) (hL : ∀ p ∈ D.L, impl_newLooker.rg p) (hD : D.L.length ≤ 1000) : ∀ (d i : Nat) (l r s p : Int) (w : World), i + d = D.L.length → impl_newLooker.rg l → impl_newLooker.rg r → impl_newLooker.look D.c (D.L.drop i) l r = some (s, p) → impl_newLooker.Lk w D → D.lim ≤ w.heap.size →
    Calls Tryz.prog 35 #[.pointer (some ⟨D.lb, 0, none⟩), .int .i64 i, .agg #[.int .i64 l, .int .i64 r]] w fun e w' => e = .returned (.agg #[.int .i64 s, .int .i64 p]) ∧ impl_newLooker.Lk w' D ∧ impl_newLooker.MK D w w' := by
  intro d
  induction d with
  | zero =>
    intro i l r s p w hi hl hr h HL hlim
    obtain rfl : i = D.L.length := by omega
    rw [List.drop_length] at h
    obtain ⟨rfl, rfl⟩ := Prod.mk.inj (Option.some.inj h)
    have c0 : w.cell? ⟨D.lb, 0, none⟩ = some (.slice D.A D.L.length D.kc) := (blk_cell HL.box 0).trans rfl
    have hlt := blk_lt HL.box
    have HLk := Aside0.mk HL
    clear HL h
    go_enter Tryz.func35, Tryz.ntmps35
    go_wp2
    have hb : Below w.heap.size w ((w.alloc (.cells #[.int .i64 l, .int .i64 r] 49)).alloc (.cells #[.int .i64 0, .int .i64 1] 60)) := below_alloc (below_alloc (Below.refl _ _) _) _
    refine bodyPost_ret (results_cell_row rfl _ _ (w.heap.size + 1) 60 #[.int .i64 0, .int .i64 1] (0, 0) _ rfl (by have := blk_new (w.alloc (.cells #[.int .i64 l, .int .i64 r] 49)) (.cells #[.int .i64 0, .int .i64 1] 60); simpa using this) Tryz.underlying60 rfl (by kernel_rfl)) rfl ⟨rfl, HLk.out.keep fun k hk => hb.block k (by omega), impl_newLooker.MK.of_below hb⟩
  | succ d ih =>
    intro i l r s p w hi hl hr h HL hlim
    have hil : i < D.L.length := by omega
    obtain ⟨p0, hp0⟩ : ∃ p0, p0 = D.L.getD i 0 := ⟨_, rfl⟩
    have hdr : D.L.drop i = p0 :: D.L.drop (i + 1) := by
      rw [List.drop_eq_getElem_cons hil, hp0, List.getD_eq_getElem?_getD, List.getElem?_eq_getElem hil]
      rfl
    have hr0 : impl_newLooker.rg p0 := hL p0 (by rw [hp0, List.getD_eq_getElem?_getD, List.getElem?_eq_getElem hil]; exact List.getElem_mem hil)
    obtain ⟨kb, ko, hkb, hA, hkc⟩ := HL.keys i hil
    rw [← hp0] at hkc
    obtain ⟨es, cl, hmap, hgood⟩ := HL.maps i (by omega)
    obtain ⟨mi, hmi⟩ : ∃ mi, mi = D.ms.getD i 0 := ⟨_, rfl⟩
    have hrow := HL.row i (by omega)
    rw [← hmi] at hmap hrow
    have hmem : mi ∈ D.ms := by rw [hmi]; exact HL.mem (by omega)
    have c0 : w.cell? ⟨D.lb, 0, none⟩ = some (.slice D.A D.L.length D.kc) := (blk_cell HL.box 0).trans rfl
    have hbx := blk_lt HL.box
    have hu39 := Tryz.underlying49
    have hwi : IntKind.i64.wrap ((i : Int) + 1) = (i : Int) + 1 := (i64_w _).trans (by unfold wrap64; omega)
    have HLk := Aside0.mk HL
    have H := Aside0.mk h
    have HG := Aside0.mk hgood
    have HM := Aside0.mk hmap
    have HK := Aside0.mk hkc
    have HR0 := Aside0.mk hrow
    have HIH := Aside0.mk ih
    have HDr := Aside0.mk hdr
    have HA := Aside0.mk hA
    have HP0 := Aside0.mk hp0
    clear HL h hgood hmap hkc hrow ih hdr hp0 hA
    have hne : ((i : Int) = (D.L.length : Int)) = False := eq_false (by omega)
    have hned : decide ((i : Int) = (D.L.length : Int)) = false := decide_eq_false (by omega)
    have hbq : ((i : Int) == (D.L.length : Int)) = false := beq_eq_false_iff_ne.2 (by omega)
    go_enter Tryz.func35, Tryz.ntmps35
    go_upto_region 3 with fail
    have hb : Below w.heap.size w ((w.alloc (.cells #[.int .i64 l, .int .i64 r] 49)).alloc (.cells #[.int .i64 0, .int .i64 0] 60)) := below_alloc (below_alloc (Below.refl _ _) _) _
    have h5 : ((w.alloc (.cells #[.int .i64 l, .int .i64 r] 49)).alloc (.cells #[.int .i64 0, .int .i64 0] 60)).heap[w.heap.size]? = some (.cells #[.int .i64 l, .int .i64 r] 49 (0, 0)) := blk_alloc (blk_new _ _) _
    have h6 : ((w.alloc (.cells #[.int .i64 l, .int .i64 r] 49)).alloc (.cells #[.int .i64 0, .int .i64 0] 60)).heap[w.heap.size + 1]? = some (.cells #[.int .i64 0, .int .i64 0] 60 (0, 0)) := by have := blk_new (w.alloc (.cells #[.int .i64 l, .int .i64 r] 49)) (.cells #[.int .i64 0, .int .i64 0] 60); simpa using this
    have hs1 : ((w.alloc (.cells #[.int .i64 l, .int .i64 r] 49)).alloc (.cells #[.int .i64 0, .int .i64 0] 60)).heap.size = w.heap.size + 2 := by simp
    generalize ((w.alloc (.cells #[.int .i64 l, .int .i64 r] 49)).alloc (.cells #[.int .i64 0, .int .i64 0] 60)) = W1 at *
    obtain ⟨b5, hb5⟩ : ∃ b5, b5 = w.heap.size := ⟨_, rfl⟩
    obtain ⟨b6, hb6⟩ : ∃ b6, b6 = w.heap.size + 1 := ⟨_, rfl⟩
    rw [← hb5] at h5
    rw [← hb6] at h6
    simp only [← hb5, ← hb6]
    have HB1 := Aside0.mk hb
    have H5 := Aside0.mk h5
    have H6 := Aside0.mk h6
    have HS1 := Aside0.mk hs1
    have HE5 := Aside0.mk hb5
    have HE6 := Aside0.mk hb6
    have HL1 : Aside0 (impl_newLooker.Lk W1 D) := ⟨HLk.out.keep fun k hk => hb.block k (by omega)⟩
    have HM1 : Aside0 (W1.heap[mi]? = some (.map es cl)) := ⟨blk_below HM.out hb⟩
    have HMi := Aside0.mk hmi
    clear hb h5 h6 hs1 hb5 hb6 c0 hmi
    have c0 : W1.cell? ⟨D.lb, 0, none⟩ = some (.slice D.A D.L.length D.kc) := (blk_cell HL1.out.box 0).trans rfl
    have c1 : W1.cell? ⟨D.lb, 1, none⟩ = some (.bool D.c) := (blk_cell HL1.out.box 1).trans rfl
    have c2 : W1.cell? ⟨D.lb, 2, none⟩ = some (.slice (some ⟨D.mb, 0, none⟩) (D.L.length + 1) D.mc) := (blk_cell HL1.out.box 2).trans rfl
    have c3 : W1.cell? ⟨D.mb, i, none⟩ = some (.map (some mi)) := by rw [HMi.out]; exact HL1.out.row i (by omega)
    have c5 : W1.cell? ⟨b5, 0, none⟩ = some (.int .i64 l) := (blk_cell H5.out 0).trans rfl
    have c6 : W1.cell? ⟨b5, 1, none⟩ = some (.int .i64 r) := (blk_cell H5.out 1).trans rfl
    have hlt5 : b5 < W1.heap.size := blk_lt H5.out
    have hltb : D.lb < W1.heap.size := blk_lt HL1.out.box
    have hltm : D.mb < W1.heap.size := by have := HL1.out.mb_lt; have := HS1.out; omega
    have hi1 : (i : Int) < (D.L.length : Int) + 1 := by omega
    have hi0 : (0 : Int) ≤ (i : Int) := Int.natCast_nonneg _
    rcases impl_looker_from.run_look2 (m := mi) (clock := cl) HG.out hl hr with hmiss | ⟨s', p', hlk, hhit⟩
    · have q1 := hmiss W1.drew HM1.out
      have q2 := hmiss ((W1.alloc (.cells #[.int .i64 0, .int .i64 0] 60)).drew) (blk_alloc (w := W1) HM1.out _)
      clear hmiss hmem
      go_region
      all_goals as_aux_lemma =>
        have hb2 : Below W1.heap.size W1 ((W1.alloc (.cells #[.int .i64 0, .int .i64 0] 60)).drew) := (below_alloc (Below.refl _ _) _).drew
        generalize (W1.alloc (.cells #[.int .i64 0, .int .i64 0] 60)).drew = W2 at *
        have HB2 : Aside0 (Below w.heap.size w W2) := ⟨below_step HB1.out hb2⟩
        have H52 := Aside0.mk (blk_below H5.out hb2)
        have H62 := Aside0.mk (blk_below H6.out hb2)
        clear c0 c1 c2 c3 c5 c6 q1 q2 HB1 H5 H6 HM1 HL1 hb2 hltb hltm hi1 HM HR0 hlt5
        go_upto_region 7 with fail
        have hR : impl_looker_from.Rv w (W2.alloc (.cells #[.int .i64 (-1), .int .i64 0] 60)) D b5 (b5 + 1) W2.heap.size l r (-1) 0 := by
          have e5 := HE5.out
          have e6 := HE6.out
          have h6 := H62.out
          rw [show b6 = b5 + 1 by omega] at h6
          refine impl_looker_from.begin HLk.out hlim (below_alloc HB2.out _) (blk_alloc H52.out _) (blk_alloc h6 _) (by omega) (by omega) (blk_new _ _) ?_
          exact blk_lt h6
        have HRv := Aside0.mk hR
        have HAt : Aside0 (impl_looker_from.At D.c (D.L.drop (i + 1)) l r p0 s p 0 (-1) 0) := ⟨⟨rfl, rfl, by rw [← HDr.out]; exact H.out⟩⟩
        generalize W2.alloc (.cells #[.int .i64 (-1), .int .i64 0] 60) = W3 at *
        obtain ⟨b9, hb9⟩ : ∃ b9, b9 = W2.heap.size := ⟨_, rfl⟩
        rw [← hb9] at HRv
        simp only [← hb9]
        have HH := H
        clear hR HB2 H52 H62 HDr H HG HK HLk hb9 HMi hbx
        go_wp2
        go_loopg [37] 2 (fun gg s37 wr => ∃ (t : Nat) (st pl : Int), s37 = .int .i64 (t : Int) ∧ t + gg = 2 ∧ Aside0 (impl_looker_from.At D.c (D.L.drop (i + 1)) l r p0 s p t st pl) ∧ Aside0 (impl_looker_from.Rv w wr D b5 (b5 + 1) b9 l r st pl))
        case atStart => exact ⟨0, -1, 0, rfl, rfl, HAt, HRv⟩
        case round =>
          clear HAt HRv
          obtain ⟨t, st, pl, rfl, ht, HAt, HRv⟩ := hrel
          by_cases hlt : t < 2
          · obtain ⟨g, rfl⟩ : ∃ g, gk = g + 1 := ⟨gk - 1, by omega⟩
            obtain ⟨x, y, sd, s1, q1, hmv, hlk, hat⟩ := HAt.out.next hlt
            have HAt' := Aside0.mk hat
            have HMv : Aside0 (∀ W, Calls Tryz.prog 34 #[.agg #[.int .i64 l, .int .i64 r], .int .i64 (t : Int), .int .i64 p0, .bool D.c] W fun e w' => e = .returned (.tuple #[.agg #[.int .i64 x, .int .i64 y], .int .i64 sd]) ∧ Below W.heap.size W w') := ⟨fun W => impl_thumbs_moved.calls l r t p0 D.c x y sd W hmv⟩
            obtain ⟨hx, hy⟩ := impl_newLooker.moved_rg hmv hl hr hr0
            have HCl : Aside0 (∀ W, impl_newLooker.Lk W D → D.lim ≤ W.heap.size → Calls Tryz.prog 35 #[.pointer (some ⟨D.lb, 0, none⟩), .int .i64 ((i : Int) + 1), .agg #[.int .i64 x, .int .i64 y]] W fun e w' => e = .returned (.agg #[.int .i64 s1, .int .i64 q1]) ∧ impl_newLooker.Lk w' D ∧ impl_newLooker.MK D W w') := ⟨fun W h1 h2 => HIH.out (i + 1) x y s1 q1 W (by omega) hx hy hlk h1 h2⟩
            clear HAt hat hmv hx hy hlk
            have ht0 : (t : Int) < 2 := by omega
            have c0 : wr.cell? ⟨D.lb, 0, none⟩ = some (.slice (some ⟨kb, ko, none⟩) D.L.length D.kc) := by rw [← HA.out]; exact (blk_cell HRv.out.lk.box 0).trans rfl
            have c1 : wr.cell? ⟨D.lb, 1, none⟩ = some (.bool D.c) := (blk_cell HRv.out.lk.box 1).trans rfl
            have c3 : wr.cell? ⟨kb, ko + i, none⟩ = some (.int .i64 p0) := by
              obtain ⟨kb', ko', _, hA', hk'⟩ := HRv.out.lk.keys i hil
              cases (HA.out.symm.trans hA')
              rw [HP0.out]
              exact hk'
            have c5 : wr.cell? ⟨b5, 0, none⟩ = some (.int .i64 l) := (blk_cell HRv.out.h5 0).trans rfl
            have c6 : wr.cell? ⟨b5, 1, none⟩ = some (.int .i64 r) := (blk_cell HRv.out.h5 1).trans rfl
            have l5 : b5 < wr.heap.size := blk_lt HRv.out.h5
            have lb_ : D.lb < wr.heap.size := blk_lt HRv.out.lk.box
            have lk_ : kb < wr.heap.size := World.block_lt_of_cell? _ _ c3
            go_upto_region 10 with fail
            have n5 : wr.heap.size ≠ b5 := by omega
            have nb_ : wr.heap.size ≠ D.lb := by omega
            have nk_ : wr.heap.size ≠ kb := by omega
            go_region_held3 (fun w' => w'.cell? ⟨b5, 0, none⟩ = some (.int .i64 l) ∧ w'.cell? ⟨b5, 1, none⟩ = some (.int .i64 r) ∧ w'.cell? ⟨D.lb, 0, none⟩ = some (.slice (some ⟨kb, ko, none⟩) D.L.length D.kc) ∧ w'.cell? ⟨D.lb, 1, none⟩ = some (.bool D.c) ∧ w'.cell? ⟨kb, ko + i, none⟩ = some (.int .i64 p0)) (first | go_keep | (have a0 := (hb.cell (p := ⟨b5, 0, none⟩) l5).trans c5; have a1 := (hb.cell (p := ⟨b5, 1, none⟩) l5).trans c6; have a2 := (hb.cell (p := ⟨D.lb, 0, none⟩) lb_).trans c0; have a3 := (hb.cell (p := ⟨D.lb, 1, none⟩) lb_).trans c1; have a4 := (hb.cell (p := ⟨kb, ko + i, none⟩) lk_).trans c3; go_keep) | (go_split_ands; exact ⟨(hb.cell (World.block_lt_of_cell? _ _ (by assumption))).trans (by assumption), (hb.cell (World.block_lt_of_cell? _ _ (by assumption))).trans (by assumption), (hb.cell (World.block_lt_of_cell? _ _ (by assumption))).trans (by assumption), (hb.cell (World.block_lt_of_cell? _ _ (by assumption))).trans (by assumption), (hb.cell (World.block_lt_of_cell? _ _ (by assumption))).trans (by assumption)⟩)) (first | (go_at_call 34; refine (HMv.out _).mono ?_; rintro e w' ⟨rfl, hb⟩; (try (have zz : w'.heap[wr.heap.size]? = some (.cells #[.int .i64 0, .int .i64 0] 49 (0, 0)) := blk_below (blk_new wr _) (((Below.refl _ _).drew).trans hb); have z0 : w'.cell? ⟨wr.heap.size, 0, none⟩ = some (.int .i64 0) := (blk_cell zz 0).trans rfl; have z1 : w'.cell? ⟨wr.heap.size, 1, none⟩ = some (.int .i64 0) := (blk_cell zz 1).trans rfl; have z2 := blk_frozen zz 0; have z3 := blk_frozen zz 1; have z4 := blk_lt zz))))
            all_goals first
              | (have hbw : Below wr.heap.size wr (w'.alloc (.cells #[.int .i64 x, .int .i64 y] 49)) := below_alloc (((Below.refl _ _).drew).trans hb) _
                 have h11 := blk_new w' (.cells #[.int .i64 x, .int .i64 y] 49)
                 have g11 : wr.heap.size ≤ w'.heap.size := hb.size
                 clear hb
                 generalize w'.alloc (.cells #[.int .i64 x, .int .i64 y] 49) = W4 at *
                 generalize w'.heap.size = b11 at *)
              | (have hbw : Below wr.heap.size wr ((w'.setCell ⟨wr.heap.size, 0, none⟩ (.int .i64 x)).setCell ⟨wr.heap.size, 1, none⟩ (.int .i64 y)) := below_set (below_set (((below_alloc (Below.refl wr.heap.size wr) _).drew).trans (hb.mono (by simp))) (Nat.le_refl _)) (Nat.le_refl _)
                 have h11 : ((w'.setCell ⟨wr.heap.size, 0, none⟩ (.int .i64 x)).setCell ⟨wr.heap.size, 1, none⟩ (.int .i64 y)).heap[wr.heap.size]? = some (.cells #[.int .i64 x, .int .i64 y] 49 (0, 0)) := blk_put (cs := #[.int .i64 x, .int .i64 0]) (blk_put (cs := #[.int .i64 0, .int .i64 0]) zz 0 _ rfl) 1 _ rfl
                 clear hb zz z0 z1 z2 z3 z4
                 generalize ((w'.setCell ⟨wr.heap.size, 0, none⟩ (.int .i64 x)).setCell ⟨wr.heap.size, 1, none⟩ (.int .i64 y)) = W4 at *
                 obtain ⟨b11, hb11⟩ : ∃ b11, b11 = wr.heap.size := ⟨_, rfl⟩
                 have g11 : wr.heap.size ≤ b11 := by omega
                 rw [← hb11] at h11
                 simp only [← hb11]
                 clear hb11)
            all_goals as_aux_lemma =>
              have HR4 := Aside0.mk (HRv.out.grow hbw)
              have H11 := Aside0.mk h11
              have hlim4 : Aside0 (D.lim ≤ W4.heap.size) := ⟨by have := hbw.size; have := HRv.out.kept.size; omega⟩
              clear c0 c1 c3 c5 c6 n5 nb_ nk_ l5 lb_ lk_ hbw h11 HRv HMv
              have e0 : W4.cell? ⟨b11, 0, none⟩ = some (.int .i64 x) := (blk_cell H11.out 0).trans rfl
              have e1 : W4.cell? ⟨b11, 1, none⟩ = some (.int .i64 y) := (blk_cell H11.out 1).trans rfl
              go_upto_region 12 with (first | (go_at_call 35; refine (HCl.out _ HR4.out.lk hlim4.out).mono ?_; rintro e w5 ⟨rfl, hlk5, hmk5⟩))
              have HR5 := Aside0.mk ((HR4.out.call hlk5 hmk5).grow (below_alloc (Below.refl _ _) (.cells #[.int .i64 s1, .int .i64 q1] 60)))
              have h13 := blk_new w5 (.cells #[.int .i64 s1, .int .i64 q1] 60)
              have hf5 := blk_lt (HR4.out.call hlk5 hmk5).h5
              have hf6 := blk_lt (HR4.out.call hlk5 hmk5).h6
              have hf9 := blk_lt (HR4.out.call hlk5 hmk5).h9
              have hfw : w.heap.size ≤ w5.heap.size := (HR4.out.call hlk5 hmk5).kept.size
              clear hlk5 hmk5 HR4 H11 e0 e1 hlim4 HCl
              generalize w5.alloc (.cells #[.int .i64 s1, .int .i64 q1] 60) = W6 at *
              generalize w5.heap.size = b13 at *
              have e0 : W6.cell? ⟨b13, 0, none⟩ = some (.int .i64 s1) := (blk_cell h13 0).trans rfl
              have e1 := blk_frozen h13 0
              obtain ⟨u, hu⟩ : ∃ u, u = wrap64 (s1 + sd) := ⟨_, rfl⟩
              have hwu : IntKind.i64.wrap (s1 + sd) = u := by rw [i64_w, hu]
              have HU := Aside0.mk hu
              clear hu
              go_upto_region 13 with fail
              have HR7 := Aside0.mk (HR5.out.far (p := ⟨b13, 0, none⟩) hfw (Nat.ne_of_lt hf5) (Nat.ne_of_lt hf6) (Nat.ne_of_lt hf9) (.int .i64 u))
              have h14 : (W6.setCell ⟨b13, 0, none⟩ (.int .i64 u)).heap[b13]? = some (.cells #[.int .i64 u, .int .i64 q1] 60 (0, 0)) := blk_put h13 0 _ rfl
              clear h13 HR5 e0 e1 hf5 hf6 hfw
              generalize W6.setCell ⟨b13, 0, none⟩ (.int .i64 u) = W7 at *
              have e0 : W7.cell? ⟨b13, 0, none⟩ = some (.int .i64 u) := (blk_cell h14 0).trans rfl
              have e1 : W7.cell? ⟨b13, 1, none⟩ = some (.int .i64 q1) := (blk_cell h14 1).trans rfl
              have e2 : W7.cell? ⟨b9, 0, none⟩ = some (.int .i64 st) := (blk_cell HR7.out.h9 0).trans rfl
              have e3 : W7.cell? ⟨b9, 1, none⟩ = some (.int .i64 pl) := (blk_cell HR7.out.h9 1).trans rfl
              have e4 := blk_frozen HR7.out.h9 0
              have e5 := blk_frozen HR7.out.h9 1
              have hwt : IntKind.i64.wrap ((t : Int) + 1) = (t : Int) + 1 := (i64_w _).trans (by unfold wrap64; omega)
              have H14 := Aside0.mk h14
              clear h14
              as_aux_lemma =>
              by_cases k1 : st < 0
              · have hrn : impl_newLooker.rnd st pl s1 q1 sd = (u, q1) := by
                  unfold impl_newLooker.rnd
                  rw [← HU.out, if_pos (Or.inl k1)]
                have HA9 : Aside0 (impl_looker_from.At D.c (D.L.drop (i + 1)) l r p0 s p (t + 1) u q1) := ⟨by have := HAt'.out; rw [hrn] at this; exact this⟩
                have HR9 := Aside0.mk ((HR7.out.steps u).plans q1)
                have k2 : decide (st < 0) = true := decide_eq_true k1
                clear HAt' HR7 hrn HU H14
                go_wp2
                go_roundg g
                case measure => omega
                case rel => exact ⟨t + 1, u, q1, by go_num, by omega, HA9, HR9⟩
              · have k2 : decide (st < 0) = false := decide_eq_false k1
                by_cases k3 : u < st
                · have hrn : impl_newLooker.rnd st pl s1 q1 sd = (u, q1) := by
                    unfold impl_newLooker.rnd
                    rw [← HU.out, if_pos (Or.inr k3)]
                  have HA9 : Aside0 (impl_looker_from.At D.c (D.L.drop (i + 1)) l r p0 s p (t + 1) u q1) := ⟨by have := HAt'.out; rw [hrn] at this; exact this⟩
                  have HR9 := Aside0.mk ((HR7.out.steps u).plans q1)
                  have k4 : decide (u < st) = true := decide_eq_true k3
                  clear HAt' HR7 hrn HU H14
                  go_wp2
                  go_roundg g
                  case measure => omega
                  case rel => exact ⟨t + 1, u, q1, by go_num, by omega, HA9, HR9⟩
                · have k4 : decide (u < st) = false := decide_eq_false k3
                  have hno : ¬ (st < 0 ∨ u < st) := by omega
                  by_cases k5 : u = st
                  · have hrn : impl_newLooker.rnd st pl s1 q1 sd = (st, wrap64 (pl + q1)) := by
                      unfold impl_newLooker.rnd
                      rw [← HU.out, if_neg hno, if_pos k5]
                    obtain ⟨v, hv⟩ : ∃ v, v = wrap64 (pl + q1) := ⟨_, rfl⟩
                    rw [← hv] at hrn
                    have hwv : IntKind.i64.wrap (pl + q1) = v := by rw [i64_w, hv]
                    have HA9 : Aside0 (impl_looker_from.At D.c (D.L.drop (i + 1)) l r p0 s p (t + 1) st v) := ⟨by have := HAt'.out; rw [hrn] at this; exact this⟩
                    have HR9 := Aside0.mk (HR7.out.plans v)
                    clear HAt' HR7 hrn HU H14 hv
                    go_wp2
                    go_roundg g
                    case measure => omega
                    case rel => exact ⟨t + 1, st, v, by go_num, by omega, HA9, HR9⟩
                  · have hrn : impl_newLooker.rnd st pl s1 q1 sd = (st, pl) := by
                      unfold impl_newLooker.rnd
                      rw [← HU.out, if_neg hno, if_neg k5]
                    have HA9 : Aside0 (impl_looker_from.At D.c (D.L.drop (i + 1)) l r p0 s p (t + 1) st pl) := ⟨by have := HAt'.out; rw [hrn] at this; exact this⟩
                    have HR9 := HR7
                    clear HAt' HR7 hrn HU H14
                    go_wp2
                    go_roundg g
                    case measure => omega
                    case rel => exact ⟨t + 1, st, pl, by go_num, by omega, HA9, HR9⟩
          · obtain rfl : gk = 0 := by omega
            obtain rfl : t = 2 := by omega
            obtain ⟨rfl, rfl⟩ := HAt.out
            obtain ⟨es2, cl2, hm2, hg2⟩ := HRv.out.lk.maps i (by omega)
            obtain ⟨es3, cl3, hrun, hg3⟩ := impl_newLooker.run_put (w := wr.drew) hm2 hg2 hl hr (show impl_newLooker.look D.c (D.L.drop i) l r = some (st, pl) from HH.out)
            have HR3 := Aside0.mk (HRv.out.put (cl' := cl3) (by omega) hm2 hg3)
            obtain ⟨mi, hmi⟩ : ∃ mi, mi = D.ms.getD i 0 := ⟨_, rfl⟩
            rw [← hmi] at hrun HR3
            have c2 : wr.cell? ⟨D.lb, 2, none⟩ = some (.slice (some ⟨D.mb, 0, none⟩) (D.L.length + 1) D.mc) := (blk_cell HRv.out.lk.box 2).trans rfl
            have c3 : wr.cell? ⟨D.mb, i, none⟩ = some (.map (some mi)) := by rw [hmi]; exact HRv.out.lk.row i (by omega)
            have c5 : wr.cell? ⟨b5, 0, none⟩ = some (.int .i64 l) := (blk_cell HRv.out.h5 0).trans rfl
            have c6 : wr.cell? ⟨b5, 1, none⟩ = some (.int .i64 r) := (blk_cell HRv.out.h5 1).trans rfl
            have c7 : wr.cell? ⟨b9, 0, none⟩ = some (.int .i64 st) := (blk_cell HRv.out.h9 0).trans rfl
            have c8 : wr.cell? ⟨b9, 1, none⟩ = some (.int .i64 pl) := (blk_cell HRv.out.h9 1).trans rfl
            have hi1 : (i : Int) < (D.L.length : Int) + 1 := by omega
            have hd2 : decide ((2 : Int) < 2) = false := by decide
            clear HRv hmi hm2 hg2 hg3
            go_upto_region 18 with fail
            go_region
            all_goals as_aux_lemma =>
              generalize ChangeMaps.setBlock wr.drew mi (.map es3 cl3) = W9 at *
              have d0 : W9.cell? ⟨b9, 0, none⟩ = some (.int .i64 st) := (blk_cell HR3.out.h9 0).trans rfl
              have d1 : W9.cell? ⟨b9, 1, none⟩ = some (.int .i64 pl) := (blk_cell HR3.out.h9 1).trans rfl
              have d2 : W9.cell? ⟨b5 + 1, 0, none⟩ = some (.int .i64 0) := (blk_cell HR3.out.h6 0).trans rfl
              have d3 : W9.cell? ⟨b5 + 1, 1, none⟩ = some (.int .i64 0) := (blk_cell HR3.out.h6 1).trans rfl
              have d4 := blk_frozen HR3.out.h6 0
              have d5 := blk_frozen HR3.out.h6 1
              clear c2 c3 c5 c6 c7 c8 hrun
              go_wp2
              obtain ⟨o1, o2, o3⟩ := HR3.out.out_ st pl
              exact bodyPost_ret (results_cell_row rfl _ _ (b5 + 1) 60 #[.int .i64 st, .int .i64 pl] (0, 0) _ rfl o1 Tryz.underlying60 rfl (by kernel_rfl)) rfl ⟨rfl, o2, o3⟩
    · have q1 := hhit W1.drew HM1.out
      have q2 := hhit ((W1.alloc (.cells #[.int .i64 0, .int .i64 0] 60)).drew) (blk_alloc (w := W1) HM1.out _)
      have hsp : (s', p') = (s, p) := Option.some.inj (hlk.symm.trans H.out)
      obtain ⟨rfl, rfl⟩ := Prod.mk.inj hsp
      have h6 := H6.out
      rw [show b6 = b5 + 1 by have := HE5.out; have := HE6.out; omega] at h6
      have H6' := Aside0.mk h6
      clear hhit hmem hlk hsp h6 H6
      go_region
      all_goals as_aux_lemma =>
        have hb2 : Below W1.heap.size W1 ((W1.alloc (.cells #[.int .i64 s', .int .i64 p'] 60)).drew) := (below_alloc (Below.refl _ _) _).drew
        have h7 : ((W1.alloc (.cells #[.int .i64 s', .int .i64 p'] 60)).drew).heap[W1.heap.size]? = some (.cells #[.int .i64 s', .int .i64 p'] 60 (0, 0)) := blk_new W1 _
        generalize ((W1.alloc (.cells #[.int .i64 s', .int .i64 p'] 60)).drew) = W2 at *
        have HR : Aside0 (impl_looker_from.Rv w W2 D b5 (b5 + 1) W1.heap.size l r s' p') := ⟨impl_looker_from.begin HLk.out hlim (below_step HB1.out hb2) (blk_below H5.out hb2) (blk_below H6'.out hb2) (by have := HE5.out; omega) (by have := HE5.out; omega) h7 (blk_lt H6'.out)⟩
        clear c0 c1 c2 c3 c5 c6 q1 q2 hb2 h7 HB1 H5 H6' HM1 HL1 HM HR0 hltb hltm
        have d0 : W2.cell? ⟨W1.heap.size, 0, none⟩ = some (.int .i64 s') := (blk_cell HR.out.h9 0).trans rfl
        have d1 : W2.cell? ⟨W1.heap.size, 1, none⟩ = some (.int .i64 p') := (blk_cell HR.out.h9 1).trans rfl
        have d2 : W2.cell? ⟨b5 + 1, 0, none⟩ = some (.int .i64 0) := (blk_cell HR.out.h6 0).trans rfl
        have d3 : W2.cell? ⟨b5 + 1, 1, none⟩ = some (.int .i64 0) := (blk_cell HR.out.h6 1).trans rfl
        have d4 := blk_frozen HR.out.h6 0
        have d5 := blk_frozen HR.out.h6 1
        go_wp2
        obtain ⟨o1, o2, o3⟩ := HR.out.out_ s' p'
        exact bodyPost_ret (results_cell_row rfl _ _ (b5 + 1) 60 #[.int .i64 s', .int .i64 p'] (0, 0) _ rfl o1 Tryz.underlying60 rfl (by kernel_rfl)) rfl ⟨rfl, o2, o3⟩
def impl_looker_from.f (_k : Nat) (t : List Int × Bool) (i l r : Int) : Option (Int × Int) := if 0 ≤ i ∧ i ≤ (t.1.length : Int) ∧ t.1.length ≤ 1000 ∧ (0 ≤ l ∧ l ≤ 11) ∧ (0 ≤ r ∧ r ≤ 11) ∧ (t.1.all fun p => decide (0 ≤ p) && decide (p ≤ 11)) = true then impl_newLooker.look t.2 (t.1.drop i.toNat) l r else none
theorem impl_looker_from.mono : ∀ t i l r k, LeO (impl_looker_from.f k t i l r) (impl_looker_from.f (k + 1) t i l r) := fun _ _ _ _ _ => LeO.refl _
theorem impl_looker_from.calls (k : Nat) (t : List Int × Bool) (i l r s p : Int) (w : World) (h : impl_looker_from.f k t i l r = some (s, p)) (D : impl_newLooker.Dk) (hDL : D.L = t.1) (hDc : D.c = t.2) (HL : impl_newLooker.Lk w D) (hlim : D.lim ≤ w.heap.size) :
    Calls Tryz.prog 35 #[.pointer (some ⟨D.lb, 0, none⟩), .int .i64 i, .agg #[.int .i64 l, .int .i64 r]] w fun e w' => e = .returned (.agg #[.int .i64 s, .int .i64 p]) ∧ impl_newLooker.Lk w' D ∧ impl_newLooker.MK D w w' := by
  unfold impl_looker_from.f at h
  split at h
  · rename_i hc
    obtain ⟨h0, h1, h2, h3, h4, h5⟩ := hc
    obtain ⟨j, rfl⟩ : ∃ j : Nat, i = (j : Int) := ⟨i.toNat, by omega⟩
    rw [Int.toNat_natCast, ← hDL, ← hDc] at h
    rw [← hDL] at h1 h2 h5
    refine impl_looker_from.calls0 D (fun q hq => ?_) h2 (D.L.length - j) j l r s p w (by omega) h3 h4 h HL hlim
    have := List.all_eq_true.1 h5 q hq
    simp only [Bool.and_eq_true, decide_eq_true_eq] at this
    exact this
  · cases h
end Go.Proofs.YtldnddehmpbbpaaGreatDoor.P
end

section
namespace Go.Proofs.YtldnddehmpbbpaaGreatDoor.P
open Go.RowKit Go.Proofs.YtldnddehmpbbpaaGreatDoorW.PrintWords Go.Proofs.YtldnddehmpbbpaaGreatDoorW.PrintLast Go.Proofs.YtldnddehmpbbpaaGreatDoorW.PrintMore
attribute [local go_sem] max2_int min2_int max_two min_two max_three min_three max_four min_four   -- for this text's walks alone
set_option linter.unusedVariables false
set_option linter.unusedSimpArgs false
def impl_FirstThumbs.go (c : Bool) (t : List Int × Bool) : Nat → Nat → Int → Int → List Int → Option (List Int)
  | 0, _, _, _, acc => some acc
  | d + 1, i, l, r, acc => (impl_thumbs_moved.f l r 0 (t.1.getD i 0) c).bind fun m0 => (impl_looker_from.f 0 t ((i : Int) + 1) m0.1 m0.2.1).bind fun o0 => (impl_looker_from.f 0 t (i : Int) l r).bind fun o => if o.1 < wrap64 (m0.2.2 + o0.1) then (impl_thumbs_moved.f l r 1 (t.1.getD i 0) c).bind fun m1 => impl_FirstThumbs.go c t d (i + 1) m1.1 m1.2.1 (acc ++ [1]) else impl_FirstThumbs.go c t d (i + 1) m0.1 m0.2.1 (acc ++ [0])
def impl_FirstThumbs.f (k : Nat) (a0 a1 a2 : ByteArray) (a3 : Bool) : Option (List Int × Bool) := (impl_thumbsOk.f k a0 a1 a2).bind fun b => (if b.2.2 = true then ((impl_newLooker.f k a0 a3).bind fun t => (if t.1.length ≤ 1000 then ((impl_FirstThumbs.go a3 t t.1.length 0 b.1 b.2.1 []).bind fun out => some (out, true)) else none)) else (some ([], false)))
theorem impl_FirstThumbs.mono : ∀ a0 a1 a2 a3 k, LeO (impl_FirstThumbs.f k a0 a1 a2 a3) (impl_FirstThumbs.f (k + 1) a0 a1 a2 a3) := by
  intro a0 a1 a2 a3 k
  unfold impl_FirstThumbs.f
  refine LeO.bind (impl_thumbsOk.mono _ _ _ _) (fun _ => ?_)
  refine LeO.ite ?_ (LeO.refl _)
  exact LeO.bind (impl_newLooker.mono _ _ _) (fun _ => LeO.refl _)
structure impl_FirstThumbs.Fs (w wr : World) (D : impl_newLooker.Dk) (B B2 b10 : Nat) (l r : Int) : Prop where
  lk : impl_newLooker.Lk wr D
  lo : impl_newLooker.Lo B D
  below : Below w.heap.size w wr
  lim : D.lim ≤ B2
  size : B2 ≤ wr.heap.size
  h10 : wr.heap[b10]? = some (.cells #[.int .i64 l, .int .i64 r] 49 (0, 0))
  g10 : w.heap.size ≤ b10
  l10 : b10 < B
theorem impl_FirstThumbs.Fs.lt2 {w wr : World} {D : impl_newLooker.Dk} {B B2 b10 : Nat} {l r : Int} (h : impl_FirstThumbs.Fs w wr D B B2 b10 l r) : b10 < B2 := by
  have := h.l10
  have := h.lo.lb
  have := h.lk.lb_lt
  have := h.lim
  omega
theorem impl_FirstThumbs.Fs.grow {w wr w2 : World} {D : impl_newLooker.Dk} {B B2 b10 : Nat} {l r : Int} (h : impl_FirstThumbs.Fs w wr D B B2 b10 l r) (hb : Below wr.heap.size wr w2) : impl_FirstThumbs.Fs w w2 D B B2 b10 l r :=
  ⟨h.lk.keep fun k hk => hb.block k (by have := h.lim; have := h.size; omega), h.lo, below_step h.below hb, h.lim, Nat.le_trans h.size hb.size, blk_below h.h10 hb, h.g10, h.l10⟩
theorem impl_FirstThumbs.Fs.call {w wr w2 : World} {D : impl_newLooker.Dk} {B B2 b10 : Nat} {l r : Int} (h : impl_FirstThumbs.Fs w wr D B B2 b10 l r) (hl : impl_newLooker.Lk w2 D) (hm : impl_newLooker.MK D wr w2) : impl_FirstThumbs.Fs w w2 D B B2 b10 l r :=
  ⟨hl, h.lo, hm.below h.below h.below.size (fun m hmm => by have := h.lo.ms m hmm; have := h.l10; have := h.g10; omega), h.lim, Nat.le_trans h.size hm.size, hm.blk h.lk h.h10, h.g10, h.l10⟩
theorem impl_FirstThumbs.Fs.put {w wr : World} {D : impl_newLooker.Dk} {B B2 b10 : Nat} {l r : Int} (h : impl_FirstThumbs.Fs w wr D B B2 b10 l r) (x y : Int) : impl_FirstThumbs.Fs w ((wr.setCell ⟨b10, 0, none⟩ (.int .i64 x)).setCell ⟨b10, 1, none⟩ (.int .i64 y)) D B B2 b10 x y :=
  ⟨(h.lk.far h.lo (p := ⟨b10, 0, none⟩) h.l10 _).far h.lo (p := ⟨b10, 1, none⟩) h.l10 _, h.lo, below_set (below_set h.below h.g10) h.g10, h.lim, by simpa using h.size, blk_put (cs := #[.int .i64 x, .int .i64 r]) (blk_put h.h10 0 _ rfl) 1 _ rfl, h.g10, h.l10⟩
theorem impl_FirstThumbs.Fs.far {w wr : World} {D : impl_newLooker.Dk} {B B2 b10 : Nat} {l r : Int} (h : impl_FirstThumbs.Fs w wr D B B2 b10 l r) {p : Addr} (hp : B2 ≤ p.block) (u : Value) : impl_FirstThumbs.Fs w (wr.setCell p u) D B B2 b10 l r :=
  ⟨h.lk.keep fun k hk => Below.heap_setCell wr p u k (by have := h.lim; omega), h.lo, h.below.setCell (by have := h.lt2; have := h.g10; omega) _, h.lim, by simpa using h.size, (Below.heap_setCell wr p u _ (by have := h.lt2; omega)).trans h.h10, h.g10, h.l10⟩
theorem impl_FirstThumbs.Fs.grown {w wr w2 : World} {D : impl_newLooker.Dk} {B B2 b10 : Nat} {l r : Int} {v : Value} (h : impl_FirstThumbs.Fs w wr D B B2 b10 l r) (hg : wr.grownBy w2 v.ownBlock) (hv : ∀ k, v.ownBlock = some k → B2 ≤ k) : impl_FirstThumbs.Fs w w2 D B B2 b10 l r :=
  ⟨h.lk.keep fun k hk => hg.block k (by have := h.lim; have := h.size; omega) (fun e => by have := hv k e.symm; have := h.lim; omega), h.lo, Below.grown h.below hg h.below.size (fun k hk => by have := hv k hk; have := h.lt2; have := h.g10; omega), h.lim, Nat.le_trans h.size hg.size, blk_grown h.h10 hg (fun e => by have := hv _ e.symm; have := h.lt2; omega), h.g10, h.l10⟩
theorem impl_FirstThumbs.own_grow {wr w2 : World} {B : Nat} {e : TypeId} {v : Value} {n : Nat} {xs : List Value} (h : wr.ownsRow B e 1 v n xs) (hb : Below wr.heap.size wr w2) : w2.ownsRow B e 1 v n xs :=
  Go.Proofs.YtldnddehmpbbpaaGreatDoorW.PrintWords.own_move h fun k hk => hb.block k (Go.Proofs.YtldnddehmpbbpaaGreatDoorW.PrintWords.own_lt h k hk)
theorem impl_FirstThumbs.own_call {wr w2 : World} {D : impl_newLooker.Dk} {B : Nat} {e : TypeId} {v : Value} {n : Nat} {xs : List Value} (h : wr.ownsRow B e 1 v n xs) (hl : impl_newLooker.Lk wr D) (hm : impl_newLooker.MK D wr w2) : w2.ownsRow B e 1 v n xs :=
  Go.Proofs.YtldnddehmpbbpaaGreatDoorW.PrintWords.own_move h fun k hk => by
    obtain ⟨cells, hc⟩ := Go.Proofs.YtldnddehmpbbpaaGreatDoorW.PrintWords.own_typed h k hk
    exact hm.block k (Go.Proofs.YtldnddehmpbbpaaGreatDoorW.PrintWords.own_lt h k hk) (hl.cells_far hc)
theorem impl_FirstThumbs.own_far {wr : World} {B : Nat} {e : TypeId} {v : Value} {n : Nat} {xs : List Value} (h : wr.ownsRow B e 1 v n xs) {p : Addr} (hp : some p.block ≠ v.ownBlock) (u : Value) : (wr.setCell p u).ownsRow B e 1 v n xs :=
  Go.Proofs.YtldnddehmpbbpaaGreatDoorW.PrintWords.own_move h fun k hk => Below.heap_setCell wr p u k (fun e => hp (e ▸ hk.symm))
set_option maxHeartbeats 8000000 in
set_option maxRecDepth 100000 in
theorem impl_FirstThumbs.calls (k : Nat) (a0 a1 a2 : ByteArray) (a3 : Bool) (r1 : List Int) (r2 : Bool) (w : World) (h : impl_FirstThumbs.f k a0 a1 a2 a3 = some (r1, r2)) :
    Calls Tryz.prog 6 #[.string a0, .string a1, .string a2, .bool a3] w fun e w' => ∃ v0_ : Value, e = .returned (.tuple #[v0_, .bool r2]) ∧ Kd.R (Kd.int .i64) 3 w' w.heap.size (fun _ => True) v0_ r1 ∧ Below w.heap.size w w' := by
  unfold impl_FirstThumbs.f at h
  obtain ⟨⟨tl, tr, ok⟩, h1, h⟩ := Option.bind_eq_some_iff.1 h
  have H1 := Aside0.mk h1
  have hu39 := Tryz.underlying49
  have hu43 := Tryz.underlying60
  clear h1
  cases ok with
  | false =>
    rw [if_neg (by simp)] at h
    obtain ⟨rfl, rfl⟩ := Prod.mk.inj (Option.some.inj h)
    go_enter Tryz.func6, Tryz.ntmps6
    go_wp2_with (first | (go_at_call 32; refine (impl_thumbsOk.calls k a0 a1 a2 tl tr false _ H1.out).mono ?_; rintro e w1 ⟨rfl, hb⟩))
    go_ret2
    exact ⟨_, rfl, Kd.R_nil _ _ _ _ _, below_alloc hb _⟩
  | true =>
    rw [if_pos rfl] at h
    obtain ⟨t, h2, h⟩ := Option.bind_eq_some_iff.1 h
    split at h
    · rename_i hn
      obtain ⟨out, h3, h⟩ := Option.bind_eq_some_iff.1 h
      obtain ⟨rfl, rfl⟩ := Prod.mk.inj (Option.some.inj h)
      have H2 := Aside0.mk h2
      have H3 : Aside0 (impl_FirstThumbs.go a3 t t.1.length 0 tl tr [] = some out) := ⟨h3⟩
      clear h2 h3 h
      go_enter Tryz.func6, Tryz.ntmps6
      go_upto_region 4 with (first | (go_at_call 32; refine (impl_thumbsOk.calls k a0 a1 a2 tl tr true _ H1.out).mono ?_; rintro e w1 ⟨rfl, hb⟩))
      have HB1 : Aside0 (Below w.heap.size w (w1.alloc (.cells #[.int .i64 tl, .int .i64 tr] 49))) := ⟨below_alloc hb _⟩
      have H10 := Aside0.mk (blk_new w1 (.cells #[.int .i64 tl, .int .i64 tr] 49))
      have HG10 : Aside0 (w.heap.size ≤ w1.heap.size) := ⟨hb.size⟩
      clear hb H1
      generalize w1.alloc (.cells #[.int .i64 tl, .int .i64 tr] 49) = W1 at *
      generalize w1.heap.size = b10 at *
      go_upto_region 5 with (first | (go_at_call 33; refine (impl_newLooker.calls k a0 a3 t _ H2.out).mono ?_; rintro e w2 ⟨D, rfl, hDL, hDc, hlim, hlo, hLk, hb2⟩))
      have HX : Aside0 (impl_FirstThumbs.Fs w (w2.alloc (.cells #[] 3)) D W1.heap.size w2.heap.size b10 tl tr) := ⟨⟨hLk.keep fun q hq => Below.heap_alloc _ _ _ (by omega), hlo, below_alloc (below_step HB1.out hb2) _, hlim, by simp, blk_alloc (blk_below H10.out hb2) _, HG10.out, blk_lt H10.out⟩⟩
      have HO : Aside0 ((w2.alloc (.cells #[] 3)).ownsRow w2.heap.size 3 1 (.slice (some ⟨w2.heap.size, 0, none⟩) 0 0) ([] : List Int).length (encs (Value.int .i64) [])) := ⟨rfl, Or.inr ⟨w2.heap.size, 0, #[], rfl, Nat.le_refl _, blk_new _ _, Nat.le_refl _, by unfold maxLen; omega, rfl, rfl⟩⟩
      have hlen : t.1.length = D.L.length := by rw [hDL]
      have HG : Aside0 (impl_FirstThumbs.go a3 t D.L.length 0 tl tr [] = some out) := ⟨by rw [← hlen]; exact H3.out⟩
      have HN : D.L.length ≤ 1000 := by rw [← hlen]; exact hn
      have HD := Aside0.mk hDL
      have HC := Aside0.mk hDc
      have c0 : (w2.alloc (.cells #[] 3)).cell? ⟨D.lb, 0, none⟩ = some (.slice D.A D.L.length D.kc) := (blk_cell HX.out.lk.box 0).trans rfl
      obtain ⟨A, hA⟩ : ∃ A, A = D.A := ⟨_, rfl⟩
      rw [← hA] at c0
      have HA := Aside0.mk hA
      clear H3 hDL hDc hlen hlim hlo hLk hb2 HB1 H10 HG10 H2 hn hA
      generalize w2.alloc (.cells #[] 3) = W3 at *
      obtain ⟨B2, hB2⟩ : ∃ B2, B2 = w2.heap.size := ⟨_, rfl⟩
      rw [← hB2] at HX HO
      simp only [← hB2]
      obtain ⟨B, hB⟩ : ∃ B, B = W1.heap.size := ⟨_, rfl⟩
      rw [← hB] at HX
      clear hB hB2
      obtain ⟨N, hN⟩ : ∃ N, N = D.L.length := ⟨_, rfl⟩
      rw [← hN] at c0 HG HN
      have HNe := Aside0.mk hN
      clear hN
      go_wp2
      clear c0
      go_loopg [13, 37] N (fun gg v13 v37 wr => ∃ (i : Nat) (l r : Int) (acc : List Int), v37 = .int .i64 (i : Int) ∧ i + gg = N ∧ acc.length = i ∧ Aside0 (impl_FirstThumbs.go a3 t gg i l r acc = some out) ∧ Aside0 (impl_FirstThumbs.Fs w wr D B B2 b10 l r) ∧ Aside0 (wr.ownsRow B2 3 1 v13 acc.length (encs (Value.int .i64) acc)))
      case atStart => exact ⟨0, tl, tr, [], rfl, by omega, rfl, HG, HX, HO⟩
      case round =>
        clear HG HX HO
        obtain ⟨i, l, r, acc, rfl, hi, hal, HG, HX, HO⟩ := hrel
        by_cases hlt : i < N
        · obtain ⟨g, rfl⟩ : ∃ g, gk = g + 1 := ⟨gk - 1, by omega⟩
          have hG := HG.out
          rw [impl_FirstThumbs.go] at hG
          obtain ⟨⟨x0, y0, sd0⟩, m0, hG⟩ := Option.bind_eq_some_iff.1 hG
          obtain ⟨⟨s0, q0⟩, o0, hG⟩ := Option.bind_eq_some_iff.1 hG
          obtain ⟨⟨s1, q1⟩, o1, hG⟩ := Option.bind_eq_some_iff.1 hG
          dsimp only at o0 o1 hG
          obtain ⟨kb, ko, _, hA', hk⟩ := HX.out.lk.keys i (by rw [← HNe.out]; exact hlt)
          obtain rfl := HA.out.trans hA'
          have hkey : wr.cell? ⟨kb, ko + i, none⟩ = some (.int .i64 (t.1.getD i 0)) := by rw [← HD.out]; exact hk
          obtain ⟨p, hp⟩ : ∃ p, p = t.1.getD i 0 := ⟨_, rfl⟩
          rw [← hp] at m0 hG hkey
          have HMv : Aside0 (∀ W, Calls Tryz.prog 34 #[.agg #[.int .i64 l, .int .i64 r], .int .i64 0, .int .i64 p, .bool a3] W fun e w' => e = .returned (.tuple #[.agg #[.int .i64 x0, .int .i64 y0], .int .i64 sd0]) ∧ Below W.heap.size W w') := ⟨fun W => impl_thumbs_moved.calls l r 0 p a3 x0 y0 sd0 W m0⟩
          have HO0 := Aside0.mk o0
          have HO1 := Aside0.mk o1
          have HG2 := Aside0.mk hG
          clear HG hG m0 o0 o1 hk hA' hp
          have hi0 : (i : Int) < (N : Int) := by omega
          have hid : decide ((i : Int) < (N : Int)) = true := decide_eq_true hi0
          have hiz : (0 : Int) ≤ (i : Int) := Int.natCast_nonneg _
          have hwi : IntKind.i64.wrap ((i : Int) + 1) = (i : Int) + 1 := (i64_w _).trans (by unfold wrap64; omega)
          have c0 : wr.cell? ⟨b10, 0, none⟩ = some (.int .i64 l) := (blk_cell HX.out.h10 0).trans rfl
          have c1 : wr.cell? ⟨b10, 1, none⟩ = some (.int .i64 r) := (blk_cell HX.out.h10 1).trans rfl
          go_upto_region 10 with (first | (go_at_call 34; refine (HMv.out _).mono ?_; rintro e w5 ⟨rfl, hb5⟩))
          have HX6 := Aside0.mk ((HX.out.grow hb5).grow (below_alloc (Below.refl _ _) (.cells #[.int .i64 x0, .int .i64 y0] 49)))
          have HO6 : Aside0 ((w5.alloc (.cells #[.int .i64 x0, .int .i64 y0] 49)).ownsRow B2 3 1 _ acc.length (encs (Value.int .i64) acc)) := ⟨impl_FirstThumbs.own_grow (impl_FirstThumbs.own_grow HO.out hb5) (below_alloc (Below.refl _ _) _)⟩
          have h17 := blk_new w5 (.cells #[.int .i64 x0, .int .i64 y0] 49)
          have g17 : B2 ≤ w5.heap.size := Nat.le_trans HX.out.size hb5.size
          clear HX HO hb5 HMv c0 c1 hkey
          generalize w5.alloc (.cells #[.int .i64 x0, .int .i64 y0] 49) = W6 at *
          generalize w5.heap.size = b17 at *
          have H17 := Aside0.mk h17
          clear h17
          have lk6 := Aside0.mk HX6.out.lk
          have hfl0 : ∀ W : World, (Instr.field 60 (.agg #[.int .i64 s0, .int .i64 q0]) 0).run Tryz.prog W = .ok (.int .i64 s0) W := fun W => by kernel_rfl
          have hfl1 : ∀ W : World, (Instr.field 60 (.agg #[.int .i64 s1, .int .i64 q1]) 0).run Tryz.prog W = .ok (.int .i64 s1) W := fun W => by kernel_rfl
          obtain ⟨u, hu⟩ : ∃ u, u = wrap64 (sd0 + s0) := ⟨_, rfl⟩
          have hwu : IntKind.i64.wrap (sd0 + s0) = u := by rw [i64_w, hu]
          have HG3 : Aside0 ((if s1 < u then (impl_thumbs_moved.f l r 1 p a3).bind fun m1 => impl_FirstThumbs.go a3 t g (i + 1) m1.1 m1.2.1 (acc ++ [1]) else impl_FirstThumbs.go a3 t g (i + 1) x0 y0 (acc ++ [0])) = some out) := ⟨by rw [hu]; exact HG2.out⟩
          have hlim6 : Aside0 (D.lim ≤ W6.heap.size) := ⟨Nat.le_trans HX6.out.lim HX6.out.size⟩
          clear HG2 hu hG h
          have c0 : W6.cell? ⟨b10, 0, none⟩ = some (.int .i64 l) := (blk_cell HX6.out.h10 0).trans rfl
          have c1 : W6.cell? ⟨b10, 1, none⟩ = some (.int .i64 r) := (blk_cell HX6.out.h10 1).trans rfl
          have c2 : W6.cell? ⟨b17, 0, none⟩ = some (.int .i64 x0) := (blk_cell H17.out 0).trans rfl
          have c3 : W6.cell? ⟨b17, 1, none⟩ = some (.int .i64 y0) := (blk_cell H17.out 1).trans rfl
          have hS0 : Aside0 (impl_newLooker.Lk W6.drew D ∧ impl_newLooker.MK D W6 W6.drew) := ⟨⟨lk6.out.keep fun _ _ => rfl, impl_newLooker.MK.of_below ((Below.refl _ _).drew)⟩⟩
          go_region_held3 (fun w' => w'.cell? ⟨b10, 0, none⟩ = some (.int .i64 l) ∧ w'.cell? ⟨b10, 1, none⟩ = some (.int .i64 r) ∧ w'.cell? ⟨b17, 0, none⟩ = some (.int .i64 x0) ∧ w'.cell? ⟨b17, 1, none⟩ = some (.int .i64 y0) ∧ Aside0 (impl_newLooker.Lk w' D ∧ impl_newLooker.MK D W6 w')) (first | exact ⟨(blk_cell (hmk8.blk lk6.out HX6.out.h10) 0).trans rfl, (blk_cell (hmk8.blk lk6.out HX6.out.h10) 1).trans rfl, (blk_cell (hmk8.blk lk6.out H17.out) 0).trans rfl, (blk_cell (hmk8.blk lk6.out H17.out) 1).trans rfl, ⟨hlk7, hmk8⟩⟩ | exact ⟨c0, c1, c2, c3, hS0⟩) (first | (go_at_call 35; rcases ‹_ ∧ _ ∧ _ ∧ _ ∧ Aside0 _› with ⟨_, _, _, _, hS9⟩; with_reducible refine (impl_looker_from.calls 0 t ((i : Int) + 1) x0 y0 s0 q0 _ HO0.out D HD.out HC.out hS9.out.1 (Nat.le_trans hlim6.out hS9.out.2.size)).mono ?_; rintro e w7 ⟨rfl, hlk7, hmk7⟩; have hmk8 := hS9.out.2.trans hmk7) | (go_at_call 35; rcases ‹_ ∧ _ ∧ _ ∧ _ ∧ Aside0 _› with ⟨_, _, _, _, hS9⟩; with_reducible refine (impl_looker_from.calls 0 t (i : Int) l r s1 q1 _ HO1.out D HD.out HC.out hS9.out.1 (Nat.le_trans hlim6.out hS9.out.2.size)).mono ?_; rintro e w7 ⟨rfl, hlk7, hmk7⟩; have hmk8 := hS9.out.2.trans hmk7))
          all_goals as_aux_lemma =>
            have HX9 := Aside0.mk (HX6.out.call hlk7 hmk8)
            have HO9 := Aside0.mk (impl_FirstThumbs.own_call HO6.out lk6.out hmk8)
            have H179 := Aside0.mk (hmk8.blk lk6.out H17.out)
            clear HX6 HO6 H17 hlk7 hmk7 hmk8 lk6 hS0 hS9 HO0 HO1 hfl0 hfl1 c0 c1 c2 c3 hlim6
            by_cases kk : s1 < u
            · have kd : decide (s1 < u) = true := decide_eq_true kk
              have hG := HG3.out
              rw [if_pos kk] at hG
              obtain ⟨⟨x1, y1, sd1⟩, m1, hG⟩ := Option.bind_eq_some_iff.1 hG
              have HG4 : Aside0 (impl_FirstThumbs.go a3 t g (i + 1) x1 y1 (acc ++ [1]) = some out) := ⟨hG⟩
              have HMv : Aside0 (∀ W, Calls Tryz.prog 34 #[.agg #[.int .i64 l, .int .i64 r], .int .i64 1, .int .i64 p, .bool a3] W fun e w' => e = .returned (.tuple #[.agg #[.int .i64 x1, .int .i64 y1], .int .i64 sd1]) ∧ Below W.heap.size W w') := ⟨fun W => impl_thumbs_moved.calls l r 1 p a3 x1 y1 sd1 W m1⟩
              clear HG3 hG m1
              have c0 : w7.cell? ⟨b10, 0, none⟩ = some (.int .i64 l) := (blk_cell HX9.out.h10 0).trans rfl
              have c1 : w7.cell? ⟨b10, 1, none⟩ = some (.int .i64 r) := (blk_cell HX9.out.h10 1).trans rfl
              go_upto_region 12 with fail
              go_upto_region 13 with (first | (go_at_call 34; refine (HMv.out _).mono ?_; rintro e w8 ⟨rfl, hb8⟩; have h17_ := blk_below H179.out hb8; have e0 : w8.cell? ⟨b17, 0, none⟩ = some (.int .i64 x0) := (blk_cell h17_ 0).trans rfl; have e1 : w8.cell? ⟨b17, 1, none⟩ = some (.int .i64 y0) := (blk_cell h17_ 1).trans rfl; have e2 := blk_frozen h17_ 0; have e3 := blk_frozen h17_ 1))
              have HX11 := Aside0.mk (((HX9.out.grow hb8).far (p := ⟨b17, 0, none⟩) g17 (.int .i64 x1)).far (p := ⟨b17, 1, none⟩) g17 (.int .i64 y1))
              have h17u : some b17 ≠ u13.ownBlock := fun e => by
                obtain ⟨cells, hc⟩ := Go.Proofs.YtldnddehmpbbpaaGreatDoorW.PrintWords.own_typed HO9.out b17 e.symm
                have := hc.symm.trans H179.out
                cases this
              have HO11 := Aside0.mk (impl_FirstThumbs.own_far (p := ⟨b17, 1, none⟩) (impl_FirstThumbs.own_far (p := ⟨b17, 0, none⟩) (impl_FirstThumbs.own_grow HO9.out hb8) h17u (.int .i64 x1)) h17u (.int .i64 y1))
              have H17b := Aside0.mk (blk_put (cs := #[.int .i64 x1, .int .i64 y0]) (blk_put h17_ 0 (.int .i64 x1) rfl) 1 (.int .i64 y1) rfl)
              clear HX9 HO9 H179 hb8 h17_ e0 e1 e2 e3 c0 c1 HMv
              generalize (w8.setCell ⟨b17, 0, none⟩ (.int .i64 x1)).setCell ⟨b17, 1, none⟩ (.int .i64 y1) = W11 at *
              obtain ⟨i9, hi9, hz9, hz91, hz92⟩ := info_parts info3
              have hne : some b10 ≠ u13.ownBlock := fun e => by
                have := Go.Proofs.YtldnddehmpbbpaaGreatDoorW.PrintWords.own_base HO11.out b10 e.symm
                have := HX11.out.lt2
                omega
              have hlg : b10 < W11.heap.size := blk_lt HX11.out.h10
              have hl17 : b17 < W11.heap.size := blk_lt H17b.out
              have hs11 : B2 ≤ W11.heap.size := HX11.out.size
              have c0 : W11.cell? ⟨b10, 0, none⟩ = some (.int .i64 l) := (blk_cell HX11.out.h10 0).trans rfl
              have c1 : W11.cell? ⟨b10, 1, none⟩ = some (.int .i64 r) := (blk_cell HX11.out.h10 1).trans rfl
              have c2 : W11.cell? ⟨b17, 0, none⟩ = some (.int .i64 x1) := (blk_cell H17b.out 0).trans rfl
              have c3 : W11.cell? ⟨b17, 1, none⟩ = some (.int .i64 y1) := (blk_cell H17b.out 1).trans rfl
              have f0 := blk_frozen HX11.out.h10 0
              have f1 := blk_frozen HX11.out.h10 1
              have hnn : b10 ≠ b17 := by
                have := HX11.out.lt2
                omega
              have hacc : acc.length ≤ 1000 := by omega
              have hA0 := blk_alloc HX11.out.h10 (.cells #[.int .i64 1] 3)
              have ca0 : (W11.alloc (.cells #[.int .i64 1] 3)).cell? ⟨b10, 0, none⟩ = some (.int .i64 l) := (blk_cell hA0 0).trans rfl
              have ca1 : (W11.alloc (.cells #[.int .i64 1] 3)).cell? ⟨b10, 1, none⟩ = some (.int .i64 r) := (blk_cell hA0 1).trans rfl
              have hB0 := blk_alloc H17b.out (.cells #[.int .i64 1] 3)
              have ca2 : (W11.alloc (.cells #[.int .i64 1] 3)).cell? ⟨b17, 0, none⟩ = some (.int .i64 x1) := (blk_cell hB0 0).trans rfl
              have ca3 : (W11.alloc (.cells #[.int .i64 1] 3)).cell? ⟨b17, 1, none⟩ = some (.int .i64 y1) := (blk_cell hB0 1).trans rfl
              have hne7 : some b17 ≠ u13.ownBlock := fun e => by
                obtain ⟨cells, hc⟩ := Go.Proofs.YtldnddehmpbbpaaGreatDoorW.PrintWords.own_typed HO11.out b17 e.symm
                have := hc.symm.trans H17b.out
                cases this
              clear hB0
              have fa0 := blk_frozen hA0 0
              have fa1 := blk_frozen hA0 1
              have HA0 := Aside0.mk hA0
              clear hA0
              have HOs := Aside0.mk (impl_FirstThumbs.own_far (p := ⟨b10, 1, none⟩) (impl_FirstThumbs.own_far (p := ⟨b10, 0, none⟩) HO11.out hne (.int .i64 x1)) hne (.int .i64 y1))
              go_region_law
                ((refine step_append_lies _ (by rfl) _ _ _ (by rfl) B2 3 i9 _ 1 8 Tryz.underlying26 hi9 hz9 hz91 hz92 rfl (by omega) u13 acc.length (encs (Value.int .i64) acc) (by rfl) (by first | exact (HO11.out.alloc _).drew | exact HO11.out.drew.alloc _ | exact HO11.out.alloc _ | exact (HOs.out.alloc _).drew | exact HOs.out.drew.alloc _ | exact HOs.out.alloc _ | exact impl_FirstThumbs.own_far (impl_FirstThumbs.own_far (HO11.out.alloc _).drew hne _) hne _ | exact (impl_FirstThumbs.own_far (impl_FirstThumbs.own_far (HO11.out.alloc _) hne _) hne _).drew) ⟨W11.heap.size, 0, none⟩ 1 1 [.int .i64 1] (by rfl) (by rfl) (by first | exact World.news_of_block (cs := #[.int .i64 1]) (t := 3) (fr := (0, 0)) (heap_alloc_new W11 _) | exact World.news_of_block (cs := #[.int .i64 1]) (t := 3) (fr := (0, 0)) (by simpa using heap_alloc_new ((W11.setCell ⟨b10, 0, none⟩ (.int .i64 x1)).setCell ⟨b10, 1, none⟩ (.int .i64 y1)) (.cells #[.int .i64 1] 3)) | exact World.news_of_block (cs := #[.int .i64 1]) (t := 3) (fr := (0, 0)) (by rw [World.drew_heap]; simp)) (by simp [Value.oneCell']) (by omega) (by simp only [maxLen]; omega) (by omega) (by simp; omega) (W11.heap.size + 1) (by simp) ?_; intro gg7 cap7 w7 hown7 hg7 hat7 hlt7; (try have f70 : w7.frozen? ⟨b10, 0, none⟩ = false := (hg7.frozen_far ⟨b10, 0, none⟩ (by simp; omega) hne).trans (by first | exact fa0 | simpa using fa0)); (try have f71 : w7.frozen? ⟨b10, 1, none⟩ = false := (hg7.frozen_far ⟨b10, 1, none⟩ (by simp; omega) hne).trans (by first | exact fa1 | simpa using fa1)); (try have c70 : w7.cell? ⟨b10, 0, none⟩ = some (.int .i64 l) := (hg7.cell_far ⟨b10, 0, none⟩ (by simp; omega) hne).trans (by first | exact ca0 | simpa using ca0)); (try have c72 : w7.cell? ⟨b17, 0, none⟩ = some (.int .i64 x1) := (hg7.cell_far ⟨b17, 0, none⟩ (by simp; omega) hne7).trans (by first | exact ca2 | simpa using ca2)); (try have c73 : w7.cell? ⟨b17, 1, none⟩ = some (.int .i64 y1) := (hg7.cell_far ⟨b17, 1, none⟩ (by simp; omega) hne7).trans (by first | exact ca3 | simpa using ca3)); (try have c71 : w7.cell? ⟨b10, 1, none⟩ = some (.int .i64 r) := (hg7.cell_far ⟨b10, 1, none⟩ (by simp; omega) hne).trans (by first | exact ca1 | simpa using ca1))))
              all_goals as_aux_lemma =>
                have hHG : Aside0 (impl_FirstThumbs.go a3 t g (i + 1) x1 y1 (acc ++ [1]) = some out) := HG4
                have HX12 : impl_FirstThumbs.Fs w w7 D B B2 b10 l r := (HX11.out.grow (((below_alloc (Below.refl _ _) _).drew))).grown hg7 (fun q hq => Go.Proofs.YtldnddehmpbbpaaGreatDoorW.PrintWords.own_base HO11.out q hq)
                have HX13 := Aside0.mk (HX12.put x1 y1)
                have hgg : b10 ≠ gg7 := fun e => by
                  have := Go.Proofs.YtldnddehmpbbpaaGreatDoorW.PrintWords.own_base hown7 gg7 rfl
                  have := HX12.lt2
                  omega
                have hgo : some b10 ≠ (Value.slice (some (⟨gg7, 0, none⟩ : Addr)) (acc.length + 1) cap7).ownBlock := fun e => hgg (Option.some.inj e)
                have hO := impl_FirstThumbs.own_far (p := ⟨b10, 1, none⟩) (impl_FirstThumbs.own_far (p := ⟨b10, 0, none⟩) hown7 hgo (.int .i64 x1)) hgo (.int .i64 y1)
                have HO13 : Aside0 (((w7.setCell ⟨b10, 0, none⟩ (.int .i64 x1)).setCell ⟨b10, 1, none⟩ (.int .i64 y1)).ownsRow B2 3 1 (.slice (some ⟨gg7, 0, none⟩) (acc.length + 1) cap7) (acc ++ [1]).length (encs (Value.int .i64) (acc ++ [1]))) := ⟨by rw [List.length_append, List.length_singleton, show encs (Value.int .i64) (acc ++ [1]) = encs (Value.int .i64) acc ++ [.int .i64 1] by simp [encs]]; exact hO⟩
                clear hown7 hg7 hat7 hlt7 f70 f71 c70 c71 c72 c73 ca0 ca1 ca2 ca3 fa0 fa1 HA0 HOs HX12 hgg hgo hO hne hne7 hlg hl17 hs11 c0 c1 c2 c3 f0 f1 hnn HX11 HO11 H17b
                generalize (w7.setCell ⟨b10, 0, none⟩ (.int .i64 x1)).setCell ⟨b10, 1, none⟩ (.int .i64 y1) = W13 at *
                go_wp2
                go_roundg g
                case measure => omega
                case rel => exact ⟨i + 1, x1, y1, acc ++ [1], by go_num, by omega, by rw [List.length_append, List.length_singleton, hal], hHG, HX13, (by rw [← hal]; exact HO13)⟩
            · have kd : decide (s1 < u) = false := decide_eq_false kk
              have hG := HG3.out
              rw [if_neg kk] at hG
              have HG4 : Aside0 (impl_FirstThumbs.go a3 t g (i + 1) x0 y0 (acc ++ [0]) = some out) := ⟨hG⟩
              clear HG3 hG
              go_upto_region 13 with fail
              have HX11 := HX9
              have HO11 := HO9
              have H17b := H179
              clear HX9 HO9 H179
              generalize w7 = W11 at *
              obtain ⟨i9, hi9, hz9, hz91, hz92⟩ := info_parts info3
              have hne : some b10 ≠ u13.ownBlock := fun e => by
                have := Go.Proofs.YtldnddehmpbbpaaGreatDoorW.PrintWords.own_base HO11.out b10 e.symm
                have := HX11.out.lt2
                omega
              have hlg : b10 < W11.heap.size := blk_lt HX11.out.h10
              have hl17 : b17 < W11.heap.size := blk_lt H17b.out
              have hs11 : B2 ≤ W11.heap.size := HX11.out.size
              have c0 : W11.cell? ⟨b10, 0, none⟩ = some (.int .i64 l) := (blk_cell HX11.out.h10 0).trans rfl
              have c1 : W11.cell? ⟨b10, 1, none⟩ = some (.int .i64 r) := (blk_cell HX11.out.h10 1).trans rfl
              have c2 : W11.cell? ⟨b17, 0, none⟩ = some (.int .i64 x0) := (blk_cell H17b.out 0).trans rfl
              have c3 : W11.cell? ⟨b17, 1, none⟩ = some (.int .i64 y0) := (blk_cell H17b.out 1).trans rfl
              have f0 := blk_frozen HX11.out.h10 0
              have f1 := blk_frozen HX11.out.h10 1
              have hnn : b10 ≠ b17 := by
                have := HX11.out.lt2
                omega
              have hacc : acc.length ≤ 1000 := by omega
              have hA0 := blk_alloc HX11.out.h10 (.cells #[.int .i64 0] 3)
              have ca0 : (W11.alloc (.cells #[.int .i64 0] 3)).cell? ⟨b10, 0, none⟩ = some (.int .i64 l) := (blk_cell hA0 0).trans rfl
              have ca1 : (W11.alloc (.cells #[.int .i64 0] 3)).cell? ⟨b10, 1, none⟩ = some (.int .i64 r) := (blk_cell hA0 1).trans rfl
              have hB0 := blk_alloc H17b.out (.cells #[.int .i64 0] 3)
              have ca2 : (W11.alloc (.cells #[.int .i64 0] 3)).cell? ⟨b17, 0, none⟩ = some (.int .i64 x0) := (blk_cell hB0 0).trans rfl
              have ca3 : (W11.alloc (.cells #[.int .i64 0] 3)).cell? ⟨b17, 1, none⟩ = some (.int .i64 y0) := (blk_cell hB0 1).trans rfl
              have hne7 : some b17 ≠ u13.ownBlock := fun e => by
                obtain ⟨cells, hc⟩ := Go.Proofs.YtldnddehmpbbpaaGreatDoorW.PrintWords.own_typed HO11.out b17 e.symm
                have := hc.symm.trans H17b.out
                cases this
              clear hB0
              have fa0 := blk_frozen hA0 0
              have fa1 := blk_frozen hA0 1
              have HA0 := Aside0.mk hA0
              clear hA0
              have HOs := Aside0.mk (impl_FirstThumbs.own_far (p := ⟨b10, 1, none⟩) (impl_FirstThumbs.own_far (p := ⟨b10, 0, none⟩) HO11.out hne (.int .i64 x0)) hne (.int .i64 y0))
              go_region_law
                ((refine step_append_lies _ (by rfl) _ _ _ (by rfl) B2 3 i9 _ 1 8 Tryz.underlying26 hi9 hz9 hz91 hz92 rfl (by omega) u13 acc.length (encs (Value.int .i64) acc) (by rfl) (by first | exact (HO11.out.alloc _).drew | exact HO11.out.drew.alloc _ | exact HO11.out.alloc _ | exact (HOs.out.alloc _).drew | exact HOs.out.drew.alloc _ | exact HOs.out.alloc _ | exact impl_FirstThumbs.own_far (impl_FirstThumbs.own_far (HO11.out.alloc _).drew hne _) hne _ | exact (impl_FirstThumbs.own_far (impl_FirstThumbs.own_far (HO11.out.alloc _) hne _) hne _).drew) ⟨W11.heap.size, 0, none⟩ 1 1 [.int .i64 0] (by rfl) (by rfl) (by first | exact World.news_of_block (cs := #[.int .i64 0]) (t := 3) (fr := (0, 0)) (heap_alloc_new W11 _) | exact World.news_of_block (cs := #[.int .i64 0]) (t := 3) (fr := (0, 0)) (by simpa using heap_alloc_new ((W11.setCell ⟨b10, 0, none⟩ (.int .i64 x0)).setCell ⟨b10, 1, none⟩ (.int .i64 y0)) (.cells #[.int .i64 0] 3)) | exact World.news_of_block (cs := #[.int .i64 0]) (t := 3) (fr := (0, 0)) (by rw [World.drew_heap]; simp)) (by simp [Value.oneCell']) (by omega) (by simp only [maxLen]; omega) (by omega) (by simp; omega) (W11.heap.size + 1) (by simp) ?_; intro gg7 cap7 w7 hown7 hg7 hat7 hlt7; (try have f70 : w7.frozen? ⟨b10, 0, none⟩ = false := (hg7.frozen_far ⟨b10, 0, none⟩ (by simp; omega) hne).trans (by first | exact fa0 | simpa using fa0)); (try have f71 : w7.frozen? ⟨b10, 1, none⟩ = false := (hg7.frozen_far ⟨b10, 1, none⟩ (by simp; omega) hne).trans (by first | exact fa1 | simpa using fa1)); (try have c70 : w7.cell? ⟨b10, 0, none⟩ = some (.int .i64 l) := (hg7.cell_far ⟨b10, 0, none⟩ (by simp; omega) hne).trans (by first | exact ca0 | simpa using ca0)); (try have c72 : w7.cell? ⟨b17, 0, none⟩ = some (.int .i64 x0) := (hg7.cell_far ⟨b17, 0, none⟩ (by simp; omega) hne7).trans (by first | exact ca2 | simpa using ca2)); (try have c73 : w7.cell? ⟨b17, 1, none⟩ = some (.int .i64 y0) := (hg7.cell_far ⟨b17, 1, none⟩ (by simp; omega) hne7).trans (by first | exact ca3 | simpa using ca3)); (try have c71 : w7.cell? ⟨b10, 1, none⟩ = some (.int .i64 r) := (hg7.cell_far ⟨b10, 1, none⟩ (by simp; omega) hne).trans (by first | exact ca1 | simpa using ca1))))
              all_goals as_aux_lemma =>
                have hHG : Aside0 (impl_FirstThumbs.go a3 t g (i + 1) x0 y0 (acc ++ [0]) = some out) := HG4
                have HX12 : impl_FirstThumbs.Fs w w7 D B B2 b10 l r := (HX11.out.grow (((below_alloc (Below.refl _ _) _).drew))).grown hg7 (fun q hq => Go.Proofs.YtldnddehmpbbpaaGreatDoorW.PrintWords.own_base HO11.out q hq)
                have HX13 := Aside0.mk (HX12.put x0 y0)
                have hgg : b10 ≠ gg7 := fun e => by
                  have := Go.Proofs.YtldnddehmpbbpaaGreatDoorW.PrintWords.own_base hown7 gg7 rfl
                  have := HX12.lt2
                  omega
                have hgo : some b10 ≠ (Value.slice (some (⟨gg7, 0, none⟩ : Addr)) (acc.length + 1) cap7).ownBlock := fun e => hgg (Option.some.inj e)
                have hO := impl_FirstThumbs.own_far (p := ⟨b10, 1, none⟩) (impl_FirstThumbs.own_far (p := ⟨b10, 0, none⟩) hown7 hgo (.int .i64 x0)) hgo (.int .i64 y0)
                have HO13 : Aside0 (((w7.setCell ⟨b10, 0, none⟩ (.int .i64 x0)).setCell ⟨b10, 1, none⟩ (.int .i64 y0)).ownsRow B2 3 1 (.slice (some ⟨gg7, 0, none⟩) (acc.length + 1) cap7) (acc ++ [0]).length (encs (Value.int .i64) (acc ++ [0]))) := ⟨by rw [List.length_append, List.length_singleton, show encs (Value.int .i64) (acc ++ [0]) = encs (Value.int .i64) acc ++ [.int .i64 0] by simp [encs]]; exact hO⟩
                clear hown7 hg7 hat7 hlt7 f70 f71 c70 c71 c72 c73 ca0 ca1 ca2 ca3 fa0 fa1 HA0 HOs HX12 hgg hgo hO hne hne7 hlg hl17 hs11 c0 c1 c2 c3 f0 f1 hnn HX11 HO11 H17b
                generalize (w7.setCell ⟨b10, 0, none⟩ (.int .i64 x0)).setCell ⟨b10, 1, none⟩ (.int .i64 y0) = W13 at *
                go_wp2
                go_roundg g
                case measure => omega
                case rel => exact ⟨i + 1, x0, y0, acc ++ [0], by go_num, by omega, by rw [List.length_append, List.length_singleton, hal], hHG, HX13, (by rw [← hal]; exact HO13)⟩
        · obtain rfl : gk = 0 := by omega
          have hG := HG.out
          rw [impl_FirstThumbs.go] at hG
          obtain rfl := Option.some.inj hG
          have hid : decide ((i : Int) < (N : Int)) = false := decide_eq_false (by omega)
          have hR : Kd.R (Kd.int .i64) 3 wr w.heap.size (fun _ => True) _ acc := Kd.R_lower (Kd.R_of_own HO.out (fun _ _ => trivial)) (by have := HX.out.lt2; have := HX.out.g10; omega)
          have HR := Aside0.mk hR
          have HBf := Aside0.mk HX.out.below
          clear HG hG HX HO hR
          go_wp2
          go_ret2
          exact ⟨_, rfl, HR.out, HBf.out⟩
    · cases h
end Go.Proofs.YtldnddehmpbbpaaGreatDoor.P
end

section
namespace Go.Proofs.YtldnddehmpbbpaaGreatDoor.P
open Go.RowKit Go.Proofs.YtldnddehmpbbpaaGreatDoorW.PrintWords Go.Proofs.YtldnddehmpbbpaaGreatDoorW.PrintLast Go.Proofs.YtldnddehmpbbpaaGreatDoorW.PrintMore
attribute [local go_sem] max2_int min2_int max_two min_two max_three min_three max_four min_four   -- for this text's walks alone
set_option linter.unusedVariables false
set_option linter.unusedSimpArgs false
def spec_thPlace.l0 : Nat → Int → Int → Option (Int)
  | 0, _, _ => none
  | k + 1, x0, x3 => if x3 < 12 then (if 0 ≤ x3 then (if (bt (⟨#[49, 50, 51, 52, 53, 54, 55, 56, 57, 42, 48, 35]⟩ : ByteArray) x3) = x0 then (some x3) else (spec_thPlace.l0 k x0 (wrap64 (x3 + 1)))) else (none)) else (some (-1))
def spec_thPlace.f (k : Nat) (a0 : Int) : Option (Int) := spec_thPlace.l0 k a0 0
theorem spec_thPlace.mono_l : ∀ k, (∀ y0 y1, LeO (spec_thPlace.l0 k y0 y1) (spec_thPlace.l0 (k + 1) y0 y1))
  | 0 => fun _ _ r h => by simp [spec_thPlace.l0] at h
  | k + 1 => by
    have ih0 := spec_thPlace.mono_l k
    · intro y0 y1
      unfold spec_thPlace.l0
      repeat' first
      | (with_reducible exact ih0 _ _)
      | (with_reducible exact LeO.refl _)
      | (with_reducible exact LeO.none _)
      | (with_reducible refine LeO.ite ?_ ?_)
      | (with_reducible refine LeO.bind ?_ (fun _ => ?_))
      | exact ih0 _ _
      | exact LeO.none _
      | refine LeO.ite ?_ ?_
      | refine LeO.bind ?_ (fun _ => ?_)
theorem spec_thPlace.mono : ∀ a0 k, LeO (spec_thPlace.f k a0) (spec_thPlace.f (k + 1) a0) := by
  intro a0 k
  have ih0 := spec_thPlace.mono_l k
  unfold spec_thPlace.f
  repeat' first
      | (with_reducible exact ih0 _ _)
      | (with_reducible exact LeO.refl _)
      | (with_reducible exact LeO.none _)
      | (with_reducible refine LeO.ite ?_ ?_)
      | (with_reducible refine LeO.bind ?_ (fun _ => ?_))
      | exact ih0 _ _
      | exact LeO.none _
      | refine LeO.ite ?_ ?_
      | refine LeO.bind ?_ (fun _ => ?_)
set_option maxHeartbeats 8000000 in
set_option maxRecDepth 100000 in
theorem spec_thPlace.calls (k : Nat) (a0 : Int) (r : Int) (w : World) (h : spec_thPlace.f k a0 = some r) :
    Calls Tryz.prog 39 #[.int .u8 a0] w fun e w' => e = .returned (.int .i64 r) ∧ Drawn0 w w' := by
  have H : (spec_thPlace.l0 k a0 0) = some r := h
  clear h
  have H' := Aside0.mk H
  clear H
  go_enter Tryz.func39, Tryz.ntmps39
  go_wp2
  go_loopg [3] k (fun kq v3 w' => ∃ (x3_1 : Int), v3 = .int .i64 x3_1 ∧ Aside0 (spec_thPlace.l0 kq a0 x3_1 = some r) ∧ Aside0 (kq ≤ k) ∧ Drawn0 w w')
  case atStart => exact ⟨(0), (by first | rfl | (simp; done) | (simp [*]; done)), H', ⟨Nat.le_refl _⟩, by repeat (first | exact Drawn0.refl _ | apply Drawn0.step)⟩
  case round =>
    clear H'
    obtain ⟨x3_1, rfl, HA, HK1, ⟨m1, rfl⟩⟩ := hrel
    cases gk with
    | zero => exact absurd HA.out (by simp [spec_thPlace.l0])
    | succ k1 =>
      have H := HA.out
      clear HA
      simp only [spec_thPlace.l0] at H
      by_cases c2 : x3_1 < 12
      · rw [if_pos c2] at H
        have c2b0 : decide (x3_1 < 12) = true := decide_eq_true c2
        clear c2
        by_cases c3 : 0 ≤ x3_1
        · rw [if_pos c3] at H
          have c3b0 : decide (0 ≤ x3_1) = true := decide_eq_true c3
          clear c3
          by_cases c5 : (bt (⟨#[49, 50, 51, 52, 53, 54, 55, 56, 57, 42, 48, 35]⟩ : ByteArray) x3_1) = a0
          · rw [if_pos c5] at H
            have c5b0 : ((bt (⟨#[49, 50, 51, 52, 53, 54, 55, 56, 57, 42, 48, 35]⟩ : ByteArray) x3_1) == a0) = true := beq_iff_eq.mpr c5
            have c5b1 : ((bt (⟨#[49, 50, 51, 52, 53, 54, 55, 56, 57, 42, 48, 35]⟩ : ByteArray) x3_1) != a0) = false := bne_eq_false_iff_eq.mpr c5
            clear c5
            obtain rfl := Option.some.inj H
            have p4 : 0 ≤ (x3_1 : Int) := of_decide_eq_true (by first | (with_reducible assumption) | assumption)
            have q4 : x3_1 < (12 : Int) := of_decide_eq_true (by first | (with_reducible assumption) | assumption)
            have hx4 := bt_at (⟨#[49, 50, 51, 52, 53, 54, 55, 56, 57, 42, 48, 35]⟩ : ByteArray) x3_1
            replace p4 := eq_true p4
            replace q4 := eq_true q4
            go_wp2
            go_ret
            exact ⟨by first | rfl | (simp; done) | (simp [*]; done), by repeat (first | exact Drawn0.refl _ | apply Drawn0.step)⟩
          · rw [if_neg c5] at H
            have c5b0 : ((bt (⟨#[49, 50, 51, 52, 53, 54, 55, 56, 57, 42, 48, 35]⟩ : ByteArray) x3_1) == a0) = false := beq_eq_false_iff_ne.mpr c5
            have c5b1 : ((bt (⟨#[49, 50, 51, 52, 53, 54, 55, 56, 57, 42, 48, 35]⟩ : ByteArray) x3_1) != a0) = true := bne_iff_ne.mpr c5
            have H' := Aside0.mk H
            clear H
            have p4 : 0 ≤ (x3_1 : Int) := of_decide_eq_true (by first | (with_reducible assumption) | assumption)
            have q4 : x3_1 < (12 : Int) := of_decide_eq_true (by first | (with_reducible assumption) | assumption)
            have hx4 := bt_at (⟨#[49, 50, 51, 52, 53, 54, 55, 56, 57, 42, 48, 35]⟩ : ByteArray) x3_1
            replace p4 := eq_true p4
            replace q4 := eq_true q4
            go_wp2
            go_roundg k1
            case measure => have := HK1.out; omega
            case rel => exact ⟨(wrap64 (x3_1 + 1)), (by first | rfl | (simp; done) | (simp [*]; done)), H', ⟨by have := HK1.out; omega⟩, by repeat (first | exact Drawn0.refl _ | apply Drawn0.step)⟩
        · rw [if_neg c3] at H
          exact absurd H (by simp)
      · rw [if_neg c2] at H
        have c2b0 : decide (x3_1 < 12) = false := decide_eq_false c2
        clear c2
        obtain rfl := Option.some.inj H
        go_wp2
        go_ret
        exact ⟨by first | rfl | (simp; done) | (simp [*]; done), by repeat (first | exact Drawn0.refl _ | apply Drawn0.step)⟩
end Go.Proofs.YtldnddehmpbbpaaGreatDoor.P
end

section
namespace Go.Proofs.YtldnddehmpbbpaaGreatDoor.P
open Go.RowKit Go.Proofs.YtldnddehmpbbpaaGreatDoorW.PrintWords Go.Proofs.YtldnddehmpbbpaaGreatDoorW.PrintLast Go.Proofs.YtldnddehmpbbpaaGreatDoorW.PrintMore
attribute [local go_sem] max2_int min2_int max_two min_two max_three min_three max_four min_four   -- for this text's walks alone
set_option linter.unusedVariables false
set_option linter.unusedSimpArgs false
def spec_thGood.l0 : Nat → ByteArray → Int → Option (Bool)
  | 0, _, _ => none
  | k + 1, x0, x3 => if x3 < (x0.size : Int) then (if 0 ≤ x3 then ((spec_thPlace.f k (bt x0 x3)).bind fun t172 => (if t172 < 0 then (some false) else (spec_thGood.l0 k x0 (wrap64 (x3 + 1))))) else (none)) else (some true)
def spec_thGood.f (k : Nat) (a0 : ByteArray) : Option (Bool) := if (a0.size : Int) > 30 then (some false) else (spec_thGood.l0 k a0 0)
theorem spec_thGood.mono_l : ∀ k, (∀ y0 y1, LeO (spec_thGood.l0 k y0 y1) (spec_thGood.l0 (k + 1) y0 y1))
  | 0 => fun _ _ r h => by simp [spec_thGood.l0] at h
  | k + 1 => by
    have ih0 := spec_thGood.mono_l k
    · intro y0 y1
      unfold spec_thGood.l0
      repeat' first
      | (with_reducible exact ih0 _ _)
      | (with_reducible exact spec_thPlace.mono _ _)
      | (with_reducible exact LeO.refl _)
      | (with_reducible exact LeO.none _)
      | (with_reducible refine LeO.ite ?_ ?_)
      | (with_reducible refine LeO.bind ?_ (fun _ => ?_))
      | exact ih0 _ _
      | exact spec_thPlace.mono _ _
      | exact LeO.none _
      | refine LeO.ite ?_ ?_
      | refine LeO.bind ?_ (fun _ => ?_)
theorem spec_thGood.mono : ∀ a0 k, LeO (spec_thGood.f k a0) (spec_thGood.f (k + 1) a0) := by
  intro a0 k
  have ih0 := spec_thGood.mono_l k
  unfold spec_thGood.f
  repeat' first
      | (with_reducible exact ih0 _ _)
      | (with_reducible exact spec_thPlace.mono _ _)
      | (with_reducible exact LeO.refl _)
      | (with_reducible exact LeO.none _)
      | (with_reducible refine LeO.ite ?_ ?_)
      | (with_reducible refine LeO.bind ?_ (fun _ => ?_))
      | exact ih0 _ _
      | exact spec_thPlace.mono _ _
      | exact LeO.none _
      | refine LeO.ite ?_ ?_
      | refine LeO.bind ?_ (fun _ => ?_)
set_option maxHeartbeats 8000000 in
set_option maxRecDepth 100000 in
theorem spec_thGood.calls (k : Nat) (a0 : ByteArray) (r : Bool) (w : World) (h : spec_thGood.f k a0 = some r) :
    Calls Tryz.prog 42 #[.string a0] w fun e w' => e = .returned (.bool r) ∧ Drawn0 w w' := by
  have H : (if (a0.size : Int) > 30 then (some false) else (spec_thGood.l0 k a0 0)) = some r := h
  clear h
  by_cases c2 : (a0.size : Int) > 30
  · rw [if_pos c2] at H
    have c2b0 : decide (30 < (a0.size : Int)) = true := decide_eq_true c2
    have c2b1 : decide (30 < a0.size) = true := decide_eq_true (by omega)
    clear c2
    obtain rfl := Option.some.inj H
    go_enter Tryz.func42, Tryz.ntmps42
    go_wp2
    go_ret
    exact ⟨by first | rfl | (simp; done) | (simp [*]; done), by repeat (first | exact Drawn0.refl _ | apply Drawn0.step)⟩
  · rw [if_neg c2] at H
    have c2b0 : decide (30 < (a0.size : Int)) = false := decide_eq_false c2
    have c2b1 : decide (30 < a0.size) = false := decide_eq_false (by omega)
    clear c2
    have H' := Aside0.mk H
    clear H
    go_enter Tryz.func42, Tryz.ntmps42
    go_wp2
    go_loopg [3] k (fun kq v3 w' => ∃ (x3_1 : Int), v3 = .int .i64 x3_1 ∧ Aside0 (spec_thGood.l0 kq a0 x3_1 = some r) ∧ Aside0 (kq ≤ k) ∧ Drawn0 w w')
    case atStart => exact ⟨(0), (by first | rfl | (simp; done) | (simp [*]; done)), H', ⟨Nat.le_refl _⟩, by repeat (first | exact Drawn0.refl _ | apply Drawn0.step)⟩
    case round =>
      clear H'
      try clear c2
      try clear c2b0
      try clear c2b1
      try clear p2
      obtain ⟨x3_1, rfl, HA, HK1, ⟨m1, rfl⟩⟩ := hrel
      cases gk with
      | zero => exact absurd HA.out (by simp [spec_thGood.l0])
      | succ k1 =>
        have H := HA.out
        clear HA
        simp only [spec_thGood.l0] at H
        by_cases c3 : x3_1 < (a0.size : Int)
        · rw [if_pos c3] at H
          have c3b0 : decide (x3_1 < (a0.size : Int)) = true := decide_eq_true c3
          clear c3
          by_cases c4 : 0 ≤ x3_1
          · rw [if_pos c4] at H
            have c4b0 : decide (0 ≤ x3_1) = true := decide_eq_true c4
            clear c4
            replace H := Option.bind_eq_some_iff.mp H
            obtain ⟨t172, A60, H⟩ := H
            replace H : (if t172 < 0 then (some false) else (spec_thGood.l0 k1 a0 (wrap64 (x3_1 + 1)))) = some r := H
            have A6 := Aside0.mk A60
            clear A60
            by_cases c7 : t172 < 0
            · rw [if_pos c7] at H
              have c7b0 : decide (t172 < 0) = true := decide_eq_true c7
              clear c7
              obtain rfl := Option.some.inj H
              have p5 : 0 ≤ (x3_1 : Int) := of_decide_eq_true (by first | (with_reducible assumption) | assumption)
              have q5 : x3_1 < (a0.size : Int) := of_decide_eq_true (by first | (with_reducible assumption) | assumption)
              have hx5 := bt_at a0 x3_1
              replace p5 := eq_true p5
              replace q5 := eq_true q5
              go_wp2_with (first | ((with_reducible refine gate_callee (f := 39) rfl ?_); refine goesL_ (some 16) rfl rfl Tryz.func39 (by kernel_rfl) rfl #[.int .u8 (bt a0 x3_1)] rfl (by (try simp only [List.map_toArray, List.map_cons, List.map_nil]); first | done | rfl | (simp only [List.length_drop, List.length_take]; rfl)) ?_; (with_reducible refine (spec_thPlace.calls k1 (bt a0 x3_1) t172 _ A6.out).mono ?_); rintro e w' ⟨rfl, ⟨nd, rfl⟩⟩; refine ⟨_, rfl, ?_⟩))
              go_ret
              exact ⟨by first | rfl | (simp; done) | (simp [*]; done), by repeat (first | exact Drawn0.refl _ | apply Drawn0.step)⟩
            · rw [if_neg c7] at H
              have c7b0 : decide (t172 < 0) = false := decide_eq_false c7
              clear c7
              have H' := Aside0.mk H
              clear H
              have p5 : 0 ≤ (x3_1 : Int) := of_decide_eq_true (by first | (with_reducible assumption) | assumption)
              have q5 : x3_1 < (a0.size : Int) := of_decide_eq_true (by first | (with_reducible assumption) | assumption)
              have hx5 := bt_at a0 x3_1
              replace p5 := eq_true p5
              replace q5 := eq_true q5
              go_wp2_with (first | ((with_reducible refine gate_callee (f := 39) rfl ?_); refine goesL_ (some 16) rfl rfl Tryz.func39 (by kernel_rfl) rfl #[.int .u8 (bt a0 x3_1)] rfl (by (try simp only [List.map_toArray, List.map_cons, List.map_nil]); first | done | rfl | (simp only [List.length_drop, List.length_take]; rfl)) ?_; (with_reducible refine (spec_thPlace.calls k1 (bt a0 x3_1) t172 _ A6.out).mono ?_); rintro e w' ⟨rfl, ⟨nd, rfl⟩⟩; refine ⟨_, rfl, ?_⟩))
              go_roundg k1
              case measure => have := HK1.out; omega
              case rel => exact ⟨(wrap64 (x3_1 + 1)), (by first | rfl | (simp; done) | (simp [*]; done)), H', ⟨by have := HK1.out; omega⟩, by repeat (first | exact Drawn0.refl _ | apply Drawn0.step)⟩
          · rw [if_neg c4] at H
            exact absurd H (by simp)
        · rw [if_neg c3] at H
          have c3b0 : decide (x3_1 < (a0.size : Int)) = false := decide_eq_false c3
          clear c3
          obtain rfl := Option.some.inj H
          go_wp2
          go_ret
          exact ⟨by first | rfl | (simp; done) | (simp [*]; done), by repeat (first | exact Drawn0.refl _ | apply Drawn0.step)⟩
end Go.Proofs.YtldnddehmpbbpaaGreatDoor.P
end

section
namespace Go.Proofs.YtldnddehmpbbpaaGreatDoor.P
open Go.RowKit Go.Proofs.YtldnddehmpbbpaaGreatDoorW.PrintWords Go.Proofs.YtldnddehmpbbpaaGreatDoorW.PrintLast Go.Proofs.YtldnddehmpbbpaaGreatDoorW.PrintMore
attribute [local go_sem] max2_int min2_int max_two min_two max_three min_three max_four min_four   -- for this text's walks alone
set_option linter.unusedVariables false
set_option linter.unusedSimpArgs false
def spec_thOne.f (k : Nat) (a0 : ByteArray) : Option (Bool) := if (a0.size : Int) = 1 then ((spec_thGood.f k a0).bind fun t173 => (some t173)) else (some false)
theorem spec_thOne.mono : ∀ a0 k, LeO (spec_thOne.f k a0) (spec_thOne.f (k + 1) a0) := by
  intro a0 k
  unfold spec_thOne.f
  repeat' first
      | (with_reducible exact spec_thGood.mono _ _)
      | (with_reducible exact LeO.refl _)
      | (with_reducible exact LeO.none _)
      | (with_reducible refine LeO.ite ?_ ?_)
      | (with_reducible refine LeO.bind ?_ (fun _ => ?_))
      | exact spec_thGood.mono _ _
      | exact LeO.none _
      | refine LeO.ite ?_ ?_
      | refine LeO.bind ?_ (fun _ => ?_)
set_option maxHeartbeats 8000000 in
set_option maxRecDepth 100000 in
theorem spec_thOne.calls (k : Nat) (a0 : ByteArray) (r : Bool) (w : World) (h : spec_thOne.f k a0 = some r) :
    Calls Tryz.prog 55 #[.string a0] w fun e w' => e = .returned (.bool r) ∧ Drawn0 w w' := by
  have H : (if (a0.size : Int) = 1 then ((spec_thGood.f k a0).bind fun t173 => (some t173)) else (some false)) = some r := h
  clear h
  by_cases c2 : (a0.size : Int) = 1
  · rw [if_pos c2] at H
    have c2b0 : ((a0.size : Int) == 1) = true := beq_iff_eq.mpr c2
    have c2b1 : ((a0.size : Int) != 1) = false := bne_eq_false_iff_eq.mpr c2
    clear c2
    replace H := Option.bind_eq_some_iff.mp H
    obtain ⟨t173, A30, H⟩ := H
    replace H : (some t173) = some r := H
    have A3 := Aside0.mk A30
    clear A30
    obtain rfl := Option.some.inj H
    go_enter Tryz.func55, Tryz.ntmps55
    go_wp2_with (first | (go_at_call 42; (with_reducible refine (spec_thGood.calls k a0 t173 _ A3.out).mono ?_); rintro e w' ⟨rfl, ⟨nd, rfl⟩⟩))
    go_ret
    exact ⟨by first | rfl | (simp; done) | (simp [*]; done), by repeat (first | exact Drawn0.refl _ | apply Drawn0.step)⟩
  · rw [if_neg c2] at H
    have c2b0 : ((a0.size : Int) == 1) = false := beq_eq_false_iff_ne.mpr c2
    have c2b1 : ((a0.size : Int) != 1) = true := bne_iff_ne.mpr c2
    obtain rfl := Option.some.inj H
    go_enter Tryz.func55, Tryz.ntmps55
    go_wp2
    go_ret
    exact ⟨by first | rfl | (simp; done) | (simp [*]; done), by repeat (first | exact Drawn0.refl _ | apply Drawn0.step)⟩
end Go.Proofs.YtldnddehmpbbpaaGreatDoor.P
end

section
namespace Go.Proofs.YtldnddehmpbbpaaGreatDoor.P
open Go.RowKit Go.Proofs.YtldnddehmpbbpaaGreatDoorW.PrintWords Go.Proofs.YtldnddehmpbbpaaGreatDoorW.PrintLast Go.Proofs.YtldnddehmpbbpaaGreatDoorW.PrintMore
attribute [local go_sem] max2_int min2_int max_two min_two max_three min_three max_four min_four   -- for this text's walks alone
set_option linter.unusedVariables false
set_option linter.unusedSimpArgs false
def spec_thBoth.f (k : Nat) (a0 : ByteArray) (a1 : ByteArray) (a2 : ByteArray) : Option (Bool) := (spec_thGood.f k a0).bind fun t174 => (if t174 = true then ((spec_thOne.f k a1).bind fun t175 => (if t175 = true then ((spec_thOne.f k a2).bind fun t176 => (some t176)) else (some false))) else (some false))
theorem spec_thBoth.mono : ∀ a0 a1 a2 k, LeO (spec_thBoth.f k a0 a1 a2) (spec_thBoth.f (k + 1) a0 a1 a2) := by
  intro a0 a1 a2 k
  unfold spec_thBoth.f
  repeat' first
      | (with_reducible exact spec_thGood.mono _ _)
      | (with_reducible exact spec_thOne.mono _ _)
      | (with_reducible exact LeO.refl _)
      | (with_reducible exact LeO.none _)
      | (with_reducible refine LeO.ite ?_ ?_)
      | (with_reducible refine LeO.bind ?_ (fun _ => ?_))
      | exact spec_thGood.mono _ _
      | exact spec_thOne.mono _ _
      | exact LeO.none _
      | refine LeO.ite ?_ ?_
      | refine LeO.bind ?_ (fun _ => ?_)
set_option maxHeartbeats 8000000 in
set_option maxRecDepth 100000 in
theorem spec_thBoth.calls (k : Nat) (a0 : ByteArray) (a1 : ByteArray) (a2 : ByteArray) (r : Bool) (w : World) (h : spec_thBoth.f k a0 a1 a2 = some r) :
    Calls Tryz.prog 36 #[.string a0, .string a1, .string a2] w fun e w' => e = .returned (.bool r) ∧ Drawn0 w w' := by
  have H : ((spec_thGood.f k a0).bind fun t174 => (if t174 = true then ((spec_thOne.f k a1).bind fun t175 => (if t175 = true then ((spec_thOne.f k a2).bind fun t176 => (some t176)) else (some false))) else (some false))) = some r := h
  clear h
  replace H := Option.bind_eq_some_iff.mp H
  obtain ⟨t174, A40, H⟩ := H
  replace H : (if t174 = true then ((spec_thOne.f k a1).bind fun t175 => (if t175 = true then ((spec_thOne.f k a2).bind fun t176 => (some t176)) else (some false))) else (some false)) = some r := H
  have A4 := Aside0.mk A40
  clear A40
  by_cases c5 : t174 = true
  · subst c5
    have H1 : ((spec_thOne.f k a1).bind fun t175 => (if t175 = true then ((spec_thOne.f k a2).bind fun t176 => (some t176)) else (some false))) = some r := by rw [if_pos rfl] at H; exact H
    clear H
    have H := H1
    clear H1
    replace H := Option.bind_eq_some_iff.mp H
    obtain ⟨t175, A60, H⟩ := H
    replace H : (if t175 = true then ((spec_thOne.f k a2).bind fun t176 => (some t176)) else (some false)) = some r := H
    have A6 := Aside0.mk A60
    clear A60
    by_cases c7 : t175 = true
    · subst c7
      have H1 : ((spec_thOne.f k a2).bind fun t176 => (some t176)) = some r := by rw [if_pos rfl] at H; exact H
      clear H
      have H := H1
      clear H1
      replace H := Option.bind_eq_some_iff.mp H
      obtain ⟨t176, A80, H⟩ := H
      replace H : (some t176) = some r := H
      have A8 := Aside0.mk A80
      clear A80
      obtain rfl := Option.some.inj H
      go_enter Tryz.func36, Tryz.ntmps36
      go_wp2_with (first | ((with_reducible refine gate_callee (f := 42) rfl ?_); refine goesL_ (some 8) rfl rfl Tryz.func42 (by kernel_rfl) rfl #[.string a0] rfl (by (try simp only [List.map_toArray, List.map_cons, List.map_nil]); first | done | rfl | (simp only [List.length_drop, List.length_take]; rfl)) ?_; (with_reducible refine (spec_thGood.calls k a0 true _ A4.out).mono ?_); rintro e w' ⟨rfl, ⟨nd, rfl⟩⟩; refine ⟨_, rfl, ?_⟩) | (go_at_call 55; (with_reducible refine (spec_thOne.calls k a1 true _ A6.out).mono ?_); rintro e w' ⟨rfl, ⟨nd, rfl⟩⟩) | (go_at_call 55; (with_reducible refine (spec_thOne.calls k a2 t176 _ A8.out).mono ?_); rintro e w' ⟨rfl, ⟨nd, rfl⟩⟩))
      go_ret
      exact ⟨by first | rfl | (simp; done) | (simp [*]; done), by repeat (first | exact Drawn0.refl _ | apply Drawn0.step)⟩
    · replace c7 := Bool.eq_false_iff.mpr c7
      subst c7
      have H1 : (some false) = some r := by rw [if_neg (show ¬ (false = true) by decide)] at H; exact H
      clear H
      have H := H1
      clear H1
      obtain rfl := Option.some.inj H
      go_enter Tryz.func36, Tryz.ntmps36
      go_wp2_with (first | ((with_reducible refine gate_callee (f := 42) rfl ?_); refine goesL_ (some 8) rfl rfl Tryz.func42 (by kernel_rfl) rfl #[.string a0] rfl (by (try simp only [List.map_toArray, List.map_cons, List.map_nil]); first | done | rfl | (simp only [List.length_drop, List.length_take]; rfl)) ?_; (with_reducible refine (spec_thGood.calls k a0 true _ A4.out).mono ?_); rintro e w' ⟨rfl, ⟨nd, rfl⟩⟩; refine ⟨_, rfl, ?_⟩) | (go_at_call 55; (with_reducible refine (spec_thOne.calls k a1 false _ A6.out).mono ?_); rintro e w' ⟨rfl, ⟨nd, rfl⟩⟩))
      go_ret
      exact ⟨by first | rfl | (simp; done) | (simp [*]; done), by repeat (first | exact Drawn0.refl _ | apply Drawn0.step)⟩
  · replace c5 := Bool.eq_false_iff.mpr c5
    subst c5
    have H1 : (some false) = some r := by rw [if_neg (show ¬ (false = true) by decide)] at H; exact H
    clear H
    have H := H1
    clear H1
    obtain rfl := Option.some.inj H
    go_enter Tryz.func36, Tryz.ntmps36
    go_wp2_with (first | ((with_reducible refine gate_callee (f := 42) rfl ?_); refine goesL_ (some 8) rfl rfl Tryz.func42 (by kernel_rfl) rfl #[.string a0] rfl (by (try simp only [List.map_toArray, List.map_cons, List.map_nil]); first | done | rfl | (simp only [List.length_drop, List.length_take]; rfl)) ?_; (with_reducible refine (spec_thGood.calls k a0 false _ A4.out).mono ?_); rintro e w' ⟨rfl, ⟨nd, rfl⟩⟩; refine ⟨_, rfl, ?_⟩))
    go_ret
    exact ⟨by first | rfl | (simp; done) | (simp [*]; done), by repeat (first | exact Drawn0.refl _ | apply Drawn0.step)⟩
end Go.Proofs.YtldnddehmpbbpaaGreatDoor.P
end

section
namespace Go.Proofs.YtldnddehmpbbpaaGreatDoor.P
open Go.RowKit Go.Proofs.YtldnddehmpbbpaaGreatDoorW.PrintWords Go.Proofs.YtldnddehmpbbpaaGreatDoorW.PrintLast Go.Proofs.YtldnddehmpbbpaaGreatDoorW.PrintMore
attribute [local go_sem] max2_int min2_int max_two min_two max_three min_three max_four min_four   -- for this text's walks alone
set_option linter.unusedVariables false
set_option linter.unusedSimpArgs false
def spec_l1Most.f (a0 : Int) (a1 : Int) : Option (Int) := if a0 > a1 then (some a0) else (some a1)
set_option maxHeartbeats 8000000 in
set_option maxRecDepth 100000 in
theorem spec_l1Most.calls (a0 : Int) (a1 : Int) (r : Int) (w : World) (h : spec_l1Most.f a0 a1 = some r) :
    Calls Tryz.prog 70 #[.int .i64 a0, .int .i64 a1] w fun e w' => e = .returned (.int .i64 r) ∧ Drawn0 w w' := by
  have H : (if a0 > a1 then (some a0) else (some a1)) = some r := h
  clear h
  by_cases c3 : a0 > a1
  · rw [if_pos c3] at H
    have c3b0 : decide (a1 < a0) = true := decide_eq_true c3
    clear c3
    obtain rfl := Option.some.inj H
    go_enter Tryz.func70, Tryz.ntmps70
    go_wp2
    go_ret
    exact ⟨by first | rfl | (simp; done) | (simp [*]; done), by repeat (first | exact Drawn0.refl _ | apply Drawn0.step)⟩
  · rw [if_neg c3] at H
    have c3b0 : decide (a1 < a0) = false := decide_eq_false c3
    clear c3
    obtain rfl := Option.some.inj H
    go_enter Tryz.func70, Tryz.ntmps70
    go_wp2
    go_ret
    exact ⟨by first | rfl | (simp; done) | (simp [*]; done), by repeat (first | exact Drawn0.refl _ | apply Drawn0.step)⟩
end Go.Proofs.YtldnddehmpbbpaaGreatDoor.P
end

section
namespace Go.Proofs.YtldnddehmpbbpaaGreatDoor.P
open Go.RowKit Go.Proofs.YtldnddehmpbbpaaGreatDoorW.PrintWords Go.Proofs.YtldnddehmpbbpaaGreatDoorW.PrintLast Go.Proofs.YtldnddehmpbbpaaGreatDoorW.PrintMore
attribute [local go_sem] max2_int min2_int max_two min_two max_three min_three max_four min_four   -- for this text's walks alone
set_option linter.unusedVariables false
set_option linter.unusedSimpArgs false
def spec_l1Abs.f (a0 : Int) : Option (Int) := (spec_l1Most.f a0 (wrap64 (-a0))).bind fun t177 => (some t177)
set_option maxHeartbeats 8000000 in
set_option maxRecDepth 100000 in
theorem spec_l1Abs.calls (a0 : Int) (r : Int) (w : World) (h : spec_l1Abs.f a0 = some r) :
    Calls Tryz.prog 69 #[.int .i64 a0] w fun e w' => e = .returned (.int .i64 r) ∧ Drawn0 w w' := by
  have H : ((spec_l1Most.f a0 (wrap64 (-a0))).bind fun t177 => (some t177)) = some r := h
  clear h
  replace H := Option.bind_eq_some_iff.mp H
  obtain ⟨t177, A20, H⟩ := H
  replace H : (some t177) = some r := H
  have A2 := Aside0.mk A20
  clear A20
  obtain rfl := Option.some.inj H
  go_enter Tryz.func69, Tryz.ntmps69
  go_wp2_with (first | ((with_reducible refine gate_callee (f := 70) rfl ?_); refine goesL_ (some 6) rfl rfl Tryz.func70 (by kernel_rfl) rfl #[.int .i64 a0, .int .i64 (wrap64 (-a0))] rfl (by (try simp only [List.map_toArray, List.map_cons, List.map_nil]); first | done | rfl | (simp only [List.length_drop, List.length_take]; rfl)) ?_; (with_reducible refine (spec_l1Most.calls a0 (wrap64 (-a0)) t177 _ A2.out).mono ?_); rintro e w' ⟨rfl, ⟨nd, rfl⟩⟩; refine ⟨_, rfl, ?_⟩))
  go_ret
  exact ⟨by first | rfl | (simp; done) | (simp [*]; done), by repeat (first | exact Drawn0.refl _ | apply Drawn0.step)⟩
end Go.Proofs.YtldnddehmpbbpaaGreatDoor.P
end

section
namespace Go.Proofs.YtldnddehmpbbpaaGreatDoor.P
open Go.RowKit Go.Proofs.YtldnddehmpbbpaaGreatDoorW.PrintWords Go.Proofs.YtldnddehmpbbpaaGreatDoorW.PrintLast Go.Proofs.YtldnddehmpbbpaaGreatDoorW.PrintMore
attribute [local go_sem] max2_int min2_int max_two min_two max_three min_three max_four min_four   -- for this text's walks alone
set_option linter.unusedVariables false
set_option linter.unusedSimpArgs false
def spec_thFar.f (k : Nat) (a0 : Int) (a1 : Int) (a2 : Bool) : Option (Int) := (spec_thPlace.f k a0).bind fun t178 => ((spec_thPlace.f k a1).bind fun t179 => ((spec_l1Abs.f (wrap64 ((Int.tmod t178 3) - (Int.tmod t179 3)))).bind fun t180 => ((spec_l1Abs.f (wrap64 ((wrap64 (Int.tdiv t178 3)) - (wrap64 (Int.tdiv t179 3))))).bind fun t181 => (if a2 = true then ((spec_l1Most.f t180 t181).bind fun t182 => (some t182)) else (some (wrap64 (t180 + t181)))))))
theorem spec_thFar.mono : ∀ a0 a1 a2 k, LeO (spec_thFar.f k a0 a1 a2) (spec_thFar.f (k + 1) a0 a1 a2) := by
  intro a0 a1 a2 k
  unfold spec_thFar.f
  repeat' first
      | (with_reducible exact spec_thPlace.mono _ _)
      | (with_reducible exact LeO.refl _)
      | (with_reducible exact LeO.none _)
      | (with_reducible refine LeO.ite ?_ ?_)
      | (with_reducible refine LeO.bind ?_ (fun _ => ?_))
      | exact spec_thPlace.mono _ _
      | exact LeO.none _
      | refine LeO.ite ?_ ?_
      | refine LeO.bind ?_ (fun _ => ?_)
set_option maxHeartbeats 8000000 in
set_option maxRecDepth 100000 in
theorem spec_thFar.calls (k : Nat) (a0 : Int) (a1 : Int) (a2 : Bool) (r : Int) (w : World) (h : spec_thFar.f k a0 a1 a2 = some r) :
    Calls Tryz.prog 40 #[.int .u8 a0, .int .u8 a1, .bool a2] w fun e w' => e = .returned (.int .i64 r) ∧ Drawn0 w w' := by
  have H : ((spec_thPlace.f k a0).bind fun t178 => ((spec_thPlace.f k a1).bind fun t179 => ((spec_l1Abs.f (wrap64 ((Int.tmod t178 3) - (Int.tmod t179 3)))).bind fun t180 => ((spec_l1Abs.f (wrap64 ((wrap64 (Int.tdiv t178 3)) - (wrap64 (Int.tdiv t179 3))))).bind fun t181 => (if a2 = true then ((spec_l1Most.f t180 t181).bind fun t182 => (some t182)) else (some (wrap64 (t180 + t181)))))))) = some r := h
  clear h
  replace H := Option.bind_eq_some_iff.mp H
  obtain ⟨t178, A40, H⟩ := H
  replace H : ((spec_thPlace.f k a1).bind fun t179 => ((spec_l1Abs.f (wrap64 ((Int.tmod t178 3) - (Int.tmod t179 3)))).bind fun t180 => ((spec_l1Abs.f (wrap64 ((wrap64 (Int.tdiv t178 3)) - (wrap64 (Int.tdiv t179 3))))).bind fun t181 => (if a2 = true then ((spec_l1Most.f t180 t181).bind fun t182 => (some t182)) else (some (wrap64 (t180 + t181))))))) = some r := H
  have A4 := Aside0.mk A40
  clear A40
  replace H := Option.bind_eq_some_iff.mp H
  obtain ⟨t179, A50, H⟩ := H
  replace H : ((spec_l1Abs.f (wrap64 ((Int.tmod t178 3) - (Int.tmod t179 3)))).bind fun t180 => ((spec_l1Abs.f (wrap64 ((wrap64 (Int.tdiv t178 3)) - (wrap64 (Int.tdiv t179 3))))).bind fun t181 => (if a2 = true then ((spec_l1Most.f t180 t181).bind fun t182 => (some t182)) else (some (wrap64 (t180 + t181)))))) = some r := H
  have A5 := Aside0.mk A50
  clear A50
  replace H := Option.bind_eq_some_iff.mp H
  obtain ⟨t180, A60, H⟩ := H
  replace H : ((spec_l1Abs.f (wrap64 ((wrap64 (Int.tdiv t178 3)) - (wrap64 (Int.tdiv t179 3))))).bind fun t181 => (if a2 = true then ((spec_l1Most.f t180 t181).bind fun t182 => (some t182)) else (some (wrap64 (t180 + t181))))) = some r := H
  have A6 := Aside0.mk A60
  clear A60
  replace H := Option.bind_eq_some_iff.mp H
  obtain ⟨t181, A70, H⟩ := H
  replace H : (if a2 = true then ((spec_l1Most.f t180 t181).bind fun t182 => (some t182)) else (some (wrap64 (t180 + t181)))) = some r := H
  have A7 := Aside0.mk A70
  clear A70
  by_cases c8 : a2 = true
  · subst c8
    have H1 : ((spec_l1Most.f t180 t181).bind fun t182 => (some t182)) = some r := by rw [if_pos rfl] at H; exact H
    clear H
    have H := H1
    clear H1
    replace H := Option.bind_eq_some_iff.mp H
    obtain ⟨t182, A90, H⟩ := H
    replace H : (some t182) = some r := H
    have A9 := Aside0.mk A90
    clear A90
    obtain rfl := Option.some.inj H
    go_enter Tryz.func40, Tryz.ntmps40
    go_wp2_with (first | ((with_reducible refine gate_callee (f := 39) rfl ?_); refine goesL_ (some 12) rfl rfl Tryz.func39 (by kernel_rfl) rfl #[.int .u8 a0] rfl (by (try simp only [List.map_toArray, List.map_cons, List.map_nil]); first | done | rfl | (simp only [List.length_drop, List.length_take]; rfl)) ?_; (with_reducible refine (spec_thPlace.calls k a0 t178 _ A4.out).mono ?_); rintro e w' ⟨rfl, ⟨nd, rfl⟩⟩; refine ⟨_, rfl, ?_⟩) | ((with_reducible refine gate_callee (f := 39) rfl ?_); refine goesL_ (some 14) rfl rfl Tryz.func39 (by kernel_rfl) rfl #[.int .u8 a1] rfl (by (try simp only [List.map_toArray, List.map_cons, List.map_nil]); first | done | rfl | (simp only [List.length_drop, List.length_take]; rfl)) ?_; (with_reducible refine (spec_thPlace.calls k a1 t179 _ A5.out).mono ?_); rintro e w' ⟨rfl, ⟨nd, rfl⟩⟩; refine ⟨_, rfl, ?_⟩) | ((with_reducible refine gate_callee (f := 69) rfl ?_); refine goesL_ (some 20) rfl rfl Tryz.func69 (by kernel_rfl) rfl #[.int .i64 (wrap64 ((Int.tmod t178 3) - (Int.tmod t179 3)))] rfl (by (try simp only [List.map_toArray, List.map_cons, List.map_nil]); first | done | rfl | (simp only [List.length_drop, List.length_take]; rfl)) ?_; (with_reducible refine (spec_l1Abs.calls (wrap64 ((Int.tmod t178 3) - (Int.tmod t179 3))) t180 _ A6.out).mono ?_); rintro e w' ⟨rfl, ⟨nd, rfl⟩⟩; refine ⟨_, rfl, ?_⟩) | ((with_reducible refine gate_callee (f := 69) rfl ?_); refine goesL_ (some 26) rfl rfl Tryz.func69 (by kernel_rfl) rfl #[.int .i64 (wrap64 ((wrap64 (Int.tdiv t178 3)) - (wrap64 (Int.tdiv t179 3))))] rfl (by (try simp only [List.map_toArray, List.map_cons, List.map_nil]); first | done | rfl | (simp only [List.length_drop, List.length_take]; rfl)) ?_; (with_reducible refine (spec_l1Abs.calls (wrap64 ((wrap64 (Int.tdiv t178 3)) - (wrap64 (Int.tdiv t179 3)))) t181 _ A7.out).mono ?_); rintro e w' ⟨rfl, ⟨nd, rfl⟩⟩; refine ⟨_, rfl, ?_⟩) | ((with_reducible refine gate_callee (f := 70) rfl ?_); refine goesL_ (some 30) rfl rfl Tryz.func70 (by kernel_rfl) rfl #[.int .i64 t180, .int .i64 t181] rfl (by (try simp only [List.map_toArray, List.map_cons, List.map_nil]); first | done | rfl | (simp only [List.length_drop, List.length_take]; rfl)) ?_; (with_reducible refine (spec_l1Most.calls t180 t181 t182 _ A9.out).mono ?_); rintro e w' ⟨rfl, ⟨nd, rfl⟩⟩; refine ⟨_, rfl, ?_⟩))
    go_ret
    exact ⟨by first | rfl | (simp; done) | (simp [*]; done), by repeat (first | exact Drawn0.refl _ | apply Drawn0.step)⟩
  · replace c8 := Bool.eq_false_iff.mpr c8
    subst c8
    have H1 : (some (wrap64 (t180 + t181))) = some r := by rw [if_neg (show ¬ (false = true) by decide)] at H; exact H
    clear H
    have H := H1
    clear H1
    obtain rfl := Option.some.inj H
    go_enter Tryz.func40, Tryz.ntmps40
    go_wp2_with (first | ((with_reducible refine gate_callee (f := 39) rfl ?_); refine goesL_ (some 12) rfl rfl Tryz.func39 (by kernel_rfl) rfl #[.int .u8 a0] rfl (by (try simp only [List.map_toArray, List.map_cons, List.map_nil]); first | done | rfl | (simp only [List.length_drop, List.length_take]; rfl)) ?_; (with_reducible refine (spec_thPlace.calls k a0 t178 _ A4.out).mono ?_); rintro e w' ⟨rfl, ⟨nd, rfl⟩⟩; refine ⟨_, rfl, ?_⟩) | ((with_reducible refine gate_callee (f := 39) rfl ?_); refine goesL_ (some 14) rfl rfl Tryz.func39 (by kernel_rfl) rfl #[.int .u8 a1] rfl (by (try simp only [List.map_toArray, List.map_cons, List.map_nil]); first | done | rfl | (simp only [List.length_drop, List.length_take]; rfl)) ?_; (with_reducible refine (spec_thPlace.calls k a1 t179 _ A5.out).mono ?_); rintro e w' ⟨rfl, ⟨nd, rfl⟩⟩; refine ⟨_, rfl, ?_⟩) | ((with_reducible refine gate_callee (f := 69) rfl ?_); refine goesL_ (some 20) rfl rfl Tryz.func69 (by kernel_rfl) rfl #[.int .i64 (wrap64 ((Int.tmod t178 3) - (Int.tmod t179 3)))] rfl (by (try simp only [List.map_toArray, List.map_cons, List.map_nil]); first | done | rfl | (simp only [List.length_drop, List.length_take]; rfl)) ?_; (with_reducible refine (spec_l1Abs.calls (wrap64 ((Int.tmod t178 3) - (Int.tmod t179 3))) t180 _ A6.out).mono ?_); rintro e w' ⟨rfl, ⟨nd, rfl⟩⟩; refine ⟨_, rfl, ?_⟩) | ((with_reducible refine gate_callee (f := 69) rfl ?_); refine goesL_ (some 26) rfl rfl Tryz.func69 (by kernel_rfl) rfl #[.int .i64 (wrap64 ((wrap64 (Int.tdiv t178 3)) - (wrap64 (Int.tdiv t179 3))))] rfl (by (try simp only [List.map_toArray, List.map_cons, List.map_nil]); first | done | rfl | (simp only [List.length_drop, List.length_take]; rfl)) ?_; (with_reducible refine (spec_l1Abs.calls (wrap64 ((wrap64 (Int.tdiv t178 3)) - (wrap64 (Int.tdiv t179 3)))) t181 _ A7.out).mono ?_); rintro e w' ⟨rfl, ⟨nd, rfl⟩⟩; refine ⟨_, rfl, ?_⟩))
    go_ret
    exact ⟨by first | rfl | (simp; done) | (simp [*]; done), by repeat (first | exact Drawn0.refl _ | apply Drawn0.step)⟩
end Go.Proofs.YtldnddehmpbbpaaGreatDoor.P
end

section
namespace Go.Proofs.YtldnddehmpbbpaaGreatDoor.P
open Go.RowKit Go.Proofs.YtldnddehmpbbpaaGreatDoorW.PrintWords Go.Proofs.YtldnddehmpbbpaaGreatDoorW.PrintLast Go.Proofs.YtldnddehmpbbpaaGreatDoorW.PrintMore
attribute [local go_sem] max2_int min2_int max_two min_two max_three min_three max_four min_four   -- for this text's walks alone
set_option linter.unusedVariables false
set_option linter.unusedSimpArgs false
def spec_l1Least.f (a0 : Int) (a1 : Int) : Option (Int) := if a0 < a1 then (some a0) else (some a1)
set_option maxHeartbeats 8000000 in
set_option maxRecDepth 100000 in
theorem spec_l1Least.calls (a0 : Int) (a1 : Int) (r : Int) (w : World) (h : spec_l1Least.f a0 a1 = some r) :
    Calls Tryz.prog 68 #[.int .i64 a0, .int .i64 a1] w fun e w' => e = .returned (.int .i64 r) ∧ Drawn0 w w' := by
  have H : (if a0 < a1 then (some a0) else (some a1)) = some r := h
  clear h
  by_cases c3 : a0 < a1
  · rw [if_pos c3] at H
    have c3b0 : decide (a0 < a1) = true := decide_eq_true c3
    clear c3
    obtain rfl := Option.some.inj H
    go_enter Tryz.func68, Tryz.ntmps68
    go_wp2
    go_ret
    exact ⟨by first | rfl | (simp; done) | (simp [*]; done), by repeat (first | exact Drawn0.refl _ | apply Drawn0.step)⟩
  · rw [if_neg c3] at H
    have c3b0 : decide (a0 < a1) = false := decide_eq_false c3
    clear c3
    obtain rfl := Option.some.inj H
    go_enter Tryz.func68, Tryz.ntmps68
    go_wp2
    go_ret
    exact ⟨by first | rfl | (simp; done) | (simp [*]; done), by repeat (first | exact Drawn0.refl _ | apply Drawn0.step)⟩
end Go.Proofs.YtldnddehmpbbpaaGreatDoor.P
end

