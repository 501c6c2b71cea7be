/- Parts of the proof (printed walks, lemmas of our own, contracts of the library laid for this program), merged into one text by wip/mclaim.py. Conditions: each theorem's own. -/
import Derived.Test.YtldnddehmpbbpaaGreatDoorM0
import Derived.Test.YtldnddehmpbbpaaGreatDoorM1
section
namespace Go.Proofs.YtldnddehmpbbpaaGreatDoor.P
open Go.RowKit Go.Proofs.YtldnddehmpbbpaaGreatDoorW.PrintWords Go.Proofs.YtldnddehmpbbpaaGreatDoorW.PrintLast Go.Proofs.YtldnddehmpbbpaaGreatDoorW.PrintMore
attribute [local go_sem] max2_int min2_int max_two min_two max_three min_three max_four min_four   -- for this text's walks alone
set_option linter.unusedVariables false
set_option linter.unusedSimpArgs false
def spec_thTable.pad : ByteArray := (⟨#[49, 50, 51, 52, 53, 54, 55, 56, 57, 42, 48, 35]⟩ : ByteArray)
def spec_thTable.irow (l : List Int) : Array Value := (l.map (Value.int .i64)).toArray
def spec_thTable.oc (B n m : Nat) : Array Value := ((List.range (n + 1)).map fun j => if n - j < m then Value.slice (some ⟨B + 2 * (n - j), 0, none⟩) 144 144 else Value.slice none 0 0).toArray
def spec_thTable.stp (k : Nat) (c : Bool) (key : Int) (t : Nat) (lo wo : List Int) (i : Nat) (v0 : Int) : Option (Int × Int) :=
  (spec_thFar.f k (bt spec_thTable.pad ((i / 12 : Nat) : Int)) key c).bind fun fa => (spec_thFar.f k (bt spec_thTable.pad ((i % 12 : Nat) : Int)) key c).bind fun fb => (spec_l1Least.f (wrap64 (fa + lo.getD (12 * t + i % 12) 0)) (wrap64 (fb + lo.getD (12 * (i / 12) + t) 0))).bind fun m => (spec_l1Least.f (if wrap64 (fb + lo.getD (12 * (i / 12) + t) 0) ≤ wrap64 (fa + lo.getD (12 * t + i % 12) 0) then wrap64 ((if wrap64 (fa + lo.getD (12 * t + i % 12) 0) ≤ wrap64 (fb + lo.getD (12 * (i / 12) + t) 0) then wrap64 (v0 + wo.getD (12 * t + i % 12) 0) else v0) + wo.getD (12 * (i / 12) + t) 0) else (if wrap64 (fa + lo.getD (12 * t + i % 12) 0) ≤ wrap64 (fb + lo.getD (12 * (i / 12) + t) 0) then wrap64 (v0 + wo.getD (12 * t + i % 12) 0) else v0)) 1000000000000001).bind fun v => some (m, v)
def spec_thTable.inr (k : Nat) (c : Bool) (key : Int) (t : Nat) (lo wo : List Int) : Nat → Nat → List Int → List Int → Option (List Int × List Int)
  | 0, _, ln, wn => some (ln, wn)
  | d + 1, i, ln, wn => (spec_thTable.stp k c key t lo wo i (wn.getD i 0)).bind fun p => spec_thTable.inr k c key t lo wo d (i + 1) (ln.set i p.1) (wn.set i p.2)
def spec_thTable.row (k : Nat) (c : Bool) (key : Int) (p : List Int × List Int) : Option (List Int × List Int) :=
  (spec_thPlace.f k key).bind fun t => (if 0 ≤ t ∧ t ≤ 11 then spec_thTable.inr k c key t.toNat p.1 p.2 144 0 (List.replicate 144 0) (List.replicate 144 0) else none)
def spec_thTable.go (k : Nat) (s : ByteArray) (c : Bool) : Nat → List (List Int × List Int) → Option (List (List Int × List Int))
  | 0, rows => some rows
  | d + 1, rows => (spec_thTable.row k c (bt s (d : Int)) (rows.getD (rows.length - 1) ([], []))).bind fun r => spec_thTable.go k s c d (rows ++ [r])
def spec_thTable.g (k : Nat) (a0 : ByteArray) (a1 : Bool) : Option (List (List Int × List Int)) := (if a0.size ≤ 1000 then spec_thTable.go k a0 a1 a0.size [(List.replicate 144 0, List.replicate 144 1)] else none)
theorem spec_thTable.stp_mono (k : Nat) (c : Bool) (key : Int) (t : Nat) (lo wo : List Int) (i : Nat) (v0 : Int) : LeO (spec_thTable.stp k c key t lo wo i v0) (spec_thTable.stp (k + 1) c key t lo wo i v0) := by
  intro r h
  unfold spec_thTable.stp at h ⊢
  obtain ⟨fa, ha, h⟩ := Option.bind_eq_some_iff.1 h
  obtain ⟨fb, hb, h⟩ := Option.bind_eq_some_iff.1 h
  rw [spec_thFar.mono _ _ _ k fa ha, Option.bind_some, spec_thFar.mono _ _ _ k fb hb, Option.bind_some]
  exact h
theorem spec_thTable.inr_mono (k : Nat) (c : Bool) (key : Int) (t : Nat) (lo wo : List Int) : ∀ (d i : Nat) (ln wn : List Int), LeO (spec_thTable.inr k c key t lo wo d i ln wn) (spec_thTable.inr (k + 1) c key t lo wo d i ln wn)
  | 0, i, ln, wn, r, h => h
  | d + 1, i, ln, wn, r, h => by
    rw [spec_thTable.inr] at h ⊢
    obtain ⟨p, hp, h⟩ := Option.bind_eq_some_iff.1 h
    rw [spec_thTable.stp_mono k c key t lo wo i _ p hp, Option.bind_some]
    exact spec_thTable.inr_mono k c key t lo wo d (i + 1) _ _ r h
theorem spec_thTable.row_mono (k : Nat) (c : Bool) (key : Int) (p : List Int × List Int) : LeO (spec_thTable.row k c key p) (spec_thTable.row (k + 1) c key p) := by
  intro r h
  unfold spec_thTable.row at h ⊢
  obtain ⟨t, ht, h⟩ := Option.bind_eq_some_iff.1 h
  rw [spec_thPlace.mono _ k t ht, Option.bind_some]
  split at h
  · rename_i h1
    rw [if_pos h1]
    exact spec_thTable.inr_mono k c key _ _ _ _ _ _ _ r h
  · cases h
theorem spec_thTable.go_mono (k : Nat) (s : ByteArray) (c : Bool) : ∀ (d : Nat) (rows : List (List Int × List Int)), LeO (spec_thTable.go k s c d rows) (spec_thTable.go (k + 1) s c d rows)
  | 0, rows, r, h => h
  | d + 1, rows, r, h => by
    rw [spec_thTable.go] at h ⊢
    obtain ⟨p, hp, h⟩ := Option.bind_eq_some_iff.1 h
    rw [spec_thTable.row_mono k c _ _ p hp, Option.bind_some]
    exact spec_thTable.go_mono k s c d _ r h
theorem spec_thTable.gmono : ∀ a0 a1 k, LeO (spec_thTable.g k a0 a1) (spec_thTable.g (k + 1) a0 a1) := by
  intro a0 a1 k r h
  unfold spec_thTable.g at h ⊢
  split at h
  · rename_i h1
    rw [if_pos h1]
    exact spec_thTable.go_mono k a0 a1 _ _ r h
  · cases h
theorem spec_thTable.irow_size (l : List Int) : (spec_thTable.irow l).size = l.length := by simp [spec_thTable.irow]
theorem spec_thTable.irow_at {l : List Int} {i : Nat} (h : i < l.length) : (spec_thTable.irow l)[i]? = some (.int .i64 (l.getD i 0)) := by
  simp [spec_thTable.irow, List.getD_eq_getElem?_getD, List.getElem?_eq_getElem h]
theorem spec_thTable.irow_set (l : List Int) (i : Nat) (x : Int) : (spec_thTable.irow l).setIfInBounds i (.int .i64 x) = spec_thTable.irow (l.set i x) := by
  simp [spec_thTable.irow, List.map_set]
theorem spec_thTable.oc_at {B n m j : Nat} (hj : j ≤ n) (hm : n - j < m) : (spec_thTable.oc B n m)[j]? = some (Value.slice (some ⟨B + 2 * (n - j), 0, none⟩) 144 144) := by
  simp [spec_thTable.oc, List.getElem?_eq_getElem, hm, Nat.lt_succ_of_le hj]
theorem spec_thTable.oc_nil {B n m j : Nat} (hj : j ≤ n) (hm : ¬ n - j < m) : (spec_thTable.oc B n m)[j]? = some (Value.slice none 0 0) := by
  simp [spec_thTable.oc, List.getElem?_eq_getElem, hm, Nat.lt_succ_of_le hj]
theorem spec_thTable.oc_set {B n m j : Nat} (hj : j + m = n) : (spec_thTable.oc B n m).setIfInBounds j (Value.slice (some ⟨B + 2 * m, 0, none⟩) 144 144) = spec_thTable.oc B n (m + 1) := by
  apply Array.ext'
  apply List.ext_getElem
  · simp [spec_thTable.oc]
  · intro i h1 h2
    simp only [spec_thTable.oc, Array.toList_setIfInBounds, List.getElem_set, List.getElem_map, List.getElem_range]
    have hi : i < n + 1 := by simpa [spec_thTable.oc] using h2
    split
    · rename_i e
      subst e
      rw [if_pos (by omega), show n - j = m by omega]
    · rename_i e
      by_cases hc : n - i < m
      · rw [if_pos hc, if_pos (by omega)]
      · rw [if_neg hc, if_neg (by omega)]
theorem spec_thTable.oc_made (B n : Nat) : (List.replicate (n + 1) (Value.slice none 0 0)).toArray = spec_thTable.oc B n 0 := by
  unfold spec_thTable.oc
  simp only [Nat.not_lt_zero, if_false]
  rw [List.map_const', List.length_range]
def spec_thTable.Rows (w : World) (N : Nat) (rows : List (List Int × List Int)) : Prop :=
  ∀ e, e < rows.length → ∃ p : List Int × List Int, rows.getD e ([], []) = p ∧ p.1.length = 144 ∧ p.2.length = 144 ∧ w.heap[N + 2 + 2 * e]? = some (.cells (spec_thTable.irow p.1) 3 (0, 0)) ∧ w.heap[N + 3 + 2 * e]? = some (.cells (spec_thTable.irow p.2) 3 (0, 0))
structure spec_thTable.Tb (w : World) (N n : Nat) (rows : List (List Int × List Int)) : Prop where
  least : w.heap[N]? = some (.cells (spec_thTable.oc (N + 2) n rows.length) 26 (0, 0))
  ways : w.heap[N + 1]? = some (.cells (spec_thTable.oc (N + 3) n rows.length) 26 (0, 0))
  rows : spec_thTable.Rows w N rows
theorem spec_thTable.Tb.below {w w' : World} {N n : Nat} {rows : List (List Int × List Int)} (h : spec_thTable.Tb w N n rows) (hb : Below w.heap.size w w') : spec_thTable.Tb w' N n rows :=
  ⟨blk_below h.least hb, blk_below h.ways hb, fun e he => by
    obtain ⟨p, h0, h1, h2, h3, h4⟩ := h.rows e he
    exact ⟨p, h0, h1, h2, blk_below h3 hb, blk_below h4 hb⟩⟩
theorem spec_thTable.infoL : (Tryz.prog.info? 26).map (fun i => (i.zero, i.size, i.bytes)) = some (some (.slice none 0 0), 1, 24) := by kernel_rfl
theorem spec_thTable.kept_set {W w : World} {S : Nat → Prop} (h : Kept W w S) {p : Addr} (hp : S p.block) (u : Value) : Kept W (w.setCell p u) S :=
  ⟨by simpa using h.1, fun i hi hn => (Below.heap_setCell w p u i (fun e => hn (e ▸ hp))).trans (h.2 i hi hn)⟩
theorem spec_thTable.go_succ {k : Nat} {s : ByteArray} {c : Bool} {d : Nat} {rows T : List (List Int × List Int)} (h : spec_thTable.go k s c (d + 1) rows = some T) :
    ∃ t r, 0 ≤ t ∧ t ≤ 11 ∧ spec_thPlace.f k (bt s (d : Int)) = some t ∧ spec_thTable.inr k c (bt s (d : Int)) t.toNat (rows.getD (rows.length - 1) ([], [])).1 (rows.getD (rows.length - 1) ([], [])).2 144 0 (List.replicate 144 0) (List.replicate 144 0) = some r ∧ spec_thTable.go k s c d (rows ++ [r]) = some T := by
  rw [spec_thTable.go] at h
  obtain ⟨r, hr, h⟩ := Option.bind_eq_some_iff.1 h
  unfold spec_thTable.row at hr
  obtain ⟨t, ht, hr⟩ := Option.bind_eq_some_iff.1 hr
  split at hr
  · rename_i h1
    exact ⟨t, r, h1.1, h1.2, ht, hr, h⟩
  · cases hr
theorem spec_thTable.Rows.snoc {w : World} {N : Nat} {rows : List (List Int × List Int)} {r : List Int × List Int} (h : spec_thTable.Rows w N rows) (h1 : r.1.length = 144) (h2 : r.2.length = 144)
    (h3 : w.heap[N + 2 + 2 * rows.length]? = some (.cells (spec_thTable.irow r.1) 3 (0, 0))) (h4 : w.heap[N + 3 + 2 * rows.length]? = some (.cells (spec_thTable.irow r.2) 3 (0, 0))) : spec_thTable.Rows w N (rows ++ [r]) := by
  intro e he
  rw [List.length_append, List.length_singleton] at he
  by_cases hl : e < rows.length
  · obtain ⟨p, e1, e2⟩ := h e hl
    refine ⟨p, ?_, e2⟩
    rw [List.getD_eq_getElem?_getD, List.getElem?_append_left hl, ← List.getD_eq_getElem?_getD]
    exact e1
  · obtain rfl : e = rows.length := by omega
    refine ⟨r, ?_, h1, h2, h3, h4⟩
    rw [List.getD_eq_getElem?_getD, List.getElem?_append_right (Nat.le_refl _), Nat.sub_self]
    rfl
def spec_thTable.ones (i : Nat) : List Int := List.replicate i 1 ++ List.replicate (144 - i) 0
theorem spec_thTable.ones_len {i : Nat} (h : i ≤ 144) : (spec_thTable.ones i).length = 144 := by
  simp only [spec_thTable.ones, List.length_append, List.length_replicate]
  omega
theorem spec_thTable.ones_set {i : Nat} (h : i < 144) : (spec_thTable.ones i).set i 1 = spec_thTable.ones (i + 1) := by
  unfold spec_thTable.ones
  rw [show 144 - i = (144 - (i + 1)) + 1 by omega, List.replicate_succ, List.set_append_right _ _ (by simp), List.length_replicate, Nat.sub_self, List.set_cons_zero, List.replicate_succ' (n := i), List.append_assoc]
  rfl
theorem spec_thTable.row_cell {W : World} {b i : Nat} {l : List Int} (h : W.heap[b]? = some (.cells (spec_thTable.irow l) 3 (0, 0))) (hi : i < l.length) : W.cell? ⟨b, i, none⟩ = some (.int .i64 (l.getD i 0)) ∧ W.frozen? ⟨b, i, none⟩ = false :=
  ⟨(blk_cell h _).trans (spec_thTable.irow_at hi), blk_frozen h _⟩
theorem spec_thTable.Rows.kept {w w' : World} {N : Nat} {rows : List (List Int × List Int)} {S : Nat → Prop} (h : spec_thTable.Rows w N rows) (k : Kept w w' S) (hs : ∀ x, S x → x < N + 2 ∨ N + 2 + 2 * rows.length ≤ x) : spec_thTable.Rows w' N rows := fun e he => by
  obtain ⟨p, h0, h1, h2, h3, h4⟩ := h e he
  exact ⟨p, h0, h1, h2, blk_kept h3 k (fun hx => by have := hs _ hx; omega), blk_kept h4 k (fun hx => by have := hs _ hx; omega)⟩
structure spec_thTable.In (w : World) (N n : Nat) (rows : List (List Int × List Int)) (ln wn : List Int) : Prop where
  least : w.heap[N]? = some (.cells (spec_thTable.oc (N + 2) n (rows.length + 1)) 26 (0, 0))
  ways : w.heap[N + 1]? = some (.cells (spec_thTable.oc (N + 3) n (rows.length + 1)) 26 (0, 0))
  r1 : w.heap[N + 2 + 2 * rows.length]? = some (.cells (spec_thTable.irow ln) 3 (0, 0))
  r2 : w.heap[N + 3 + 2 * rows.length]? = some (.cells (spec_thTable.irow wn) 3 (0, 0))
  rows : spec_thTable.Rows w N rows
theorem spec_thTable.In.drew {w : World} {N n : Nat} {rows : List (List Int × List Int)} {ln wn : List Int} (h : spec_thTable.In w N n rows ln wn) (m : Nat) : spec_thTable.In (w.drewN m) N n rows ln wn := ⟨h.least, h.ways, h.r1, h.r2, h.rows⟩
theorem spec_thTable.In.setl {w : World} {N n : Nat} {rows : List (List Int × List Int)} {ln wn : List Int} (h : spec_thTable.In w N n rows ln wn) (i : Nat) (x : Int) : spec_thTable.In (w.setCell ⟨N + 2 + 2 * rows.length, i, none⟩ (.int .i64 x)) N n rows (ln.set i x) wn :=
  ⟨blk_far h.least (by show N ≠ N + 2 + 2 * rows.length; omega) _, blk_far h.ways (by show N + 1 ≠ N + 2 + 2 * rows.length; omega) _, by rw [← spec_thTable.irow_set]; exact blk_set h.r1 _ _, blk_far h.r2 (by show N + 3 + 2 * rows.length ≠ N + 2 + 2 * rows.length; omega) _,
    h.rows.kept (S := fun x => x = N + 2 + 2 * rows.length) (spec_thTable.kept_set (S := fun x => x = N + 2 + 2 * rows.length) (p := ⟨N + 2 + 2 * rows.length, i, none⟩) (Kept.refl _ _) rfl _) (fun x hx => by omega)⟩
theorem spec_thTable.In.setw {w : World} {N n : Nat} {rows : List (List Int × List Int)} {ln wn : List Int} (h : spec_thTable.In w N n rows ln wn) (i : Nat) (x : Int) : spec_thTable.In (w.setCell ⟨N + 3 + 2 * rows.length, i, none⟩ (.int .i64 x)) N n rows ln (wn.set i x) :=
  ⟨blk_far h.least (by show N ≠ N + 3 + 2 * rows.length; omega) _, blk_far h.ways (by show N + 1 ≠ N + 3 + 2 * rows.length; omega) _, blk_far h.r1 (by show N + 2 + 2 * rows.length ≠ N + 3 + 2 * rows.length; omega) _, by rw [← spec_thTable.irow_set]; exact blk_set h.r2 _ _,
    h.rows.kept (S := fun x => x = N + 3 + 2 * rows.length) (spec_thTable.kept_set (S := fun x => x = N + 3 + 2 * rows.length) (p := ⟨N + 3 + 2 * rows.length, i, none⟩) (Kept.refl _ _) rfl _) (fun x hx => by omega)⟩
theorem spec_thTable.In.cells {w : World} {N n j : Nat} {rows : List (List Int × List Int)} {ln wn : List Int} (h : spec_thTable.In w N n rows ln wn) (hj : j + rows.length = n) :
    w.cell? ⟨N, j, none⟩ = some (Value.slice (some ⟨N + 2 + 2 * rows.length, 0, none⟩) 144 144) ∧ w.cell? ⟨N + 1, j, none⟩ = some (Value.slice (some ⟨N + 3 + 2 * rows.length, 0, none⟩) 144 144) :=
  ⟨(blk_cell h.least _).trans ((spec_thTable.oc_at (by omega) (by omega)).trans (by rw [show n - j = rows.length by omega])), (blk_cell h.ways _).trans ((spec_thTable.oc_at (by omega) (by omega)).trans (by rw [show n - j = rows.length by omega]))⟩
theorem spec_thTable.In.cells1 {w : World} {N n j e : Nat} {rows : List (List Int × List Int)} {ln wn : List Int} (h : spec_thTable.In w N n rows ln wn) (hj : j + e = n) (he : e < rows.length) :
    w.cell? ⟨N, j, none⟩ = some (Value.slice (some ⟨N + 2 + 2 * e, 0, none⟩) 144 144) ∧ w.cell? ⟨N + 1, j, none⟩ = some (Value.slice (some ⟨N + 3 + 2 * e, 0, none⟩) 144 144) :=
  ⟨(blk_cell h.least _).trans ((spec_thTable.oc_at (by omega) (by omega)).trans (by rw [show n - j = e by omega])), (blk_cell h.ways _).trans ((spec_thTable.oc_at (by omega) (by omega)).trans (by rw [show n - j = e by omega]))⟩
theorem spec_thTable.nums {d tn l q e x1 x2 y1 y2 : Nat} (htn : tn ≤ 11) (hl : l < 12) (hq : q < 12) (hd : d ≤ 1000) (he : e = d + 1) (hy1 : y1 = 12 * tn) (hy2 : y2 = 12 * l) (hx1 : x1 = 12 * tn + q) (hx2 : x2 = 12 * l + tn) :
    IntKind.i64.wrap (12 * (tn : Int)) = (y1 : Int) ∧ IntKind.i64.wrap (12 * (l : Int)) = (y2 : Int) ∧ IntKind.i64.wrap ((y1 : Int) + (q : Int)) = (x1 : Int) ∧ IntKind.i64.wrap ((y2 : Int) + (tn : Int)) = (x2 : Int) ∧ IntKind.i64.wrap ((d : Int) + 1) = (e : Int) := by
  subst he hy1 hy2 hx1 hx2
  refine ⟨(i64_w _).trans ?_, (i64_w _).trans ?_, (i64_w _).trans ?_, (i64_w _).trans ?_, (i64_w _).trans ?_⟩ <;> unfold wrap64 <;> omega
theorem spec_thTable.divs {i l q : Nat} (hi : i < 144) (hl : l = i / 12) (hq : q = i % 12) : IntKind.i64.wrap (Int.tdiv (i : Int) 12) = (l : Int) ∧ Int.tmod (i : Int) 12 = (q : Int) := by
  subst hl hq
  refine ⟨(i64_w _).trans ?_, ?_⟩
  · unfold wrap64
    rw [Int.tdiv_eq_ediv_of_nonneg (by omega)]
    omega
  · rw [Int.tmod_eq_emod_of_nonneg (by omega)]
    omega
structure spec_thTable.Bd (w W : World) (n : Nat) (rows : List (List Int × List Int)) (ln wn : List Int) (bl b0 w0 d e x1 x2 i : Nat) (g1 g2 h1 h2 : Int) : Prop where
  tab : spec_thTable.In W w.heap.size n rows ln wn
  below : Below w.heap.size w W
  size : W.heap.size = bl + 2
  cN : W.cell? ⟨w.heap.size, d, none⟩ = some (Value.slice (some ⟨bl, 0, none⟩) 144 144)
  cW : W.cell? ⟨w.heap.size + 1, d, none⟩ = some (Value.slice (some ⟨bl + 1, 0, none⟩) 144 144)
  cN1 : W.cell? ⟨w.heap.size, e, none⟩ = some (Value.slice (some ⟨b0, 0, none⟩) 144 144)
  cW1 : W.cell? ⟨w.heap.size + 1, e, none⟩ = some (Value.slice (some ⟨w0, 0, none⟩) 144 144)
  cl1 : W.cell? ⟨b0, x1, none⟩ = some (Value.int .i64 g1)
  cl2 : W.cell? ⟨b0, x2, none⟩ = some (Value.int .i64 g2)
  cw1 : W.cell? ⟨w0, x1, none⟩ = some (Value.int .i64 h1)
  cw2 : W.cell? ⟨w0, x2, none⟩ = some (Value.int .i64 h2)
  ci : W.cell? ⟨bl + 1, i, none⟩ = some (Value.int .i64 (wn.getD i 0))
  fi : W.frozen? ⟨bl + 1, i, none⟩ = false
  cl : W.cell? ⟨bl, i, none⟩ = some (Value.int .i64 (ln.getD i 0))
  fl : W.frozen? ⟨bl, i, none⟩ = false
theorem spec_thTable.Bd.drew {w W : World} {n : Nat} {rows : List (List Int × List Int)} {ln wn : List Int} {bl b0 w0 d e x1 x2 i : Nat} {g1 g2 h1 h2 : Int} (h : spec_thTable.Bd w W n rows ln wn bl b0 w0 d e x1 x2 i g1 g2 h1 h2) (m : Nat) : spec_thTable.Bd w (W.drewN m) n rows ln wn bl b0 w0 d e x1 x2 i g1 g2 h1 h2 :=
  ⟨h.tab.drew m, pw_below_drewN h.below m, h.size, h.cN, h.cW, h.cN1, h.cW1, h.cl1, h.cl2, h.cw1, h.cw2, h.ci, h.fi, h.cl, h.fl⟩
theorem spec_thTable.Bd.drew1 {w W : World} {n : Nat} {rows : List (List Int × List Int)} {ln wn : List Int} {bl b0 w0 d e x1 x2 i : Nat} {g1 g2 h1 h2 : Int} (h : spec_thTable.Bd w W n rows ln wn bl b0 w0 d e x1 x2 i g1 g2 h1 h2) : spec_thTable.Bd w W.drew n rows ln wn bl b0 w0 d e x1 x2 i g1 g2 h1 h2 :=
  ⟨⟨h.tab.least, h.tab.ways, h.tab.r1, h.tab.r2, h.tab.rows⟩, below_drew1 h.below, h.size, h.cN, h.cW, h.cN1, h.cW1, h.cl1, h.cl2, h.cw1, h.cw2, h.ci, h.fi, h.cl, h.fl⟩
theorem spec_thTable.set_at {l : List Int} {i : Nat} (h : i < l.length) (x : Int) : (l.set i x).getD i 0 = x := by
  rw [List.getD_eq_getElem?_getD, List.getElem?_set_self h]
  rfl
theorem spec_thTable.Bd.of {w W : World} {n m : Nat} {rows : List (List Int × List Int)} {ln wn lo wo : List Int} {bl b0 w0 d e x1 x2 i : Nat} {g1 g2 h1 h2 : Int} (hI : spec_thTable.In W w.heap.size n rows ln wn) (hB : Below w.heap.size w W) (hS : W.heap.size = bl + 2)
    (hp : rows.getD m ([], []) = (lo, wo)) (hm : rows.length = m + 1) (hrl : rows.length + (d + 1) = n + 1) (hbl : bl = w.heap.size + 2 + 2 * rows.length) (hb0 : b0 = w.heap.size + 2 + 2 * m) (hw0 : w0 = w.heap.size + 3 + 2 * m) (he : e = d + 1)
    (hln : ln.length = 144) (hwn : wn.length = 144) (hx1 : x1 < 144) (hx2 : x2 < 144) (hi : i < 144) (hg1 : g1 = lo.getD x1 0) (hg2 : g2 = lo.getD x2 0) (hh1 : h1 = wo.getD x1 0) (hh2 : h2 = wo.getD x2 0) : spec_thTable.Bd w W n rows ln wn bl b0 w0 d e x1 x2 i g1 g2 h1 h2 := by
  obtain ⟨p, hpp, h1l, h2l, hb1, hb2⟩ := hI.rows m (by omega)
  obtain rfl := hp.symm.trans hpp
  obtain ⟨cN, cW⟩ := hI.cells (show d + rows.length = n by omega)
  obtain ⟨cN1, cW1⟩ := hI.cells1 (show e + m = n by omega) (by omega)
  have r2 := hI.r2
  have r1 := hI.r1
  rw [← hbl] at cN r1
  rw [show w.heap.size + 3 + 2 * rows.length = bl + 1 by omega] at cW r2
  rw [← hb0] at cN1 hb1
  rw [← hw0] at cW1 hb2
  subst hg1 hg2 hh1 hh2
  exact ⟨hI, hB, hS, cN, cW, cN1, cW1, (spec_thTable.row_cell hb1 (by rw [h1l]; exact hx1)).1, (spec_thTable.row_cell hb1 (by rw [h1l]; exact hx2)).1, (spec_thTable.row_cell hb2 (by rw [h2l]; exact hx1)).1, (spec_thTable.row_cell hb2 (by rw [h2l]; exact hx2)).1,
    (spec_thTable.row_cell r2 (by omega)).1, (spec_thTable.row_cell r2 (by omega)).2, (spec_thTable.row_cell r1 (by omega)).1, (spec_thTable.row_cell r1 (by omega)).2⟩
theorem spec_thTable.Bd.setl {w W : World} {n : Nat} {rows : List (List Int × List Int)} {ln wn : List Int} {bl b0 w0 d e x1 x2 i : Nat} {g1 g2 h1 h2 : Int} (h : spec_thTable.Bd w W n rows ln wn bl b0 w0 d e x1 x2 i g1 g2 h1 h2) (hbl : bl = w.heap.size + 2 + 2 * rows.length) (hb : b0 + 2 ≤ bl) (hw : w0 + 1 ≤ bl) (hin : i < ln.length) (x : Int) :
    spec_thTable.Bd w (W.setCell ⟨bl, i, none⟩ (.int .i64 x)) n rows (ln.set i x) wn bl b0 w0 d e x1 x2 i g1 g2 h1 h2 := by
  have hT := h.tab.setl i x
  rw [← hbl] at hT
  have hr1 := hT.r1
  rw [← hbl] at hr1
  have other : ∀ (b j : Nat), b ≠ bl → (W.setCell ⟨bl, i, none⟩ (.int .i64 x)).cell? ⟨b, j, none⟩ = W.cell? ⟨b, j, none⟩ := fun b j hne => by
    unfold World.cell?
    rw [show (W.setCell ⟨bl, i, none⟩ (.int .i64 x)).heap[b]? = W.heap[b]? from Below.heap_setCell W _ _ b hne]
  have hr2 := hT.r2
  rw [show w.heap.size + 3 + 2 * rows.length = bl + 1 by omega] at hr2
  refine ⟨hT, below_set h.below (by omega), by simpa using h.size, (other _ _ (by omega)).trans h.cN, (other _ _ (by omega)).trans h.cW, (other _ _ (by omega)).trans h.cN1, (other _ _ (by omega)).trans h.cW1, (other _ _ (by omega)).trans h.cl1, (other _ _ (by omega)).trans h.cl2, (other _ _ (by omega)).trans h.cw1, (other _ _ (by omega)).trans h.cw2, (other _ _ (by omega)).trans h.ci, blk_frozen hr2 _, (spec_thTable.row_cell hr1 (by rw [List.length_set]; exact hin)).1, blk_frozen hr1 _⟩
theorem spec_thTable.Bd.setw {w W : World} {n : Nat} {rows : List (List Int × List Int)} {ln wn : List Int} {bl b0 w0 d e x1 x2 i : Nat} {g1 g2 h1 h2 : Int} (h : spec_thTable.Bd w W n rows ln wn bl b0 w0 d e x1 x2 i g1 g2 h1 h2) (hbl : bl = w.heap.size + 2 + 2 * rows.length) (hb : b0 + 2 ≤ bl) (hw : w0 + 1 ≤ bl) (hin : i < wn.length) (x : Int) :
    spec_thTable.Bd w (W.setCell ⟨bl + 1, i, none⟩ (.int .i64 x)) n rows ln (wn.set i x) bl b0 w0 d e x1 x2 i g1 g2 h1 h2 := by
  have hT := h.tab.setw i x
  rw [show w.heap.size + 3 + 2 * rows.length = bl + 1 by omega] at hT
  have hr1 := hT.r1
  rw [← hbl] at hr1
  have other : ∀ (b j : Nat), b ≠ bl + 1 → (W.setCell ⟨bl + 1, i, none⟩ (.int .i64 x)).cell? ⟨b, j, none⟩ = W.cell? ⟨b, j, none⟩ := fun b j hne => by
    unfold World.cell?
    rw [show (W.setCell ⟨bl + 1, i, none⟩ (.int .i64 x)).heap[b]? = W.heap[b]? from Below.heap_setCell W _ _ b hne]
  have hr2 := hT.r2
  rw [show w.heap.size + 3 + 2 * rows.length = bl + 1 by omega] at hr2
  refine ⟨hT, below_set h.below (by omega), by simpa using h.size, (other _ _ (by omega)).trans h.cN, (other _ _ (by omega)).trans h.cW, (other _ _ (by omega)).trans h.cN1, (other _ _ (by omega)).trans h.cW1, (other _ _ (by omega)).trans h.cl1, (other _ _ (by omega)).trans h.cl2, (other _ _ (by omega)).trans h.cw1, (other _ _ (by omega)).trans h.cw2, (spec_thTable.row_cell hr2 (by rw [List.length_set]; exact hin)).1, blk_frozen hr2 _, (other _ _ (by omega)).trans h.cl, blk_frozen hr1 _⟩
theorem spec_thTable.mk {W : World} {b B n m j bl : Nat} {Z : Array Value} (h : W.heap[b]? = some (.cells (spec_thTable.oc B n m) 26 (0, 0))) (hs : W.heap.size = bl) (hj : j + m = n) (hbl : bl = B + 2 * m) :
    ((W.setCell ⟨b, j, none⟩ (Value.slice (some ⟨bl, 0, none⟩) 144 144)).alloc (.cells Z 3)).heap[b]? = some (.cells (spec_thTable.oc B n (m + 1)) 26 (0, 0)) ∧
    ((W.setCell ⟨b, j, none⟩ (Value.slice (some ⟨bl, 0, none⟩) 144 144)).alloc (.cells Z 3)).heap[bl]? = some (.cells Z 3 (0, 0)) ∧
    ((W.setCell ⟨b, j, none⟩ (Value.slice (some ⟨bl, 0, none⟩) 144 144)).alloc (.cells Z 3)).heap.size = bl + 1 ∧
    Kept W ((W.setCell ⟨b, j, none⟩ (Value.slice (some ⟨bl, 0, none⟩) 144 144)).alloc (.cells Z 3)) (fun x => x = b) := by
  have hs2 : (W.setCell ⟨b, j, none⟩ (Value.slice (some ⟨bl, 0, none⟩) 144 144)).heap.size = bl := by simpa using hs
  refine ⟨blk_alloc (blk_put h _ _ (by rw [hbl]; exact spec_thTable.oc_set hj)) _, ?_, by simp [hs], by simp [hs], ?_⟩
  · have := blk_new (W.setCell ⟨b, j, none⟩ (Value.slice (some ⟨bl, 0, none⟩) 144 144)) (.cells Z 3)
    rwa [hs2] at this
  · intro i hi hn
    rw [Below.heap_alloc _ _ i (by rw [hs2, ← hs]; exact hi)]
    exact Below.heap_setCell W _ _ i hn
theorem spec_thTable.mk_cell {W : World} {b B n m j : Nat} {Z : Array Value} (h : W.heap[b]? = some (.cells (spec_thTable.oc B n m) 26 (0, 0))) (hj : j + m = n) :
    (W.alloc (.cells Z 3)).cell? ⟨b, j, none⟩ = some (.slice none 0 0) ∧ (W.alloc (.cells Z 3)).frozen? ⟨b, j, none⟩ = false :=
  ⟨(blk_cell (blk_alloc h _) _).trans (spec_thTable.oc_nil (by omega) (by omega)), blk_frozen (blk_alloc h _) _⟩
theorem spec_thTable.mk_below {w W : World} {b j bl : Nat} {Z : Array Value} (h : Below w.heap.size w W) (hb : w.heap.size ≤ b) : Below w.heap.size w ((W.setCell ⟨b, j, none⟩ (Value.slice (some ⟨bl, 0, none⟩) 144 144)).alloc (.cells Z 3)) :=
  below_alloc (below_set h hb) _
set_option maxHeartbeats 64000000 in
set_option maxRecDepth 100000 in
theorem spec_thTable.callsT (k : Nat) (a0 : ByteArray) (a1 : Bool) (T : List (List Int × List Int)) (w : World) (h : spec_thTable.g k a0 a1 = some T) :
    Calls Tryz.prog 37 #[.string a0, .bool a1] w fun e w' => e = .returned (.tuple #[.slice (some ⟨w.heap.size, 0, none⟩) (a0.size + 1) (a0.size + 1), .slice (some ⟨w.heap.size + 1, 0, none⟩) (a0.size + 1) (a0.size + 1)]) ∧ Below w.heap.size w w' ∧ T.length = a0.size + 1 ∧ spec_thTable.Tb w' w.heap.size a0.size T := by
  unfold spec_thTable.g at h
  split at h
  · rename_i hsz
    have HG := Aside0.mk h
    clear h
    obtain ⟨i0, hi0, hz0, hz1, hz2⟩ := info_parts info3
    obtain ⟨i1, hi1, hy0, hy1, hy2⟩ := info_parts spec_thTable.infoL
    obtain ⟨Z, hZ⟩ : ∃ Z, Z = spec_thTable.irow (List.replicate 144 0) := ⟨_, rfl⟩
    have hmk3 : ∀ W : World, (Instr.makeSlice 26 (.int .i64 144) (.int .i64 144)).run Tryz.prog W = .ok (.slice (some ⟨W.heap.size, 0, none⟩) 144 144) (W.alloc (.cells Z 3)) := by
      intro W
      have h := run_make W 26 3 i0 (.int .i64 0) Tryz.underlying26 hi0 hz0 .i64 .i64 144 144 (by omega) (by omega) (by rw [hz2]; omega) (by omega)
      rw [h, hz1, hZ]
      congr 3
      apply Array.ext'
      simp [madeCells, spec_thTable.irow, Nat.mod_one, List.map_const', Value.cells]
    obtain ⟨O1, hO1⟩ : ∃ O1, O1 = spec_thTable.oc (w.heap.size + 2) a0.size 0 := ⟨_, rfl⟩
    have hO2 : O1 = spec_thTable.oc (w.heap.size + 3) a0.size 0 := by rw [hO1, ← spec_thTable.oc_made, ← spec_thTable.oc_made]
    have hmkO : ∀ W : World, (Instr.makeSlice 63 (.int .i64 ((a0.size : Int) + 1)) (.int .i64 ((a0.size : Int) + 1))).run Tryz.prog W = .ok (.slice (some ⟨W.heap.size, 0, none⟩) (a0.size + 1) (a0.size + 1)) (W.alloc (.cells O1 26)) := by
      intro W
      have h := run_make W 63 26 i1 (.slice none 0 0) Tryz.underlying63 hi1 hy0 .i64 .i64 ((a0.size : Int) + 1) ((a0.size : Int) + 1) (by omega) (by omega) (by rw [hy2]; omega) (by omega)
      rw [h, hy1, Nat.mul_one, show ((a0.size : Int) + 1).toNat = a0.size + 1 by omega, hO1, ← spec_thTable.oc_made]
      congr 3
      apply Array.ext'
      simp [madeCells, Nat.mod_one, List.map_const', Value.cells]
    have hw1 : IntKind.i64.wrap ((a0.size : Int) + 1) = (a0.size : Int) + 1 := (i64_w _).trans (by unfold wrap64; omega)
    have hsz0 : (0 : Int) ≤ (a0.size : Int) := Int.natCast_nonneg _
    have hsz1 : (a0.size : Int) < (a0.size : Int) + 1 := by omega
    have hsz2 : (a0.size : Int) < ((a0.size + 1 : Nat) : Int) := by omega
    have HZ := Aside0.mk hZ
    have HO1 := Aside0.mk hO1
    have HO2 := Aside0.mk hO2
    clear hZ hO1 hO2 i0 hi0 hz0 hz1 hz2 i1 hi1 hy0 hy1 hy2
    go_enter Tryz.func37, Tryz.ntmps37
    generalize hP : (⟨#[49, 50, 51, 52, 53, 54, 55, 56, 57, 42, 48, 35]⟩ : ByteArray) = P
    go_upto_region 4 with fail
    have A1 : Aside0 (((w.alloc (.cells O1 26)).alloc (.cells O1 26)).heap[w.heap.size]? = some (.cells (spec_thTable.oc (w.heap.size + 2) a0.size 0) 26 (0, 0))) := ⟨by rw [← HO1.out]; exact blk_alloc (blk_new w _) _⟩
    have A2 : Aside0 (((w.alloc (.cells O1 26)).alloc (.cells O1 26)).heap[w.heap.size + 1]? = some (.cells (spec_thTable.oc (w.heap.size + 3) a0.size 0) 26 (0, 0))) := ⟨by rw [← HO2.out]; have := blk_new (w.alloc (.cells O1 26)) (.cells O1 26); simpa using this⟩
    have B1 : Aside0 (Below w.heap.size w ((w.alloc (.cells O1 26)).alloc (.cells O1 26))) := ⟨below_alloc (below_alloc (Below.refl _ _) _) _⟩
    have S1 : ((w.alloc (.cells O1 26)).alloc (.cells O1 26)).heap.size = w.heap.size + 2 := by simp
    generalize ((w.alloc (.cells O1 26)).alloc (.cells O1 26)) = W1 at *
    obtain ⟨hc1, hf1⟩ := spec_thTable.mk_cell (Z := Z) A1.out (show a0.size + 0 = a0.size by omega)
    go_upto_region 5 with fail
    obtain ⟨a1_, r1_, s1_, k1_⟩ := spec_thTable.mk (Z := Z) (bl := w.heap.size + 2) A1.out S1 (show a0.size + 0 = a0.size by omega) rfl
    have B2 := Aside0.mk (spec_thTable.mk_below (j := a0.size) (bl := w.heap.size + 2) (Z := Z) B1.out (Nat.le_refl w.heap.size))
    have A1' := Aside0.mk a1_
    have R1 := Aside0.mk r1_
    have A2' := Aside0.mk (blk_kept A2.out k1_ (by omega))
    clear A1 A2 B1 S1 hc1 hf1 a1_ r1_ k1_
    have S2 : ((W1.setCell ⟨w.heap.size, a0.size, none⟩ (Value.slice (some ⟨w.heap.size + 2, 0, none⟩) 144 144)).alloc (.cells Z 3)).heap.size = w.heap.size + 3 := s1_
    clear s1_
    generalize ((W1.setCell ⟨w.heap.size, a0.size, none⟩ (Value.slice (some ⟨w.heap.size + 2, 0, none⟩) 144 144)).alloc (.cells Z 3)) = W2 at *
    obtain ⟨hc1, hf1⟩ := spec_thTable.mk_cell (Z := Z) A2'.out (show a0.size + 0 = a0.size by omega)
    go_upto_region 6 with fail
    obtain ⟨a1_, r1_, s1_, k1_⟩ := spec_thTable.mk (Z := Z) (bl := w.heap.size + 3) A2'.out S2 (show a0.size + 0 = a0.size by omega) rfl
    have B3 := Aside0.mk (spec_thTable.mk_below (j := a0.size) (bl := w.heap.size + 3) (Z := Z) B2.out (show w.heap.size ≤ w.heap.size + 1 by omega))
    have A2 := Aside0.mk a1_
    have R2 := Aside0.mk r1_
    have A1 := Aside0.mk (blk_kept A1'.out k1_ (by omega))
    have R1' := Aside0.mk (blk_kept R1.out k1_ (by omega))
    clear A1' A2' B2 S2 hc1 hf1 a1_ r1_ k1_ R1
    have S3 : ((W2.setCell ⟨w.heap.size + 1, a0.size, none⟩ (Value.slice (some ⟨w.heap.size + 3, 0, none⟩) 144 144)).alloc (.cells Z 3)).heap.size = w.heap.size + 4 := s1_
    clear s1_
    generalize ((W2.setCell ⟨w.heap.size + 1, a0.size, none⟩ (Value.slice (some ⟨w.heap.size + 3, 0, none⟩) 144 144)).alloc (.cells Z 3)) = W3 at *
    have hcw : W3.cell? ⟨w.heap.size + 1, a0.size, none⟩ = some (.slice (some ⟨w.heap.size + 3, 0, none⟩) 144 144) := (blk_cell A2.out _).trans ((spec_thTable.oc_at (Nat.le_refl _) (by omega)).trans (by rw [Nat.sub_self]))
    rw [HZ.out] at R1' R2
    have SZ := Aside0.mk S3
    clear S3
    go_wp2
    go_loopg [38] 144 (fun gg s38 wr => ∃ (i : Nat), s38 = .int .i64 (i : Int) ∧ i + gg = 144 ∧ Aside0 (wr.heap[w.heap.size + 3]? = some (.cells (spec_thTable.irow (spec_thTable.ones i)) 3 (0, 0))) ∧ Aside0 (Kept W3 wr (fun x => x = w.heap.size + 3)) ∧ Aside0 (Below w.heap.size w wr) ∧ Aside0 (wr.heap.size = w.heap.size + 4))
    case atStart => exact ⟨0, rfl, by omega, R2, ⟨Kept.refl _ _⟩, B3, SZ⟩
    case round =>
      obtain ⟨i, rfl, hi, HR, HK, HB, HS⟩ := hrel
      by_cases hlt : i < 144
      · obtain ⟨d, rfl⟩ : ∃ d, gk = d + 1 := ⟨gk - 1, by omega⟩
        have hiz0 : (0 : Int) ≤ (i : Int) := Int.natCast_nonneg _
        have hiz1 : (i : Int) < 144 := by omega
        have hcw2 : wr.cell? ⟨w.heap.size + 1, a0.size, none⟩ = some (.slice (some ⟨w.heap.size + 3, 0, none⟩) 144 144) := (blk_cell (blk_kept A2.out HK.out (by omega)) _).trans ((spec_thTable.oc_at (Nat.le_refl _) (by omega)).trans (by rw [Nat.sub_self]))
        obtain ⟨hc1, hf1⟩ := spec_thTable.row_cell (i := i) HR.out (by rw [spec_thTable.ones_len (by omega)]; omega)
        clear hcw
        go_wp2
        go_roundg d
        case measure => omega
        case rel => exact ⟨i + 1, by go_num, by omega, ⟨by rw [← spec_thTable.ones_set hlt, ← spec_thTable.irow_set]; exact blk_set HR.out _ _⟩, ⟨spec_thTable.kept_set HK.out rfl _⟩, ⟨below_set HB.out (by show w.heap.size ≤ w.heap.size + 3; omega)⟩, ⟨by simpa using HS.out⟩⟩
      · obtain rfl : gk = 0 := by omega
        obtain rfl : i = 144 := by omega
        have A1'' := Aside0.mk (blk_kept A1.out HK.out (by omega))
        have A2'' := Aside0.mk (blk_kept A2.out HK.out (by omega))
        have R1 := Aside0.mk (blk_kept R1'.out HK.out (by omega))
        have HT : Aside0 (spec_thTable.Tb wr w.heap.size a0.size [(List.replicate 144 0, List.replicate 144 1)]) := ⟨⟨A1''.out, A2''.out, by
          intro e he
          obtain rfl : e = 0 := by simpa using he
          exact ⟨_, rfl, List.length_replicate, List.length_replicate, R1.out, HR.out⟩⟩⟩
        clear A1 A2 B3 SZ R1' R2 HK HR A1'' A2'' R1 hcw
        go_wp2
        have hwm : IntKind.i64.wrap ((a0.size : Int) - 1) = (a0.size : Int) - 1 := (i64_w _).trans (by unfold wrap64; omega)
        go_loopg [10] a0.size (fun gg s10 wr => ∃ (rows : List (List Int × List Int)) (x : Int), s10 = .int .i64 x ∧ x = (gg : Int) - 1 ∧ rows.length + gg = a0.size + 1 ∧ 0 < rows.length ∧ Aside0 (spec_thTable.go k a0 a1 gg rows = some T) ∧ Aside0 (spec_thTable.Tb wr w.heap.size a0.size rows) ∧ Aside0 (Below w.heap.size w wr) ∧ Aside0 (wr.heap.size = w.heap.size + 2 + 2 * rows.length))
        case atStart => exact ⟨_, _, rfl, rfl, by simp only [List.length_singleton]; omega, by simp, HG, HT, HB, HS⟩
        case round =>
          obtain ⟨rows, x, rfl, hx, hrl, hr0, HO, HT2, HB2, HS2⟩ := hrel
          clear HT HB HS HG
          cases gk with
          | zero =>
            have hxn : ¬ (0 : Int) ≤ x := by omega
            have hxd : decide ((0 : Int) ≤ x) = false := decide_eq_false hxn
            have h := HO.out
            rw [spec_thTable.go] at h
            obtain rfl := Option.some.inj h
            clear h hx HO
            have HRL := Aside0.mk hrl
            clear hrl
            go_wp2
            go_ret2
            exact ⟨rfl, HB2.out, by have := HRL.out; omega, HT2.out⟩
          | succ d =>
            obtain rfl : x = (d : Int) := by omega
            obtain ⟨t, r, ht0, ht1, htp, hin, hgo⟩ := spec_thTable.go_succ HO.out
            clear HO
            obtain ⟨bl, hbl⟩ : ∃ bl, bl = w.heap.size + 2 + 2 * rows.length := ⟨_, rfl⟩
            have hS : wr.heap.size = bl := by rw [hbl]; exact HS2.out
            have hdz0 : (0 : Int) ≤ (d : Int) := Int.natCast_nonneg _
            have hdz1 : (d : Int) < (a0.size : Int) + 1 := by omega
            have hdz2 : (d : Int) < ((a0.size + 1 : Nat) : Int) := by omega
            have hdz3 : (d : Int) < (a0.size : Int) := by omega
            obtain ⟨hc1, hf1⟩ := spec_thTable.mk_cell (Z := Z) HT2.out.least (show d + rows.length = a0.size by omega)
            have hnl1 : w.heap.size < bl := by omega
            have hnl2 : w.heap.size ≠ bl := by omega
            have hnl3 : ¬ w.heap.size = bl := by omega
            have HTP := Aside0.mk (fun W => spec_thPlace.calls k (bt a0 (d : Int)) t W htp)
            have HIN := Aside0.mk hin
            have HGO := Aside0.mk hgo
            have HT0 := Aside0.mk (And.intro ht0 (And.intro ht1 hr0))
            have HBL := Aside0.mk hbl
            have HRL := Aside0.mk hrl
            clear HS2 hbl hrl hin hgo htp hx hr0 ht0 ht1
            go_upto_region 15 with fail
            have hbl := HBL.out
            have hrl := HRL.out
            obtain ⟨a1_, r1_, s1_, k1_⟩ := spec_thTable.mk (Z := Z) (bl := bl) HT2.out.least hS (show d + rows.length = a0.size by omega) hbl
            have B3 := Aside0.mk (spec_thTable.mk_below (j := d) (bl := bl) (Z := Z) HB2.out (Nat.le_refl w.heap.size))
            have A1 := Aside0.mk a1_
            have R1 := Aside0.mk r1_
            have A2 := Aside0.mk (blk_kept HT2.out.ways k1_ (by omega))
            have RR := Aside0.mk (HT2.out.rows.kept k1_ (fun x hx => by omega))
            clear HT2 HB2 hS hc1 hf1 a1_ r1_ k1_ hbl hrl
            have hS : ((wr.setCell ⟨w.heap.size, d, none⟩ (Value.slice (some ⟨bl, 0, none⟩) 144 144)).alloc (.cells Z 3)).heap.size = bl + 1 := s1_
            clear s1_
            generalize ((wr.setCell ⟨w.heap.size, d, none⟩ (Value.slice (some ⟨bl, 0, none⟩) 144 144)).alloc (.cells Z 3)) = W3 at *
            obtain ⟨hc1, hf1⟩ := spec_thTable.mk_cell (Z := Z) A2.out (show d + rows.length = a0.size by have := HRL.out; omega)
            go_upto_region 16 with fail
            have hbl := HBL.out
            have hrl := HRL.out
            obtain ⟨a1_, r1_, s1_, k1_⟩ := spec_thTable.mk (Z := Z) (bl := bl + 1) A2.out hS (show d + rows.length = a0.size by omega) (by omega)
            have B4 := Aside0.mk (spec_thTable.mk_below (j := d) (bl := bl + 1) (Z := Z) B3.out (show w.heap.size ≤ w.heap.size + 1 by omega))
            have HIn : Aside0 (spec_thTable.In ((W3.setCell ⟨w.heap.size + 1, d, none⟩ (Value.slice (some ⟨bl + 1, 0, none⟩) 144 144)).alloc (.cells Z 3)) w.heap.size a0.size rows (List.replicate 144 0) (List.replicate 144 0)) := ⟨⟨blk_kept A1.out k1_ (by omega), a1_, by rw [← hbl, ← HZ.out]; exact blk_kept R1.out k1_ (by omega), by rw [show w.heap.size + 3 + 2 * rows.length = bl + 1 by omega, ← HZ.out]; exact r1_, RR.out.kept k1_ (fun x hx => by omega)⟩⟩
            have hS4 := Aside0.mk s1_
            clear A1 A2 R1 RR B3 hS hc1 hf1 a1_ r1_ k1_ s1_
            generalize ((W3.setCell ⟨w.heap.size + 1, d, none⟩ (Value.slice (some ⟨bl + 1, 0, none⟩) 144 144)).alloc (.cells Z 3)) = W4 at *
            clear hbl hrl
            have hxk : ∀ h : d < a0.size, ((a0[d]'h).toNat : Int) = bt a0 (d : Int) := by
              have := bt_at a0 (d : Int)
              rwa [Int.toNat_natCast] at this
            go_upto_region 17 with (go_at_call 39; refine (HTP.out _).mono ?_; rintro e_ w_ ⟨rfl, ⟨nd, rfl⟩⟩)
            have B5 : Aside0 (Below w.heap.size w (W4.drewN nd)) := ⟨pw_below_drewN B4.out _⟩
            have HI5 := Aside0.mk (HIn.out.drew nd)
            have hS5 : Aside0 ((W4.drewN nd).heap.size = bl + 2) := ⟨hS4.out⟩
            generalize W4.drewN nd = W5 at *
            clear B4 HIn hS4 HTP
            have hrl := HRL.out
            have hbl := HBL.out
            obtain ⟨ht0, ht1, hr0⟩ := HT0.out
            obtain ⟨tn, rfl⟩ := Int.eq_ofNat_of_zero_le ht0
            obtain ⟨m, hm⟩ : ∃ m, rows.length = m + 1 := ⟨rows.length - 1, by omega⟩
            obtain ⟨lw, hlw, hlo, hwo, _⟩ := HI5.out.rows m (by omega)
            have hin := HIN.out
            rw [show rows.length - 1 = m by omega, hlw, Int.toNat_natCast] at hin
            have HIN2 := Aside0.mk hin
            obtain ⟨lo, wo⟩ := lw
            have HLW := Aside0.mk hlw
            have HLen := Aside0.mk (And.intro hlo hwo)
            have HM := Aside0.mk hm
            have htn : tn ≤ 11 := by omega
            have hcl := (HI5.out.cells (show d + rows.length = a0.size by omega)).1
            rw [← hbl] at hcl
            clear hin HIN HT0 ht0 ht1 hlw hlo hwo hrl hbl hm hr0
            go_wp2
            go_loopg [71] 144 (fun gg s71 wr => ∃ (i : Nat) (ln wn : List Int), s71 = .int .i64 (i : Int) ∧ i + gg = 144 ∧ ln.length = 144 ∧ wn.length = 144 ∧ Aside0 (spec_thTable.inr k a1 (bt a0 (d : Int)) tn lo wo gg i ln wn = some r) ∧ Aside0 (spec_thTable.In wr w.heap.size a0.size rows ln wn) ∧ Aside0 (Below w.heap.size w wr) ∧ Aside0 (wr.heap.size = bl + 2))
            case atStart => exact ⟨0, _, _, rfl, by omega, List.length_replicate, List.length_replicate, HIN2, HI5, B5, hS5⟩
            case round =>
              obtain ⟨i, ln, wn, rfl, hi, hln, hwn, HO, HI, HB, HS⟩ := hrel
              clear B5 HI5 hS5 HIN2 hcl
              by_cases hlt : i < 144
              · obtain ⟨g, rfl⟩ : ∃ g, gk = g + 1 := ⟨gk - 1, by omega⟩
                have h := HO.out
                rw [spec_thTable.inr] at h
                obtain ⟨p, hp, h⟩ := Option.bind_eq_some_iff.1 h
                have HN := Aside0.mk h
                unfold spec_thTable.stp at hp
                obtain ⟨fa, hfa, hp⟩ := Option.bind_eq_some_iff.1 hp
                obtain ⟨fb, hfb, hp⟩ := Option.bind_eq_some_iff.1 hp
                obtain ⟨mm, hmm, hp⟩ := Option.bind_eq_some_iff.1 hp
                obtain ⟨v, hv, hp⟩ := Option.bind_eq_some_iff.1 hp
                have hpe := Option.some.inj hp
                clear hp h HO
                have hrl := HRL.out
                have hbl := HBL.out
                have hm := HM.out
                obtain ⟨hlo, hwo⟩ := HLen.out
                obtain ⟨l, hl⟩ : ∃ l, l = i / 12 := ⟨_, rfl⟩
                obtain ⟨q, hq⟩ : ∃ q, q = i % 12 := ⟨_, rfl⟩
                rw [← hl, ← hq] at hmm hv
                rw [← hl] at hfa
                rw [← hq] at hfb
                have hl12 : l < 12 := by omega
                have hq12 : q < 12 := by omega
                obtain ⟨x1, hx1⟩ : ∃ x1, x1 = 12 * tn + q := ⟨_, rfl⟩
                obtain ⟨x2, hx2⟩ : ∃ x2, x2 = 12 * l + tn := ⟨_, rfl⟩
                rw [← hx1, ← hx2] at hmm hv
                obtain ⟨b0, hb0⟩ : ∃ b0, b0 = w.heap.size + 2 + 2 * m := ⟨_, rfl⟩
                obtain ⟨w0, hw0⟩ : ∃ w0, w0 = w.heap.size + 3 + 2 * m := ⟨_, rfl⟩
                obtain ⟨e, he⟩ : ∃ e, e = d + 1 := ⟨_, rfl⟩
                have HX := Aside0.mk (spec_thTable.Bd.of HI.out HB.out HS.out HLW.out hm hrl hbl hb0 hw0 he hln hwn (show x1 < 144 by omega) (show x2 < 144 by omega) hlt rfl rfl rfl rfl)
                have HSep := Aside0.mk (And.intro hbl (And.intro (show b0 + 2 ≤ bl by omega) (show w0 + 1 ≤ bl by omega)))
                generalize lo.getD x1 0 = g1 at *
                generalize lo.getD x2 0 = g2 at *
                generalize wo.getD x1 0 = h1 at *
                generalize wo.getD x2 0 = h2 at *
                obtain ⟨va, hva⟩ : ∃ va, va = wrap64 (fa + g1) := ⟨_, rfl⟩
                obtain ⟨vb, hvb⟩ : ∃ vb, vb = wrap64 (fb + g2) := ⟨_, rfl⟩
                rw [← hva, ← hvb] at hmm hv
                have hvaw : IntKind.i64.wrap (fa + g1) = va := (i64_w _).trans hva.symm
                have hvbw : IntKind.i64.wrap (fb + g2) = vb := (i64_w _).trans hvb.symm
                have hiz0 : (0 : Int) ≤ (i : Int) := Int.natCast_nonneg _
                have hiz1 : (i : Int) < 144 := by omega
                obtain ⟨hqd, hqm⟩ := spec_thTable.divs hlt hl hq
                have hqd2 : (i : Int) / 12 = (l : Int) := by rw [hl]; rfl
                obtain ⟨y1, hy1⟩ : ∃ y1, y1 = 12 * tn := ⟨_, rfl⟩
                obtain ⟨y2, hy2⟩ : ∃ y2, y2 = 12 * l := ⟨_, rfl⟩
                obtain ⟨hmul1, hmul2, hsum1, hsum2, hde⟩ := spec_thTable.nums htn hl12 hq12 (show d ≤ 1000 by omega) he hy1 hy2 hx1 hx2
                have hx1a : (0 : Int) ≤ (x1 : Int) := Int.natCast_nonneg _
                have hx1b : (x1 : Int) < 144 := by omega
                have hx2a : (0 : Int) ≤ (x2 : Int) := Int.natCast_nonneg _
                have hx2b : (x2 : Int) < 144 := by omega
                have hea : (0 : Int) ≤ (e : Int) := Int.natCast_nonneg _
                have heb : (e : Int) < (a0.size : Int) + 1 := by omega
                have hec : (e : Int) < ((a0.size + 1 : Nat) : Int) := by omega
                have hpad : spec_thTable.pad = P := hP
                have hPs : P.size = 12 := by rw [← hP]; rfl
                rw [hpad] at hfa hfb
                have hla : (0 : Int) ≤ (l : Int) := Int.natCast_nonneg _
                have hlb : (l : Int) < (P.size : Int) := by omega
                have hlc : (l : Int) < 12 := by omega
                have hld : l < P.size := by omega
                have hqa : (0 : Int) ≤ (q : Int) := Int.natCast_nonneg _
                have hqb : (q : Int) < (P.size : Int) := by omega
                have hqc : (q : Int) < 12 := by omega
                have hqe : q < P.size := by omega
                have hxl : ∀ h : l < P.size, ((P[l]'h).toNat : Int) = bt P (l : Int) := by
                  have := bt_at P (l : Int)
                  rwa [Int.toNat_natCast] at this
                have hxq : ∀ h : q < P.size, ((P[q]'h).toNat : Int) = bt P (q : Int) := by
                  have := bt_at P (q : Int)
                  rwa [Int.toNat_natCast] at this
                generalize bt P (l : Int) = cl at *
                generalize bt P (q : Int) = cq at *
                have HFA : Aside0 (∀ (W : World) (n : Nat), Calls Tryz.prog 40 #[.int .u8 cl, .int .u8 (bt a0 (d : Int)), .bool a1] (W.drewN n) fun e w'' => e = .returned (.int .i64 fa) ∧ ∃ m, w'' = W.drewN m) := ⟨fun W n => Calls.quiet_of ((spec_thFar.calls k _ _ a1 fa _ hfa).mono fun e w' h => ⟨h.1, h.2.out⟩)⟩
                have HFB : Aside0 (∀ (W : World) (n : Nat), Calls Tryz.prog 40 #[.int .u8 cq, .int .u8 (bt a0 (d : Int)), .bool a1] (W.drewN n) fun e w'' => e = .returned (.int .i64 fb) ∧ ∃ m, w'' = W.drewN m) := ⟨fun W n => Calls.quiet_of ((spec_thFar.calls k _ _ a1 fb _ hfb).mono fun e w' h => ⟨h.1, h.2.out⟩)⟩
                have HL1 : Aside0 (∀ W, Calls Tryz.prog 68 #[.int .i64 va, .int .i64 vb] W fun e w'' => e = .returned (.int .i64 mm) ∧ Drawn0 W w'') := ⟨fun W => spec_l1Least.calls va vb mm W hmm⟩
                have HV := Aside0.mk hv
                have HPE := Aside0.mk hpe
                have HLN := Aside0.mk (And.intro hln hwn)
                have HIL := Aside0.mk (show i < ln.length by omega)
                have HIW := Aside0.mk (show i < wn.length by omega)
                have HIx := Aside0.mk (And.intro hi (And.intro hl hq))
                clear hfa hfb hmm hv hpe hln hwn hi hl hq hl12 hq12 hx1 hx2 hb0 hw0 hrl hbl hm hlo hwo he hva hvb hy1 hy2 hP hpad HLen HLW HI HB HS 
                go_upto_region 21 with fail
                have c1 := HX.out.cN1
                have c2 := HX.out.cl1
                go_quiet (first | (go_at_call 40; with_reducible exact HFA.out _ _))
                have HX2 := Aside0.mk (HX.out.drew nq)
                generalize wr.drewN nq = W6 at *
                clear HX HFA hxl c1 c2
                go_upto_region 22 with fail
                have c1 := HX2.out.cN1
                have c2 := HX2.out.cl2
                go_quiet (first | (go_at_call 40; with_reducible exact HFB.out _ _))
                have HX := Aside0.mk (HX2.out.drew nq)
                generalize W6.drewN nq = W7 at *
                clear HX2 HFB hxq c1 c2
                go_upto_region 23 with fail
                have c1 := HX.out.cN
                have c2 := HX.out.cl
                have c3 := HX.out.fl
                go_region_held3 (fun w' => w'.cell? ⟨w.heap.size, d, none⟩ = some (Value.slice (some ⟨bl, 0, none⟩) 144 144)) (first | go_keep | exact ((HX.out.drew _).setl HSep.out.1 HSep.out.2.1 HSep.out.2.2 HIL.out _).cN) (first | (go_at_call 68; refine (HL1.out _).mono ?_; rintro e_ w' ⟨rfl, ⟨nd9, rfl⟩⟩))
                have HX8 := Aside0.mk ((HX.out.drew (1 + nd9)).setl HSep.out.1 HSep.out.2.1 HSep.out.2.2 HIL.out mm)
                generalize ((W7.drewN (1 + nd9)).setCell ⟨bl, i, none⟩ (Value.int .i64 mm)) = W8 at *
                clear HX HL1 c1 c2 c3
                obtain ⟨v0, hv0⟩ : ∃ v0, wn.getD i 0 = v0 := ⟨_, rfl⟩
                rw [hv0] at HV
                have HV0 := Aside0.mk hv0
                clear hv0
                by_cases hab : va ≤ vb
                · have hab1 : decide (va ≤ vb) = true := decide_eq_true hab
                  obtain ⟨u1, hu1⟩ : ∃ u1, u1 = wrap64 (v0 + h1) := ⟨_, rfl⟩
                  have hu1w : IntKind.i64.wrap (v0 + h1) = u1 := (i64_w _).trans hu1.symm
                  have hv := HV.out
                  simp only [if_pos hab, ← hu1] at hv
                  go_upto_region 25 with fail
                  have c1 := HX8.out.cW
                  have c2 := HV0.out ▸ HX8.out.ci
                  have c3 := HX8.out.fi
                  have c4 := HX8.out.cW1
                  have c5 := HX8.out.cw1
                  have HV1 := Aside0.mk hv
                  clear hv HV hu1
                  go_region
                  have HX9 := Aside0.mk (HX8.out.setw HSep.out.1 HSep.out.2.1 HSep.out.2.2 HIW.out u1).drew1
                  generalize (W8.setCell ⟨bl + 1, i, none⟩ (Value.int .i64 u1)).drew = W9 at *
                  clear HX8 c1 c2 c3 c4 c5
                  by_cases hba : vb ≤ va
                  · have hba1 : decide (vb ≤ va) = true := decide_eq_true hba
                    obtain ⟨u2, hu2⟩ : ∃ u2, u2 = wrap64 (u1 + h2) := ⟨_, rfl⟩
                    have hu2w : IntKind.i64.wrap (u1 + h2) = u2 := (i64_w _).trans hu2.symm
                    have hv := HV1.out
                    simp only [if_pos hba, ← hu2] at hv
                    clear HV1
                    have HV1 := Aside0.mk hv
                    clear hv hu2
                    go_upto_region 27 with fail
                    have c1 := HX9.out.cW
                    have c2 : W9.cell? ⟨bl + 1, i, none⟩ = some (Value.int .i64 u1) := by
                      have := HX9.out.ci
                      rw [spec_thTable.set_at HIW.out] at this
                      exact this
                    have c3 := HX9.out.fi
                    have c4 := HX9.out.cW1
                    have c5 := HX9.out.cw2
                    go_region
                    have HX10 := Aside0.mk (HX9.out.setw HSep.out.1 HSep.out.2.1 HSep.out.2.2 (by rw [List.length_set]; exact HIW.out) u2).drew1
                    rw [List.set_set] at HX10
                    generalize (W9.setCell ⟨bl + 1, i, none⟩ (Value.int .i64 u2)).drew = W10 at *
                    clear HX9 c1 c2 c3 c4 c5
                    have c1 := HX10.out.cW
                    have c2 : W10.cell? ⟨bl + 1, i, none⟩ = some (Value.int .i64 u2) := by
                      have := HX10.out.ci
                      rw [spec_thTable.set_at HIW.out] at this
                      exact this
                    have c3 := HX10.out.fi
                    have HL2 : Aside0 (∀ W, Calls Tryz.prog 68 #[.int .i64 u2, .int .i64 1000000000000001] W fun e w'' => e = .returned (.int .i64 v) ∧ Drawn0 W w'') := ⟨fun W => spec_l1Least.calls _ _ v W HV1.out⟩
                    go_upto_region 28 with fail
                    go_region_law (first | (go_simp; go_at_call 68; refine (HL2.out _).mono ?_; rintro e_ w' ⟨rfl, ⟨nd9, rfl⟩⟩))
                    all_goals as_aux_lemma =>
                      have HXe := Aside0.mk ((HX10.out.drew (1 + nd9)).setw HSep.out.1 HSep.out.2.1 HSep.out.2.2 (by rw [List.length_set]; exact HIW.out) v)
                      rw [List.set_set] at HXe
                      generalize ((W10.drewN (1 + nd9)).setCell ⟨bl + 1, i, none⟩ (Value.int .i64 v)) = We at *
                      clear HX10 c1 c2 c3 HL2 HV1
                      go_wp2
                      obtain rfl := HPE.out
                      go_roundg g
                      case measure => omega
                      case rel => exact ⟨i + 1, ln.set i mm, wn.set i v, by go_num, by have := HIx.out.1; omega, by rw [List.length_set]; exact HLN.out.1, by rw [List.length_set]; exact HLN.out.2, HN, ⟨HXe.out.tab⟩, ⟨HXe.out.below⟩, ⟨HXe.out.size⟩⟩
                  · have hba1 : decide (vb ≤ va) = false := decide_eq_false hba
                    have hv := HV1.out
                    simp only [if_neg hba] at hv
                    clear HV1
                    have HV1 := Aside0.mk hv
                    clear hv
                    have c1 := HX9.out.cW
                    have c2 : W9.cell? ⟨bl + 1, i, none⟩ = some (Value.int .i64 u1) := by
                      have := HX9.out.ci
                      rw [spec_thTable.set_at HIW.out] at this
                      exact this
                    have c3 := HX9.out.fi
                    have HL2 : Aside0 (∀ W, Calls Tryz.prog 68 #[.int .i64 u1, .int .i64 1000000000000001] W fun e w'' => e = .returned (.int .i64 v) ∧ Drawn0 W w'') := ⟨fun W => spec_l1Least.calls _ _ v W HV1.out⟩
                    go_upto_region 28 with fail
                    go_region_law (first | (go_simp; go_at_call 68; refine (HL2.out _).mono ?_; rintro e_ w' ⟨rfl, ⟨nd9, rfl⟩⟩))
                    all_goals as_aux_lemma =>
                      have HXe := Aside0.mk ((HX9.out.drew (1 + nd9)).setw HSep.out.1 HSep.out.2.1 HSep.out.2.2 (by rw [List.length_set]; exact HIW.out) v)
                      rw [List.set_set] at HXe
                      generalize ((W9.drewN (1 + nd9)).setCell ⟨bl + 1, i, none⟩ (Value.int .i64 v)) = We at *
                      clear HX9 c1 c2 c3 HL2 HV1
                      go_wp2
                      obtain rfl := HPE.out
                      go_roundg g
                      case measure => omega
                      case rel => exact ⟨i + 1, ln.set i mm, wn.set i v, by go_num, by have := HIx.out.1; omega, by rw [List.length_set]; exact HLN.out.1, by rw [List.length_set]; exact HLN.out.2, HN, ⟨HXe.out.tab⟩, ⟨HXe.out.below⟩, ⟨HXe.out.size⟩⟩
                · have hab1 : decide (va ≤ vb) = false := decide_eq_false hab
                  have hba : vb ≤ va := by omega
                  have hba1 : decide (vb ≤ va) = true := decide_eq_true hba
                  obtain ⟨u2, hu2⟩ : ∃ u2, u2 = wrap64 (v0 + h2) := ⟨_, rfl⟩
                  have hu2w : IntKind.i64.wrap (v0 + h2) = u2 := (i64_w _).trans hu2.symm
                  have hv := HV.out
                  simp only [if_neg hab, if_pos hba, ← hu2] at hv
                  go_upto_region 27 with fail
                  have c1 := HX8.out.cW
                  have c2 := HV0.out ▸ HX8.out.ci
                  have c3 := HX8.out.fi
                  have c4 := HX8.out.cW1
                  have c5 := HX8.out.cw2
                  have HV1 := Aside0.mk hv
                  clear hv HV hu2
                  go_region
                  have HX9 := Aside0.mk (HX8.out.setw HSep.out.1 HSep.out.2.1 HSep.out.2.2 HIW.out u2).drew1
                  generalize (W8.setCell ⟨bl + 1, i, none⟩ (Value.int .i64 u2)).drew = W9 at *
                  clear HX8 c1 c2 c3 c4 c5
                  have c1 := HX9.out.cW
                  have c2 : W9.cell? ⟨bl + 1, i, none⟩ = some (Value.int .i64 u2) := by
                    have := HX9.out.ci
                    rw [spec_thTable.set_at HIW.out] at this
                    exact this
                  have c3 := HX9.out.fi
                  have HL2 : Aside0 (∀ W, Calls Tryz.prog 68 #[.int .i64 u2, .int .i64 1000000000000001] W fun e w'' => e = .returned (.int .i64 v) ∧ Drawn0 W w'') := ⟨fun W => spec_l1Least.calls _ _ v W HV1.out⟩
                  go_upto_region 28 with fail
                  go_region_law (first | (go_simp; go_at_call 68; refine (HL2.out _).mono ?_; rintro e_ w' ⟨rfl, ⟨nd9, rfl⟩⟩))
                  all_goals as_aux_lemma =>
                    have HXe := Aside0.mk ((HX9.out.drew (1 + nd9)).setw HSep.out.1 HSep.out.2.1 HSep.out.2.2 (by rw [List.length_set]; exact HIW.out) v)
                    rw [List.set_set] at HXe
                    generalize ((W9.drewN (1 + nd9)).setCell ⟨bl + 1, i, none⟩ (Value.int .i64 v)) = We at *
                    clear HX9 c1 c2 c3 HL2 HV1
                    go_wp2
                    obtain rfl := HPE.out
                    go_roundg g
                    case measure => omega
                    case rel => exact ⟨i + 1, ln.set i mm, wn.set i v, by go_num, by have := HIx.out.1; omega, by rw [List.length_set]; exact HLN.out.1, by rw [List.length_set]; exact HLN.out.2, HN, ⟨HXe.out.tab⟩, ⟨HXe.out.below⟩, ⟨HXe.out.size⟩⟩
              · obtain rfl : gk = 0 := by omega
                obtain rfl : i = 144 := by omega
                have h := HO.out
                rw [spec_thTable.inr] at h
                obtain rfl := Option.some.inj h
                have hrl := HRL.out
                have hbl := HBL.out
                have HT9 : Aside0 (spec_thTable.Tb wr w.heap.size a0.size (rows ++ [(ln, wn)])) := ⟨⟨by rw [List.length_append]; exact HI.out.least, by rw [List.length_append]; exact HI.out.ways, HI.out.rows.snoc hln hwn HI.out.r1 HI.out.r2⟩⟩
                have hdm : IntKind.i64.wrap ((d : Int) - 1) = (d : Int) - 1 := (i64_w _).trans (by unfold wrap64; omega)
                have HS9 : Aside0 (wr.heap.size = w.heap.size + 2 + 2 * (rows ++ [(ln, wn)]).length) := ⟨by rw [HS.out, hbl, List.length_append, List.length_singleton]; omega⟩
                clear h HO HI HS hbl hrl
                go_wp2
                go_roundg d
                case measure => omega
                case rel => exact ⟨rows ++ [(ln, wn)], _, rfl, rfl, by have := HRL.out; rw [List.length_append, List.length_singleton]; omega, by rw [List.length_append, List.length_singleton]; omega, HGO, HT9, HB, HS9⟩
  · cases h
def spec_thTable.f (k : Nat) (a0 : ByteArray) (a1 : Bool) : Option (List (List Int) × List (List Int)) := (spec_thTable.g k a0 a1).bind fun T => some ((T.map Prod.fst).reverse, (T.map Prod.snd).reverse)
theorem spec_thTable.mono : ∀ a0 a1 k, LeO (spec_thTable.f k a0 a1) (spec_thTable.f (k + 1) a0 a1) := by
  intro a0 a1 k r h
  unfold spec_thTable.f at h ⊢
  obtain ⟨T, hT, h⟩ := Option.bind_eq_some_iff.1 h
  rw [spec_thTable.gmono a0 a1 k T hT]
  exact h
theorem spec_thTable.toS {w : World} {base G B n : Nat} {xs : List (List Int)} (hG : w.heap[G]? = some (.cells (spec_thTable.oc B n (n + 1)) 26 (0, 0))) (hl : xs.length = n + 1) (hn : n ≤ 1000) (hbase : base ≤ G) (hB : G < B) (hr : ∀ j, j ≤ n → (xs.getD j []).length = 144 ∧ w.heap[B + 2 * (n - j)]? = some (.cells (spec_thTable.irow (xs.getD j [])) 3 (0, 0))) :
    Kd.S (Kd.slice 3 (Kd.int .i64)) 26 w base (fun _ => True) (.slice (some ⟨G, 0, none⟩) (n + 1) (n + 1)) xs := by
  have hoc : (spec_thTable.oc B n (n + 1)).size = n + 1 := by simp [spec_thTable.oc]
  refine ⟨fun k => n - (k - B) / 2, fun _ _ => trivial, (spec_thTable.oc B n (n + 1)).toList, ?_, ?_, ?_⟩
  · rw [List.length_zipIdx, hl]
    show w.ownsRow base 26 1 _ (n + 1) _
    refine ⟨by rw [Array.length_toList, hoc, Nat.mul_one], Or.inr ⟨G, n + 1, spec_thTable.oc B n (n + 1), rfl, hbase, hG, Nat.le_refl _, by unfold maxLen; omega, by rw [hoc, Nat.mul_one], ?_⟩⟩
    rw [List.take_of_length_le (by rw [Array.length_toList, hoc, Nat.mul_one]; exact Nat.le_refl _)]
  · show _ = _ * 1
    rw [Array.length_toList, hoc, List.length_zipIdx, hl, Nat.mul_one]
  · intro j p hj
    rw [List.getElem?_zipIdx, Nat.zero_add] at hj
    obtain ⟨x, hx, rfl⟩ := Option.map_eq_some_iff.1 hj
    have hjl : j < n + 1 := by have := (List.getElem?_eq_some_iff.1 hx).1; omega
    have hxd : xs.getD j [] = x := by rw [List.getD_eq_getElem?_getD, hx]; rfl
    obtain ⟨h1, h2⟩ := hr j (by omega)
    rw [hxd] at h1 h2
    refine ⟨.slice (some ⟨B + 2 * (n - j), 0, none⟩) 144 144, ?_, ?_⟩
    · show ((spec_thTable.oc B n (n + 1)).toList.drop (j * 1)).take 1 = _
      have ho : (spec_thTable.oc B n (n + 1)).toList[j]? = some (Value.slice (some ⟨B + 2 * (n - j), 0, none⟩) 144 144) := by rw [Array.getElem?_toList]; exact spec_thTable.oc_at (by omega) (by omega)
      have hlj : j < (spec_thTable.oc B n (n + 1)).toList.length := by rw [Array.length_toList, hoc]; omega
      rw [Nat.mul_one, List.drop_eq_getElem_cons hlj]
      rw [List.getElem?_eq_getElem hlj] at ho
      rw [Option.some.inj ho]
      rfl
    · refine ⟨fun k hk => ?_, x.map (Value.int .i64), ?_, ?_⟩
      · have hk' : B + 2 * (n - j) = k := by simpa [Value.ownBlock] using hk
        subst hk'
        refine ⟨⟨trivial, fun e => ?_⟩, ?_⟩
        · have : B + 2 * (n - j) = G := by simpa [Value.ownBlock] using e
          omega
        · show n - (B + 2 * (n - j) - B) / 2 = j
          omega
      · rw [h1]
        show w.ownsRow base 3 1 _ 144 _
        exact ⟨by rw [List.length_map, h1], Or.inr ⟨B + 2 * (n - j), 144, spec_thTable.irow x, rfl, by omega, h2, Nat.le_refl _, by unfold maxLen; omega, by rw [spec_thTable.irow_size, h1], by rw [List.take_of_length_le (by rw [Array.length_toList, spec_thTable.irow_size, h1]; omega)]; rfl⟩⟩
      · refine ⟨by rw [List.length_map]; exact (Nat.mul_one _).symm, fun i q hq => ?_⟩
        show ((x.map (Value.int .i64)).drop (i * 1)).take 1 = [Value.int .i64 q]
        have hi : i < (x.map (Value.int .i64)).length := by rw [List.length_map]; exact (List.getElem?_eq_some_iff.1 hq).1
        rw [Nat.mul_one, List.drop_eq_getElem_cons hi, List.getElem_map]
        rw [(List.getElem?_eq_some_iff.1 hq).2]
        rfl
theorem spec_thTable.rev_at {α : Type} {T : List (List Int × List Int)} {n j : Nat} (f : List Int × List Int → List α) (hf : f ([], []) = []) (hl : T.length = n + 1) (hj : j ≤ n) : ((T.map f).reverse).getD j [] = f (T.getD (n - j) ([], [])) := by
  rw [List.getD_eq_getElem?_getD, List.getElem?_reverse (by rw [List.length_map]; omega), List.length_map, List.getElem?_map, hl, show n + 1 - 1 - j = n - j by omega, List.getD_eq_getElem?_getD, List.getElem?_eq_getElem (by omega)]
  rfl
theorem spec_thTable.calls (k : Nat) (a0 : ByteArray) (a1 : Bool) (r1 : List (List Int)) (r2 : List (List Int)) (w : World) (h : spec_thTable.f k a0 a1 = some (r1, r2)) :
    Calls Tryz.prog 37 #[.string a0, .bool a1] w fun e w' => ∃ v0_ v1_ : Value, e = .returned (.tuple #[v0_, v1_]) ∧ Kd.S (Kd.slice 3 (Kd.int .i64)) 26 w' w.heap.size (fun _ => True) v0_ r1 ∧ Kd.S (Kd.slice 3 (Kd.int .i64)) 26 w' w.heap.size (fun _ => True) v1_ r2 ∧ Below w.heap.size w w' := by
  unfold spec_thTable.f at h
  obtain ⟨T, hT, h⟩ := Option.bind_eq_some_iff.1 h
  obtain ⟨rfl, rfl⟩ := Prod.mk.inj (Option.some.inj h)
  have hsz : a0.size ≤ 1000 := by
    unfold spec_thTable.g at hT
    split at hT
    · rename_i h1
      exact h1
    · cases hT
  refine (spec_thTable.callsT k a0 a1 T w hT).mono ?_
  rintro e w' ⟨rfl, hb, hl, hTb⟩
  have h1 := hTb.least
  have h2 := hTb.ways
  rw [hl] at h1 h2
  refine ⟨_, _, rfl, spec_thTable.toS h1 (by rw [List.length_reverse, List.length_map, hl]) hsz (Nat.le_refl _) (by omega) (fun j hj => ?_), spec_thTable.toS h2 (by rw [List.length_reverse, List.length_map, hl]) hsz (by omega) (by omega) (fun j hj => ?_), hb⟩
  · obtain ⟨p, hp, l1, l2, b1, b2⟩ := hTb.rows (a0.size - j) (by omega)
    rw [spec_thTable.rev_at Prod.fst rfl hl hj, hp]
    exact ⟨l1, b1⟩
  · obtain ⟨p, hp, l1, l2, b1, b2⟩ := hTb.rows (a0.size - j) (by omega)
    rw [spec_thTable.rev_at Prod.snd rfl hl hj, hp]
    exact ⟨l2, b2⟩
end Go.Proofs.YtldnddehmpbbpaaGreatDoor.P
end

