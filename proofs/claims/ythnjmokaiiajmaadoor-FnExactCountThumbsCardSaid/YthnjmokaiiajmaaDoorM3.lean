/- Parts of the proof (printed walks, lemmas of our own, contracts of the library laid for this program), merged into one text by wip/mclaim.py. Conditions: each theorem's own. -/
import Derived.Test.YthnjmokaiiajmaaDoorM0
import Derived.Lib.SlTrimSet
import Derived.Test.YthnjmokaiiajmaaDoorM2
import Derived.Test.YthnjmokaiiajmaaDoorM1
namespace Go.Proofs.YthnjmokaiiajmaaDoor.Pu
open Go.RowKit Go.Proofs.YthnjmokaiiajmaaDoorW.PrintWords Go.Proofs.YthnjmokaiiajmaaDoorW.PrintLast Go.Proofs.YthnjmokaiiajmaaDoorW.PrintMore

/-! ### rounds -/
theorem ev_succ {α : Type} {g : Nat → Option α} {r : α} (h : Ev (fun k => g (k + 1)) r) : Ev g r := by
  obtain ⟨K, h⟩ := h
  refine ⟨K + 1, fun n hn => ?_⟩
  obtain ⟨m, rfl⟩ : ∃ m, n = m + 1 := ⟨n - 1, by omega⟩
  exact h m (by omega)
theorem ev_from {α : Type} {g : Nat → Option α} {r : α} (K : Nat) (h : ∀ k, K ≤ k → g (k + 1) = some r) : Ev g r := by
  refine ⟨K + 1, fun n hn => ?_⟩
  obtain ⟨m, rfl⟩ : ∃ m, n = m + 1 := ⟨n - 1, by omega⟩
  exact h m (by omega)
theorem ev_const {α : Type} {x : Option α} {r : α} (h : x = some r) : Ev (fun _ => x) r := ⟨0, fun _ _ => h⟩
/-- As Option.bind_some; its proof is no 'rfl', so the kernel is not asked to compare two binds. -/
theorem bsome {α β : Type} (a : α) (f : α → Option β) : (some a).bind f = f a := Option.bind_some a f
theorem ev_at {α : Type} {g : Nat → Option α} {r : α} (h : Ev g r) : ∃ k, g k = some r := h.rounds
theorem ev_both {α β : Type} {g : Nat → Option α} {f : Nat → Option β} {r : α} {q : β} (h : Ev g r) (h' : Ev f q) : ∃ K, ∀ k, K ≤ k → g k = some r ∧ f k = some q := by
  obtain ⟨K, h⟩ := h
  obtain ⟨K', h'⟩ := h'
  exact ⟨K + K', fun k hk => ⟨h k (by omega), h' k (by omega)⟩⟩
theorem ev_eq {α : Type} {g : Nat → Option α} {r r' : α} (h : Ev g r) (e : r = r') : Ev g r' := e ▸ h
theorem ev_unique {α : Type} {g : Nat → Option α} {r r' : α} (h : Ev g r) (h' : Ev g r') : r = r' := by
  obtain ⟨K, h⟩ := ev_both h h'
  have := h K (Nat.le_refl _)
  exact Option.some.inj (this.1.symm.trans this.2)

/-! ### numbers -/
theorem wr {x : Int} (h0 : -9223372036854775808 ≤ x) (h1 : x ≤ 9223372036854775807) : wrap64 x = x := by unfold wrap64; omega
theorem wr32 {x : Int} (h0 : -2147483648 ≤ x) (h1 : x ≤ 2147483647) : wrap32 x = x := by unfold wrap32; omega
theorem wf64 {x : Int} (h : (Lit.int .i64 x).wf = true) : -9223372036854775808 ≤ x ∧ x ≤ 9223372036854775807 := by
  simp only [Lit.wf] at h
  rw [Bool.and_eq_true] at h
  have h1 := of_decide_eq_true h.1
  have h2 := of_decide_eq_true h.2
  exact ⟨h1, h2⟩

/-! ### bytes -/
theorem bytes_ext {s t : ByteArray} (h : bytesOf s = bytesOf t) : s = t := by
  have h1 : s.data.toList = t.data.toList := by
    unfold bytesOf at h
    refine List.ext_getElem (by simpa using congrArg List.length h) fun i h1 h2 => ?_
    have := congrArg (fun l => l[i]?) h
    simp only [List.getElem?_map, List.getElem?_eq_getElem h1, List.getElem?_eq_getElem h2, Option.map_some, Option.some.injEq] at this
    exact UInt8.toNat_inj.1 (by omega)
  cases s; cases t
  simp only [ByteArray.mk.injEq]
  exact Array.toList_inj.1 h1
theorem size_bytes (s : ByteArray) : s.size = (bytesOf s).length := (bytesOf_length s).symm
theorem bt_bytes (s : ByteArray) (i : Int) : bt s i = (bytesOf s).getD i.toNat 0 := by rw [← rd_bytesOf]; rfl
theorem bytes_range (s : ByteArray) : ∀ c ∈ bytesOf s, 0 ≤ c ∧ c ≤ 255 := by
  intro c hc
  unfold bytesOf at hc
  obtain ⟨b, _, rfl⟩ := List.mem_map.1 hc
  have := b.toNat_lt
  omega
theorem bytes_nums {L : List Int} (h : ∀ c ∈ L, 0 ≤ c ∧ c ≤ 255) : bytesOf (strOfNums L) = L := by
  unfold bytesOf strOfNums
  simp only [List.map_map]
  conv => rhs; rw [← List.map_id L]
  refine List.map_congr_left fun c hc => ?_
  have := h c hc
  show ((UInt8.ofNat c.toNat).toNat : Int) = c
  rw [UInt8.toNat_ofNat']
  omega
theorem nums_bytes (s : ByteArray) : strOfNums (bytesOf s) = s := bytes_ext (bytes_nums (bytes_range s))
theorem size_nums (L : List Int) : (strOfNums L).size = L.length := by
  unfold strOfNums
  simp [ByteArray.size]
theorem nums_inj {L M : List Int} (h : ∀ c ∈ L, 0 ≤ c ∧ c ≤ 255) (h' : ∀ c ∈ M, 0 ≤ c ∧ c ≤ 255) (e : strOfNums L = strOfNums M) : L = M := by
  rw [← bytes_nums h, ← bytes_nums h', e]
theorem bytes_append (s t : ByteArray) : bytesOf (s ++ t) = bytesOf s ++ bytesOf t := by
  unfold bytesOf
  rw [ByteArray.data_append, Array.toList_append, List.map_append]
theorem bytes_extract (s : ByteArray) (a b : Nat) : bytesOf (s.extract a b) = ((bytesOf s).take b).drop a := by
  unfold bytesOf
  rw [ByteArray.data_extract, Array.toList_extract, List.extract_eq_take_drop, List.map_take, List.map_drop]
  rw [List.drop_take]
theorem numsApp (L M : List Int) : strOfNums (L ++ M) = strOfNums L ++ strOfNums M := by
  unfold strOfNums
  simp only [List.map_append]
  cases h : (ByteArray.mk (L.map fun x => x.toNat.toUInt8).toArray ++ ByteArray.mk (M.map fun x => x.toNat.toUInt8).toArray) with
  | mk d =>
    have := congrArg ByteArray.data h
    rw [ByteArray.data_append] at this
    simp only at this
    rw [← this]
    congr 1
    simp
theorem toList_bytes {s t : ByteArray} : s.toList = t.toList ↔ s = t := by
  rw [Lib.toList_data, Lib.toList_data]
  refine ⟨fun h => bytes_ext (by unfold bytesOf; rw [h]), fun h => by rw [h]⟩
theorem encode_small {c : Int} (h0 : 0 ≤ c) (h1 : c < 128) : Utf8.encode c = strOfNums [c] := by
  unfold Utf8.encode strOfNums
  have hv : Utf8.valid c = true := by unfold Utf8.valid; simp; omega
  have hc : c.toNat < 128 := by omega
  simp only [hv, if_true, hc]
  simp
theorem bytes_all {p : UInt8 → Bool} {q : Int → Bool} (h : ∀ b : UInt8, p b = q b.toNat) (s : ByteArray) : s.data.toList.all p = (bytesOf s).all q := by
  unfold bytesOf
  rw [List.all_map]
  congr 1
  funext b
  exact h b

theorem drop_bytes (s : ByteArray) (i : Nat) (h : i < s.size) : (bytesOf s).drop i = bt s i :: (bytesOf s).drop (i + 1) := by
  have hl : i < (bytesOf s).length := by rw [bytesOf_length]; exact h
  rw [List.drop_eq_getElem_cons hl, bt_bytes, Int.toNat_natCast, List.getD_eq_getElem?_getD, List.getElem?_eq_getElem hl]
  rfl
theorem drop_end (s : ByteArray) : (bytesOf s).drop s.size = [] := List.drop_eq_nil_of_le (by rw [bytesOf_length]; exact Nat.le_refl _)

theorem bt_mem (s : ByteArray) (i : Nat) (h : i < s.size) : bt s i ∈ bytesOf s := by
  have hd := drop_bytes s i h
  have : bt s i ∈ (bytesOf s).drop i := by rw [hd]; exact List.mem_cons_self
  exact List.mem_of_mem_drop this

/-! ### Trim against a list of signs -/
theorem dropWhile_nil_all {α : Type} (p : α → Bool) (l : List α) : l.dropWhile p = [] ↔ l.all p = true := by
  induction l with
  | nil => simp
  | cons a l ih =>
    rw [List.dropWhile_cons, List.all_cons]
    cases h : p a <;> simp [ih]
theorem trimS_nil (l cs : List UInt8) : Lib.trimS l cs = [] ↔ l.all (fun b => cs.contains b) = true := by
  unfold Lib.trimS Lib.trimLeftS Lib.trimRightS
  rw [dropWhile_nil_all]
  constructor
  · intro h
    have hr : ∀ (m : List UInt8), ((m.dropWhile (cs.contains ·)).reverse).all (fun b => cs.contains b) = true → m.all (fun b => cs.contains b) = true := by
      intro m
      induction m with
      | nil => simp
      | cons a m ih =>
        rw [List.dropWhile_cons]
        cases ha : cs.contains a with
        | true => intro h; rw [if_pos rfl] at h; simp only [List.all_cons, ha, Bool.true_and]; exact ih h
        | false => intro h; simp at h; simpa using And.intro h.2 h.1
    have := hr l.reverse h
    simpa using this
  · intro h
    have : l.reverse.dropWhile (cs.contains ·) = [] := (dropWhile_nil_all _ _).2 (by simpa using h)
    rw [this]
    rfl

end Go.Proofs.YthnjmokaiiajmaaDoor.Pu

namespace Go.Proofs.YthnjmokaiiajmaaDoor.Pu
open Go.RowKit Go.Proofs.YthnjmokaiiajmaaDoor.P Go.Proofs.YthnjmokaiiajmaaDoorW.PrintWords Go.Proofs.YthnjmokaiiajmaaDoorW.PrintLast Go.Proofs.YthnjmokaiiajmaaDoorW.PrintMore

def isPad (c : Int) : Bool := (decide (49 ≤ c) && decide (c ≤ 57)) || c == 42 || c == 48 || c == 35
/-- A key's place in the order of the pad. -/
def plN (c : Int) : Int := if 49 ≤ c then c - 49 else if c = 42 then 9 else if c = 48 then 10 else 11
/-- The key of a place. -/
def padC (p : Int) : Int := if p ≤ 8 then 49 + p else if p = 9 then 42 else if p = 10 then 48 else 35
theorem isPad_iff {c : Int} : isPad c = true ↔ (49 ≤ c ∧ c ≤ 57) ∨ c = 42 ∨ c = 48 ∨ c = 35 := by
  unfold isPad
  simp only [Bool.or_eq_true, Bool.and_eq_true, decide_eq_true_eq, beq_iff_eq]
  omega
theorem plN_range {c : Int} (h : isPad c = true) : 0 ≤ plN c ∧ plN c ≤ 11 := by
  have := isPad_iff.1 h
  unfold plN
  omega
theorem padC_plN {c : Int} (h : isPad c = true) : padC (plN c) = c := by
  have := isPad_iff.1 h
  unfold padC plN
  omega
theorem plN_padC {p : Int} (h : 0 ≤ p ∧ p ≤ 11) : plN (padC p) = p := by
  unfold padC plN
  omega
theorem padC_pad {p : Int} (h : 0 ≤ p ∧ p ≤ 11) : isPad (padC p) = true := by
  rw [isPad_iff]
  unfold padC
  omega
theorem padC_byte (p : Int) (h : 0 ≤ p) : 0 ≤ padC p ∧ padC p ≤ 255 := by
  unfold padC
  omega
theorem pad_contains (b : UInt8) : (⟨#[49, 50, 51, 52, 53, 54, 55, 56, 57, 42, 48, 35]⟩ : ByteArray).data.toList.contains b = isPad b.toNat := by
  have key : ∀ n : Fin 256, (⟨#[49, 50, 51, 52, 53, 54, 55, 56, 57, 42, 48, 35]⟩ : ByteArray).data.toList.contains (UInt8.ofNat n.val) = isPad (UInt8.ofNat n.val).toNat := by decide +kernel
  have := key ⟨b.toNat, b.toNat_lt⟩
  simpa using this
theorem pad_bt {p : Int} (h : 0 ≤ p ∧ p ≤ 11) : bt (⟨#[49, 50, 51, 52, 53, 54, 55, 56, 57, 42, 48, 35]⟩ : ByteArray) p = padC p := by
  have key : ∀ n : Fin 12, bt (⟨#[49, 50, 51, 52, 53, 54, 55, 56, 57, 42, 48, 35]⟩ : ByteArray) (n.val : Int) = padC (n.val : Int) := by decide +kernel
  have := key ⟨p.toNat, by omega⟩
  rwa [show ((p.toNat : Nat) : Int) = p by omega] at this
theorem pad_cut {p : Int} (h : 0 ≤ p ∧ p ≤ 11) : (⟨#[49, 50, 51, 52, 53, 54, 55, 56, 57, 42, 48, 35]⟩ : ByteArray).extract p.toNat (p + 1).toNat = strOfNums [padC p] := by
  have key : ∀ n : Fin 12, ((⟨#[49, 50, 51, 52, 53, 54, 55, 56, 57, 42, 48, 35]⟩ : ByteArray).extract n.val (n.val + 1)).data.toList = (strOfNums [padC (n.val : Int)]).data.toList := by decide +kernel
  have := key ⟨p.toNat, by omega⟩
  rw [show ((p.toNat : Nat) : Int) = p by omega] at this
  rw [show (p + 1).toNat = p.toNat + 1 by omega]
  exact bytes_ext (by unfold bytesOf; rw [this])
theorem place_is (c : Int) (h : isPad c = true) : impl_place.f c = some (plN c) := by
  have key : ∀ n : Fin 12, impl_place.f (padC (n.val : Int)) = some (n.val : Int) := by decide +kernel
  have hp := plN_range h
  have := key ⟨(plN c).toNat, by omega⟩
  rwa [show (((plN c).toNat : Nat) : Int) = plN c by omega, padC_plN h] at this
theorem thPlace_ev (c : Int) (h : 0 ≤ c ∧ c ≤ 255) : Ev (fun k => spec_thPlace.f k c) (if isPad c = true then plN c else -1) := by
  have key : ∀ n : Fin 256, spec_thPlace.f 14 (n.val : Int) = some (if isPad (n.val : Int) = true then plN (n.val : Int) else -1) := by decide +kernel
  have := key ⟨c.toNat, by omega⟩
  rw [show ((c.toNat : Nat) : Int) = c by omega] at this
  exact Ev.of (spec_thPlace.mono c) this
theorem thPlace_pad (c : Int) (h : isPad c = true) : Ev (fun k => spec_thPlace.f k c) (plN c) := by
  have h2 := isPad_iff.1 h
  have := thPlace_ev c ⟨by omega, by omega⟩
  rwa [if_pos h] at this

/-! ### texts of keys -/
def dialB (s : ByteArray) : Bool := decide (s.size ≤ 30) && (bytesOf s).all isPad
theorem dialB_iff {s : ByteArray} : dialB s = true ↔ s.size ≤ 30 ∧ ∀ c ∈ bytesOf s, isPad c = true := by
  unfold dialB
  simp [List.all_eq_true]
def oneB (s : ByteArray) : Bool := decide (s.size = 1) && dialB s
theorem oneB_iff {s : ByteArray} : oneB s = true ↔ s.size = 1 ∧ isPad (bt s 0) = true := by
  unfold oneB
  rw [Bool.and_eq_true, decide_eq_true_eq, dialB_iff]
  constructor
  · rintro ⟨h1, _, h2⟩
    exact ⟨h1, h2 _ (bt_mem s 0 (by omega))⟩
  · rintro ⟨h1, h2⟩
    refine ⟨h1, by omega, fun c hc => ?_⟩
    have := drop_bytes s 0 (by omega)
    rw [List.drop_zero, show (0 : Nat) + 1 = s.size by omega, drop_end] at this
    rw [this, List.mem_singleton] at hc
    rw [hc]
    exact h2
theorem isDialed_is (s : ByteArray) (hs : s.size ≤ 140737488351232) : impl_IsDialed.f s = some (dialB s) := by
  unfold impl_IsDialed.f dialB
  by_cases h : s.size ≤ 30
  · rw [if_pos (by omega)]
    unfold impl_over.f strings_Trim.f
    rw [if_pos (by omega), if_pos (by decide), if_pos (by decide), bsome, bsome, decide_eq_true h, Bool.true_and, ← bytes_all pad_contains]
    congr 1
    rw [Bool.eq_iff_iff, beq_iff_eq, Lib.toList_data, ← trimS_nil]
  · rw [if_neg (by omega), decide_eq_false h]
    rfl
theorem isKey_is (s : ByteArray) (hs : s.size ≤ 140737488351232) : impl_isKey.f s = some (oneB s) := by
  unfold impl_isKey.f oneB
  by_cases h : s.size = 1
  · rw [if_pos (by omega), isDialed_is s hs, bsome, decide_eq_true h]
    rfl
  · rw [if_neg (by omega), decide_eq_false h]
    rfl
theorem thGood_l0 (s : ByteArray) (hs : s.size ≤ 1000000) : ∀ (d i : Nat), i + d = s.size → Ev (fun k => spec_thGood.l0 k s i) (((bytesOf s).drop i).all isPad)
  | 0, i, h => by
    obtain rfl : i = s.size := by omega
    rw [drop_end]
    refine ev_from 0 fun k _ => ?_
    simp only [spec_thGood.l0]
    rw [if_neg (by omega)]
    rfl
  | d + 1, i, h => by
    obtain ⟨K, ih⟩ := thGood_l0 s hs d (i + 1) (by omega)
    obtain ⟨K0, h0⟩ := thPlace_ev (bt s i) (bytes_range s _ (bt_mem s i (by omega)))
    rw [drop_bytes s i (by omega), List.all_cons]
    refine ev_from (K0 + K) fun k hk => ?_
    have e := ih k (by omega)
    have e0 := h0 k (by omega)
    rw [show ((i + 1 : Nat) : Int) = (i : Int) + 1 from rfl] at e
    dsimp only at e e0
    simp only [spec_thGood.l0]
    rw [if_pos (by omega), if_pos (by omega), e0, bsome, wr (by omega) (by omega), e]
    cases hp : isPad (bt s i) with
    | false =>
      rw [show (if false = true then plN (bt s i) else (-1 : Int)) = -1 from rfl, if_pos (by omega)]; rfl
    | true =>
      have := plN_range hp
      rw [show (if true = true then plN (bt s i) else (-1 : Int)) = plN (bt s i) from rfl, if_neg (by omega)]; rfl
theorem thGood_ev (s : ByteArray) : Ev (fun k => spec_thGood.f k s) (dialB s) := by
  unfold dialB
  by_cases h : s.size ≤ 30
  · obtain ⟨K, e⟩ := thGood_l0 s (by omega) s.size 0 (by omega)
    refine ⟨K, fun k hk => ?_⟩
    have e := e k hk
    dsimp only at e ⊢
    unfold spec_thGood.f
    rw [if_neg (by omega), decide_eq_true h, Bool.true_and]
    exact e
  · refine ⟨0, fun k _ => ?_⟩
    dsimp only
    unfold spec_thGood.f
    rw [if_pos (by omega), decide_eq_false h]
    rfl
theorem thOne_ev (s : ByteArray) : Ev (fun k => spec_thOne.f k s) (oneB s) := by
  obtain ⟨K, e⟩ := thGood_ev s
  refine ⟨K, fun k hk => ?_⟩
  have e := e k hk
  dsimp only at e ⊢
  unfold spec_thOne.f oneB
  by_cases h : s.size = 1
  · rw [if_pos (by omega), e, bsome, decide_eq_true h]
    rfl
  · rw [if_neg (by omega), decide_eq_false h]
    rfl

/-! ### places and distances -/
def placesN (s : ByteArray) : List Int := (bytesOf s).map plN
theorem placesN_length (s : ByteArray) : (placesN s).length = s.size := by rw [placesN, List.length_map, bytesOf_length]
theorem placesN_range {s : ByteArray} (h : dialB s = true) : ∀ p ∈ placesN s, 0 ≤ p ∧ p ≤ 11 := by
  intro p hp
  obtain ⟨c, hc, rfl⟩ := List.mem_map.1 hp
  exact plN_range ((dialB_iff.1 h).2 c hc)
def distN (a b : Int) (corners : Bool) : Int :=
  let x := if a % 3 < b % 3 then b % 3 - a % 3 else a % 3 - b % 3
  let y := if a / 3 < b / 3 then b / 3 - a / 3 else a / 3 - b / 3
  if corners then (if x < y then y else x) else x + y
theorem distN_range {a b : Int} (ha : 0 ≤ a ∧ a ≤ 11) (hb : 0 ≤ b ∧ b ≤ 11) (c : Bool) : 0 ≤ distN a b c ∧ distN a b c ≤ 5 := by
  have key : ∀ m n : Fin 12, ∀ c : Bool, 0 ≤ distN (m.val : Int) (n.val : Int) c ∧ distN (m.val : Int) (n.val : Int) c ≤ 5 := by decide +kernel
  have := key ⟨a.toNat, by omega⟩ ⟨b.toNat, by omega⟩ c
  rwa [show ((a.toNat : Nat) : Int) = a by omega, show ((b.toNat : Nat) : Int) = b by omega] at this
theorem distance_is {a b : Int} (ha : 0 ≤ a ∧ a ≤ 11) (hb : 0 ≤ b ∧ b ≤ 11) (c : Bool) : impl_distance.f a b c = some (distN a b c) := by
  have key : ∀ m n : Fin 12, ∀ c : Bool, impl_distance.f (m.val : Int) (n.val : Int) c = some (distN (m.val : Int) (n.val : Int) c) := by decide +kernel
  have := key ⟨a.toNat, by omega⟩ ⟨b.toNat, by omega⟩ c
  rwa [show ((a.toNat : Nat) : Int) = a by omega, show ((b.toNat : Nat) : Int) = b by omega] at this
theorem thFar_ev {a b : Int} (ha : isPad a = true) (hb : isPad b = true) (c : Bool) : Ev (fun k => spec_thFar.f k a b c) (distN (plN a) (plN b) c) := by
  have key : ∀ m n : Fin 12, ∀ c : Bool, spec_thFar.f 14 (padC (m.val : Int)) (padC (n.val : Int)) c = some (distN (m.val : Int) (n.val : Int) c) := by decide +kernel
  have pa := plN_range ha
  have pb := plN_range hb
  have := key ⟨(plN a).toNat, by omega⟩ ⟨(plN b).toNat, by omega⟩ c
  rw [show (((plN a).toNat : Nat) : Int) = plN a by omega, show (((plN b).toNat : Nat) : Int) = plN b by omega, padC_plN ha, padC_plN hb] at this
  exact Ev.of (spec_thFar.mono a b c) this
theorem places_l0 (s : ByteArray) (h : dialB s = true) : ∀ (d i : Nat) (A : List Int), i + d = s.size → A.length ≤ i → Ev (fun k => impl_places.l0 k s A s.size i) (A ++ ((bytesOf s).drop i).map plN)
  | 0, i, A, hi, hA => by
    obtain rfl : i = s.size := by omega
    rw [drop_end]
    refine ev_from 0 fun k _ => ?_
    simp only [impl_places.l0]
    rw [if_neg (by omega)]
    simp
  | d + 1, i, A, hi, hA => by
    have hs := (dialB_iff.1 h).1
    have hp := (dialB_iff.1 h).2 _ (bt_mem s i (by omega))
    obtain ⟨K, ih⟩ := places_l0 s h d (i + 1) (A ++ [plN (bt s i)]) (by omega) (by simp; omega)
    rw [drop_bytes s i (by omega)]
    refine ev_from K fun k hk => ?_
    have e := ih k (by omega)
    rw [show ((i + 1 : Nat) : Int) = (i : Int) + 1 from rfl] at e
    dsimp only at e
    simp only [impl_places.l0]
    rw [if_pos (by omega), if_pos (by omega), if_pos (by omega), place_is _ hp, bsome, if_pos (by omega), wr (by omega) (by omega), e]
    simp
theorem places_ev (s : ByteArray) (h : dialB s = true) : Ev (fun k => impl_places.f k s) (placesN s) := by
  obtain ⟨K, e⟩ := places_l0 s h s.size 0 [] (by omega) (by simp)
  exact ⟨K, fun k hk => by have e := e k hk; dsimp only at e; unfold impl_places.f placesN; simpa using e⟩

end Go.Proofs.YthnjmokaiiajmaaDoor.Pu

namespace Go.Proofs.YthnjmokaiiajmaaDoor.Pu
open Go.RowKit Go.Proofs.YthnjmokaiiajmaaDoor.P Go.Proofs.YthnjmokaiiajmaaDoorW.PrintWords Go.Proofs.YthnjmokaiiajmaaDoorW.PrintLast Go.Proofs.YthnjmokaiiajmaaDoorW.PrintMore

theorem drop_rd (L : List Int) (i : Nat) (h : i < L.length) : L.drop i = rd L i :: L.drop (i + 1) := by
  rw [List.drop_eq_getElem_cons h, rd, Int.toNat_natCast, List.getD_eq_getElem?_getD, List.getElem?_eq_getElem h]
  rfl
theorem rd_mem (L : List Int) (i : Nat) (h : i < L.length) : rd L i ∈ L := by
  have : rd L i ∈ L.drop i := by rw [drop_rd L i h]; exact List.mem_cons_self
  exact List.mem_of_mem_drop this
theorem drop_places (s : ByteArray) (i : Nat) (h : i < s.size) : (placesN s).drop i = plN (bt s i) :: (placesN s).drop (i + 1) := by
  unfold placesN
  rw [← List.map_drop, drop_bytes s i h, List.map_cons, List.map_drop]
theorem rd_places (s : ByteArray) (i : Nat) (h : i < s.size) : rd (placesN s) i = plN (bt s i) := by
  have h1 := drop_rd (placesN s) i (by rw [placesN_length]; exact h)
  rw [drop_places s i h] at h1
  exact (List.cons.inj h1).1.symm

/-! ### KeyDistance -/
/-! ### OneThumb -/
def walkN : List Int → Int → Bool → Int
  | [], _, _ => 0
  | q :: L, p, c => distN p q c + walkN L q c
def oneT (s t : ByteArray) (c : Bool) : Int × Bool := if (dialB s && oneB t) = true then (walkN (placesN s) (plN (bt t 0)) c, true) else (0, false)
/-! ### FarthestNext -/
def farN (c : Bool) : List Int → Int → Int → Int → Int → Int × Int
  | [], _, _, a, b => (a, b)
  | q :: L, p, i, a, b => if distN p q c > b then farN c L q (i + 1) i (distN p q c) else farN c L q (i + 1) a b
def farT (s : ByteArray) (c : Bool) : Int × Int × Bool := if (dialB s && !decide (s.size < 2)) = true then ((farN c ((placesN s).drop 1) (plN (bt s 0)) 0 0 (-1)).1, (farN c ((placesN s).drop 1) (plN (bt s 0)) 0 0 (-1)).2, true) else (0, 0, false)
/-! ### keys turned over -/
def mirP (p : Int) : Int := p / 3 * 3 + 2 - p % 3
def turnP (p : Int) : Int := 11 - p
theorem mirP_range {p : Int} (h : 0 ≤ p ∧ p ≤ 11) : 0 ≤ mirP p ∧ mirP p ≤ 11 := by unfold mirP; omega
theorem turnP_range {p : Int} (h : 0 ≤ p ∧ p ≤ 11) : 0 ≤ turnP p ∧ turnP p ≤ 11 := by unfold turnP; omega
theorem mir_spec {p : Int} (h : 0 ≤ p ∧ p ≤ 11) : wrap64 ((wrap64 (3 * (wrap64 (Int.tdiv p 3)))) + (wrap64 (2 - (Int.tmod p 3)))) = mirP p := by
  have key : ∀ n : Fin 12, wrap64 ((wrap64 (3 * (wrap64 (Int.tdiv (n.val : Int) 3)))) + (wrap64 (2 - (Int.tmod (n.val : Int) 3)))) = mirP (n.val : Int) := by decide +kernel
  have := key ⟨p.toNat, by omega⟩
  rwa [show ((p.toNat : Nat) : Int) = p by omega] at this
theorem turn_spec {p : Int} (h : 0 ≤ p ∧ p ≤ 11) : wrap64 ((wrap64 (3 * (wrap64 (3 - (wrap64 (Int.tdiv p 3)))))) + (wrap64 (2 - (Int.tmod p 3)))) = turnP p := by
  have key : ∀ n : Fin 12, wrap64 ((wrap64 (3 * (wrap64 (3 - (wrap64 (Int.tdiv (n.val : Int) 3)))))) + (wrap64 (2 - (Int.tmod (n.val : Int) 3)))) = turnP (n.val : Int) := by decide +kernel
  have := key ⟨p.toNat, by omega⟩
  rwa [show ((p.toNat : Nat) : Int) = p by omega] at this
theorem numsCons (a : Int) (L : List Int) : strOfNums (a :: L) = strOfNums [a] ++ strOfNums L := numsApp [a] L
def overT (s : ByteArray) (b : Bool) : ByteArray × Bool := if dialB s = true then (strOfNums ((placesN s).map fun p => padC (if b = true then turnP p else mirP p)), true) else (⟨#[]⟩, false)
end Go.Proofs.YthnjmokaiiajmaaDoor.Pu

namespace Go.Proofs.YthnjmokaiiajmaaDoor.Pu
open Go.RowKit Go.Proofs.YthnjmokaiiajmaaDoor.P Go.Proofs.YthnjmokaiiajmaaDoorW.PrintWords Go.Proofs.YthnjmokaiiajmaaDoorW.PrintLast Go.Proofs.YthnjmokaiiajmaaDoorW.PrintMore

def bothB (s l r : ByteArray) : Bool := dialB s && (oneB l && oneB r)
theorem thBoth_ev (s l r : ByteArray) : Ev (fun k => spec_thBoth.f k s l r) (bothB s l r) := by
  obtain ⟨K1, h1⟩ := thGood_ev s
  obtain ⟨K2, h2⟩ := thOne_ev l
  obtain ⟨K3, h3⟩ := thOne_ev r
  refine ⟨K1 + K2 + K3, fun k hk => ?_⟩
  have e1 := h1 k (by omega)
  have e2 := h2 k (by omega)
  have e3 := h3 k (by omega)
  dsimp only at e1 e2 e3 ⊢
  unfold spec_thBoth.f bothB
  rw [e1, bsome]
  cases dialB s with
  | false => rfl
  | true =>
    rw [if_pos rfl, e2, bsome]
    cases oneB l with
    | false => rfl
    | true => rw [if_pos rfl, e3, bsome]; rfl
theorem thumbsOk_ev (s l r : ByteArray) (hs : s.size ≤ 140737488351232) (hl : l.size ≤ 140737488351232) (hr : r.size ≤ 140737488351232) : Ev (fun k => impl_thumbsOk.f k s l r) (if bothB s l r = true then (plN (bt l 0), plN (bt r 0), true) else (0, 0, false)) := by
  refine ev_from 0 fun k _ => ?_
  unfold impl_thumbsOk.f bothB
  rw [isDialed_is s hs, bsome]
  cases dialB s with
  | false => rfl
  | true =>
    rw [if_pos rfl, isKey_is l hl, bsome]
    cases h1 : oneB l with
    | false => rfl
    | true =>
      rw [if_pos rfl, isKey_is r hr, bsome]
      cases h2 : oneB r with
      | false => rfl
      | true =>
        obtain ⟨l1, pl⟩ := oneB_iff.1 h1
        obtain ⟨r1, pr⟩ := oneB_iff.1 h2
        simp only [impl_thumbsOk.j0]
        rw [show (!true) = false from rfl, if_neg (by simp), if_pos (by omega), place_is _ pl, bsome, if_pos (by omega), place_is _ pr, bsome]
        rfl
def lookN (c : Bool) : List Int → Int → Int → Int × Int
  | [], _, _ => (0, 1)
  | p :: L, l, r =>
    if (lookN c L l p).1 + distN r p c < (lookN c L p r).1 + distN l p c then ((lookN c L l p).1 + distN r p c, (lookN c L l p).2)
    else if (lookN c L l p).1 + distN r p c = (lookN c L p r).1 + distN l p c then ((lookN c L p r).1 + distN l p c, (lookN c L p r).2 + (lookN c L l p).2)
    else ((lookN c L p r).1 + distN l p c, (lookN c L p r).2)
def twoN : Nat → Int
  | 0 => 1
  | n + 1 => 2 * twoN n
theorem twoN_pos : ∀ n, 1 ≤ twoN n
  | 0 => by decide
  | n + 1 => by
    have := twoN_pos n
    rw [twoN]
    omega
theorem twoN_le : ∀ d n, n + d = 30 → twoN n ≤ 1073741824
  | 0, n, h => by
    obtain rfl : n = 30 := by omega
    decide
  | d + 1, n, h => by
    have := twoN_le d (n + 1) (by omega)
    have h0 := twoN_pos n
    rw [twoN] at this
    omega
theorem lookN_range (c : Bool) : ∀ (L : List Int) (l r : Int), (∀ p ∈ L, 0 ≤ p ∧ p ≤ 11) → (0 ≤ l ∧ l ≤ 11) → (0 ≤ r ∧ r ≤ 11) → (0 ≤ (lookN c L l r).1 ∧ (lookN c L l r).1 ≤ 5 * L.length) ∧ 1 ≤ (lookN c L l r).2 ∧ (lookN c L l r).2 ≤ twoN L.length
  | [], l, r, _, _, _ => by simp [lookN, twoN]
  | p :: L, l, r, h, hl, hr => by
    have hp := h p (by simp)
    obtain ⟨⟨a0, a1⟩, a2, a3⟩ := lookN_range c L p r (fun q hq => h q (by simp [hq])) hp hr
    obtain ⟨⟨b0, b1⟩, b2, b3⟩ := lookN_range c L l p (fun q hq => h q (by simp [hq])) hl hp
    have d1 := distN_range hl hp c
    have d2 := distN_range hr hp c
    rw [lookN, List.length_cons, twoN]
    split
    · dsimp only
      omega
    · split
      · dsimp only
        omega
      · dsimp only
        omega
theorem lookN_small (c : Bool) {L : List Int} {l r : Int} (hL : ∀ p ∈ L, 0 ≤ p ∧ p ≤ 11) (hn : L.length ≤ 30) (hl : 0 ≤ l ∧ l ≤ 11) (hr : 0 ≤ r ∧ r ≤ 11) : (0 ≤ (lookN c L l r).1 ∧ (lookN c L l r).1 ≤ 150) ∧ 1 ≤ (lookN c L l r).2 ∧ (lookN c L l r).2 ≤ 1073741824 := by
  obtain ⟨⟨a0, a1⟩, a2, a3⟩ := lookN_range c L l r hL hl hr
  have := twoN_le (30 - L.length) L.length (by omega)
  omega
/-! ### the program's looker -/
theorem moved0_is {l r p : Int} (hl : 0 ≤ l ∧ l ≤ 11) (hp : 0 ≤ p ∧ p ≤ 11) (c : Bool) : impl_thumbs_moved.f l r 0 p c = some (p, r, distN l p c) := by
  unfold impl_thumbs_moved.f
  rw [if_pos rfl, distance_is hl hp, bsome]
theorem moved1_is {l r p : Int} (hr : 0 ≤ r ∧ r ≤ 11) (hp : 0 ≤ p ∧ p ≤ 11) (c : Bool) : impl_thumbs_moved.f l r 1 p c = some (l, p, distN r p c) := by
  unfold impl_thumbs_moved.f
  rw [if_neg (by decide), distance_is hr hp, bsome]
theorem look_is (c : Bool) : ∀ (L : List Int) (l r : Int), (∀ p ∈ L, 0 ≤ p ∧ p ≤ 11) → L.length ≤ 30 → (0 ≤ l ∧ l ≤ 11) → (0 ≤ r ∧ r ≤ 11) → impl_newLooker.look c L l r = some (lookN c L l r)
  | [], l, r, _, _, _, _ => rfl
  | p :: L, l, r, h, hn, hl, hr => by
    have hp := h p (by simp)
    have hL : ∀ q ∈ L, 0 ≤ q ∧ q ≤ 11 := fun q hq => h q (by simp [hq])
    rw [List.length_cons] at hn
    have ha := lookN_small c hL (by omega) hp hr
    have hb := lookN_small c hL (by omega) hl hp
    have d1 := distN_range hl hp c
    have d2 := distN_range hr hp c
    rw [impl_newLooker.look, moved0_is hl hp, bsome]
    dsimp only
    rw [look_is c L p r hL (by omega) hp hr, bsome, moved1_is hr hp, bsome]
    dsimp only
    rw [look_is c L l p hL (by omega) hl hp, bsome, lookN]
    generalize lookN c L p r = A at *
    generalize lookN c L l p = B at *
    unfold impl_newLooker.rnd
    rw [if_pos (show (-1 : Int) < 0 ∨ wrap64 (A.1 + distN l p c) < -1 from Or.inl (by decide))]
    dsimp only
    rw [wr (x := A.1 + distN l p c) (by omega) (by omega), wr (x := B.1 + distN r p c) (by omega) (by omega), wr (x := A.2 + B.2) (by omega) (by omega)]
    by_cases h1 : B.1 + distN r p c < A.1 + distN l p c
    · rw [if_pos (Or.inr h1), if_pos h1]
    · rw [if_neg (by omega), if_neg h1]
theorem from_is (k : Nat) (c : Bool) {L : List Int} {i : Nat} {l r : Int} (hL : ∀ p ∈ L, 0 ≤ p ∧ p ≤ 11) (hn : L.length ≤ 30) (hi : i ≤ L.length) (hl : 0 ≤ l ∧ l ≤ 11) (hr : 0 ≤ r ∧ r ≤ 11) : impl_looker_from.f k (L, c) (i : Int) l r = some (lookN c (L.drop i) l r) := by
  have hall : ((L, c).1.all fun p => decide (0 ≤ p) && decide (p ≤ 11)) = true := by
    rw [List.all_eq_true]
    intro q hq
    simpa using hL q hq
  unfold impl_looker_from.f
  rw [if_pos ⟨by omega, (show (i : Int) ≤ (L.length : Int) by omega), (show L.length ≤ 1000 by omega), hl, hr, hall⟩]
  show impl_newLooker.look c (L.drop (i : Int).toNat) l r = _
  rw [Int.toNat_natCast]
  exact look_is c _ l r (fun p hp => hL p (List.mem_of_mem_drop hp)) (by rw [List.length_drop]; omega) hl hr
theorem newLooker_ev (s : ByteArray) (h : dialB s = true) (c : Bool) : Ev (fun k => impl_newLooker.f k s c) (placesN s, c) := by
  obtain ⟨K, e⟩ := places_ev s h
  have hs := (dialB_iff.1 h).1
  refine ev_from K fun k hk => ?_
  have e := e (k + 1) (by omega)
  dsimp only at e
  unfold impl_newLooker.f
  rw [e, bsome, if_pos ⟨placesN_length s, by omega⟩]
/-! ### the reference's table -/
def rowL (c : Bool) (M : List Int) : List Int := (List.range 144).map fun i => (lookN c M ((i / 12 : Nat) : Int) ((i % 12 : Nat) : Int)).1
def rowW (c : Bool) (M : List Int) : List Int := (List.range 144).map fun i => (lookN c M ((i / 12 : Nat) : Int) ((i % 12 : Nat) : Int)).2
theorem rowL_length (c : Bool) (M : List Int) : (rowL c M).length = 144 := by simp [rowL]
theorem rowW_length (c : Bool) (M : List Int) : (rowW c M).length = 144 := by simp [rowW]
theorem rowL_at (c : Bool) (M : List Int) {i : Nat} (h : i < 144) : (rowL c M).getD i 0 = (lookN c M ((i / 12 : Nat) : Int) ((i % 12 : Nat) : Int)).1 := by
  rw [List.getD_eq_getElem?_getD, List.getElem?_eq_getElem (by rw [rowL_length]; exact h)]
  simp [rowL]
theorem rowW_at (c : Bool) (M : List Int) {i : Nat} (h : i < 144) : (rowW c M).getD i 0 = (lookN c M ((i / 12 : Nat) : Int) ((i % 12 : Nat) : Int)).2 := by
  rw [List.getD_eq_getElem?_getD, List.getElem?_eq_getElem (by rw [rowW_length]; exact h)]
  simp [rowW]
theorem rowL_two (c : Bool) (M : List Int) {a b : Nat} (ha : a < 12) (hb : b < 12) : (rowL c M).getD (12 * a + b) 0 = (lookN c M (a : Int) (b : Int)).1 := by
  rw [rowL_at c M (by omega), show (12 * a + b) / 12 = a by omega, show (12 * a + b) % 12 = b by omega]
theorem rowW_two (c : Bool) (M : List Int) {a b : Nat} (ha : a < 12) (hb : b < 12) : (rowW c M).getD (12 * a + b) 0 = (lookN c M (a : Int) (b : Int)).2 := by
  rw [rowW_at c M (by omega), show (12 * a + b) / 12 = a by omega, show (12 * a + b) % 12 = b by omega]
theorem stp_ev (c : Bool) {M : List Int} {key : Int} (hM : ∀ p ∈ M, 0 ≤ p ∧ p ≤ 11) (hn : M.length ≤ 29) (hk : isPad key = true) {i : Nat} (hi : i < 144) :
    Ev (fun k => spec_thTable.stp k c key (plN key).toNat (rowL c M) (rowW c M) i 0) (lookN c (plN key :: M) ((i / 12 : Nat) : Int) ((i % 12 : Nat) : Int)) := by
  have hp := plN_range hk
  have hl : (0 : Int) ≤ ((i / 12 : Nat) : Int) ∧ ((i / 12 : Nat) : Int) ≤ 11 := by omega
  have hr : (0 : Int) ≤ ((i % 12 : Nat) : Int) ∧ ((i % 12 : Nat) : Int) ≤ 11 := by omega
  obtain ⟨K1, e1⟩ := thFar_ev (padC_pad hl) hk c
  obtain ⟨K2, e2⟩ := thFar_ev (padC_pad hr) hk c
  refine ⟨K1 + K2, fun k hk2 => ?_⟩
  have e1 := e1 k (by omega)
  have e2 := e2 k (by omega)
  rw [plN_padC hl] at e1
  rw [plN_padC hr] at e2
  have a1 : bt spec_thTable.pad ((i / 12 : Nat) : Int) = padC ((i / 12 : Nat) : Int) := pad_bt hl
  have a2 : bt spec_thTable.pad ((i % 12 : Nat) : Int) = padC ((i % 12 : Nat) : Int) := pad_bt hr
  have hpn : (((plN key).toNat : Nat) : Int) = plN key := by omega
  have l1 := rowL_two c M (a := (plN key).toNat) (b := i % 12) (by omega) (by omega)
  have l2 := rowL_two c M (a := i / 12) (b := (plN key).toNat) (by omega) (by omega)
  have w1 := rowW_two c M (a := (plN key).toNat) (b := i % 12) (by omega) (by omega)
  have w2 := rowW_two c M (a := i / 12) (b := (plN key).toNat) (by omega) (by omega)
  rw [hpn] at l1 l2 w1 w2
  have hA := lookN_small c hM (by omega) hp hr
  have hB := lookN_small c hM (by omega) hl hp
  have d1 := distN_range hl hp c
  have d2 := distN_range hr hp c
  dsimp only at e1 e2 ⊢
  unfold spec_thTable.stp
  rw [a1, e1, bsome, a2, e2, bsome, l1, l2, w1, w2, lookN]
  generalize lookN c M (plN key) ((i % 12 : Nat) : Int) = A at *
  generalize lookN c M ((i / 12 : Nat) : Int) (plN key) = B at *
  generalize distN ((i / 12 : Nat) : Int) (plN key) c = da at *
  generalize distN ((i % 12 : Nat) : Int) (plN key) c = db at *
  clear e1 e2 a1 a2 l1 l2 w1 w2
  rw [wr (x := da + A.1) (by omega) (by omega), wr (x := db + B.1) (by omega) (by omega), Int.zero_add, wr (x := A.2) (by omega) (by omega)]
  unfold spec_l1Least.f
  by_cases h1 : B.1 + db < A.1 + da
  · rw [if_neg (show ¬ da + A.1 < db + B.1 by omega), bsome, if_pos h1, if_pos (show db + B.1 ≤ da + A.1 by omega), if_neg (show ¬ da + A.1 ≤ db + B.1 by omega), Int.zero_add, wr (x := B.2) (by omega) (by omega), if_pos (show B.2 < 1000000000000001 by omega), bsome, Int.add_comm db]
  · by_cases h2 : B.1 + db = A.1 + da
    · rw [if_neg (show ¬ da + A.1 < db + B.1 by omega), bsome, if_neg h1, if_pos h2, if_pos (show db + B.1 ≤ da + A.1 by omega), if_pos (show da + A.1 ≤ db + B.1 by omega), wr (x := A.2 + B.2) (by omega) (by omega), if_pos (show A.2 + B.2 < 1000000000000001 by omega), bsome, show db + B.1 = A.1 + da by omega]
    · rw [if_pos (show da + A.1 < db + B.1 by omega), bsome, if_neg h1, if_neg h2, if_neg (show ¬ db + B.1 ≤ da + A.1 by omega), if_pos (show da + A.1 ≤ db + B.1 by omega), if_pos (show A.2 < 1000000000000001 by omega), bsome, Int.add_comm da]
def preN (F : List Int) (i : Nat) : List Int := F.take i ++ List.replicate (144 - i) 0
theorem preN_at {F : List Int} {i : Nat} (hF : F.length = 144) (hi : i < 144) : (preN F i).getD i 0 = 0 := by
  unfold preN
  rw [List.getD_eq_getElem?_getD, List.getElem?_append_right (by rw [List.length_take]; omega), List.length_take, show i - min i F.length = 0 by omega, show 144 - i = (143 - i) + 1 by omega, List.replicate_succ]
  rfl
theorem preN_set {F : List Int} {i : Nat} (hF : F.length = 144) (hi : i < 144) : (preN F i).set i (F.getD i 0) = preN F (i + 1) := by
  unfold preN
  rw [List.set_append_right _ _ (by rw [List.length_take]; omega), List.length_take, show i - min i F.length = 0 by omega, show 144 - i = (144 - (i + 1)) + 1 by omega, List.replicate_succ, List.set_cons_zero, List.take_succ_eq_append_getElem (by omega), List.append_assoc, List.getD_eq_getElem?_getD, List.getElem?_eq_getElem (by omega)]
  rfl
theorem inr_ev (c : Bool) {M : List Int} {key : Int} (hM : ∀ p ∈ M, 0 ≤ p ∧ p ≤ 11) (hn : M.length ≤ 29) (hk : isPad key = true) : ∀ (d i : Nat), i + d = 144 →
    Ev (fun k => spec_thTable.inr k c key (plN key).toNat (rowL c M) (rowW c M) d i (preN (rowL c (plN key :: M)) i) (preN (rowW c (plN key :: M)) i)) (rowL c (plN key :: M), rowW c (plN key :: M))
  | 0, i, h => by
    obtain rfl : i = 144 := by omega
    refine ⟨0, fun k _ => ?_⟩
    show some _ = _
    unfold preN
    rw [List.take_of_length_le (by rw [rowL_length]; omega), List.take_of_length_le (by rw [rowW_length]; omega)]
    simp
  | d + 1, i, h => by
    obtain ⟨K1, e1⟩ := stp_ev c hM hn hk (i := i) (by omega)
    obtain ⟨K2, e2⟩ := inr_ev c hM hn hk d (i + 1) (by omega)
    refine ⟨K1 + K2, fun k hk2 => ?_⟩
    have e1 := e1 k (by omega)
    have e2 := e2 k (by omega)
    dsimp only at e1 e2 ⊢
    rw [spec_thTable.inr, preN_at (rowW_length _ _) (by omega), e1, bsome, ← rowL_at c _ (by omega), ← rowW_at c _ (by omega), preN_set (rowL_length _ _) (by omega), preN_set (rowW_length _ _) (by omega)]
    exact e2
theorem row_ev (c : Bool) {M : List Int} {key : Int} (hM : ∀ p ∈ M, 0 ≤ p ∧ p ≤ 11) (hn : M.length ≤ 29) (hk : isPad key = true) :
    Ev (fun k => spec_thTable.row k c key (rowL c M, rowW c M)) (rowL c (plN key :: M), rowW c (plN key :: M)) := by
  obtain ⟨K1, e1⟩ := thPlace_pad key hk
  obtain ⟨K2, e2⟩ := inr_ev c hM hn hk 144 0 (by omega)
  have hp := plN_range hk
  refine ⟨K1 + K2, fun k hk2 => ?_⟩
  have e1 := e1 k (by omega)
  have e2 := e2 k (by omega)
  dsimp only at e1 e2 ⊢
  unfold spec_thTable.row
  rw [e1, bsome, if_pos hp]
  exact e2
def rowN (s : ByteArray) (c : Bool) (e : Nat) : List Int × List Int := (rowL c ((placesN s).drop (s.size - e)), rowW c ((placesN s).drop (s.size - e)))
theorem go_ev (s : ByteArray) (h : dialB s = true) (c : Bool) : ∀ (d : Nat), d ≤ s.size → Ev (fun k => spec_thTable.go k s c d ((List.range (s.size - d + 1)).map (rowN s c))) ((List.range (s.size + 1)).map (rowN s c))
  | 0, _ => ⟨0, fun k _ => rfl⟩
  | d + 1, hd => by
    have hs := (dialB_iff.1 h).1
    have hq := (dialB_iff.1 h).2 _ (bt_mem s d (by omega))
    have hm : ∀ p ∈ (placesN s).drop (d + 1), 0 ≤ p ∧ p ≤ 11 := fun p hp => placesN_range h p (List.mem_of_mem_drop hp)
    obtain ⟨K1, e1⟩ := row_ev c hm (by rw [List.length_drop, placesN_length]; omega) hq
    obtain ⟨K2, e2⟩ := go_ev s h c d (by omega)
    refine ⟨K1 + K2, fun k hk => ?_⟩
    have e1 := e1 k (by omega)
    have e2 := e2 k (by omega)
    dsimp only at e1 e2 ⊢
    have hlast : ((List.range (s.size - (d + 1) + 1)).map (rowN s c)).getD (((List.range (s.size - (d + 1) + 1)).map (rowN s c)).length - 1) ([], []) = (rowL c ((placesN s).drop (d + 1)), rowW c ((placesN s).drop (d + 1))) := by
      rw [List.length_map, List.length_range, List.getD_eq_getElem?_getD, List.getElem?_map, List.getElem?_range (by omega)]
      show rowN s c (s.size - (d + 1) + 1 - 1) = _
      unfold rowN
      rw [show s.size - (s.size - (d + 1) + 1 - 1) = d + 1 by omega]
    have hnew : (rowL c (plN (bt s (d : Int)) :: (placesN s).drop (d + 1)), rowW c (plN (bt s (d : Int)) :: (placesN s).drop (d + 1))) = rowN s c (s.size - d) := by
      rw [← drop_places s d (by omega)]
      unfold rowN
      rw [show s.size - (s.size - d) = d by omega]
    rw [spec_thTable.go, hlast, e1, bsome, hnew, show s.size - (d + 1) + 1 = s.size - d by omega, ← e2, List.range_succ, List.map_append]
    rfl
def tabL (s : ByteArray) (c : Bool) : List (List Int) := (((List.range (s.size + 1)).map (rowN s c)).map Prod.fst).reverse
def tabW (s : ByteArray) (c : Bool) : List (List Int) := (((List.range (s.size + 1)).map (rowN s c)).map Prod.snd).reverse
theorem thTable_ev (s : ByteArray) (h : dialB s = true) (c : Bool) : Ev (fun k => spec_thTable.f k s c) (tabL s c, tabW s c) := by
  obtain ⟨K, e⟩ := go_ev s h c s.size (Nat.le_refl _)
  have hs := (dialB_iff.1 h).1
  refine ⟨K, fun k hk => ?_⟩
  have e := e k hk
  dsimp only at e ⊢
  have h0 : (List.range (s.size - s.size + 1)).map (rowN s c) = [(List.replicate 144 0, List.replicate 144 1)] := by
    rw [Nat.sub_self, Nat.zero_add, List.range_one, List.map_singleton]
    unfold rowN
    rw [Nat.sub_zero, List.drop_eq_nil_of_le (by rw [placesN_length]; exact Nat.le_refl _)]
    unfold rowL rowW
    simp only [lookN]
    rw [List.map_const', List.map_const', List.length_range]
  rw [h0] at e
  unfold spec_thTable.f spec_thTable.g
  rw [if_pos (by omega), e, bsome]
  rfl
theorem tabL_length (s : ByteArray) (c : Bool) : (tabL s c).length = s.size + 1 := by simp [tabL]
theorem tabW_length (s : ByteArray) (c : Bool) : (tabW s c).length = s.size + 1 := by simp [tabW]
theorem rowN_at (s : ByteArray) (c : Bool) {j : Nat} (hj : j ≤ s.size) : ((List.range (s.size + 1)).map (rowN s c)).getD (s.size - j) ([], []) = (rowL c ((placesN s).drop j), rowW c ((placesN s).drop j)) := by
  rw [List.getD_eq_getElem?_getD, List.getElem?_map, List.getElem?_range (by omega)]
  show rowN s c (s.size - j) = _
  unfold rowN
  rw [show s.size - (s.size - j) = j by omega]
theorem tabL_at (s : ByteArray) (c : Bool) {j : Nat} (hj : j ≤ s.size) : rd_L1 (tabL s c) (j : Int) = rowL c ((placesN s).drop j) := by
  unfold rd_L1 tabL
  rw [Int.toNat_natCast, spec_thTable.rev_at Prod.fst rfl (by rw [List.length_map, List.length_range]) hj, rowN_at s c hj]
theorem tabW_at (s : ByteArray) (c : Bool) {j : Nat} (hj : j ≤ s.size) : rd_L1 (tabW s c) (j : Int) = rowW c ((placesN s).drop j) := by
  unfold rd_L1 tabW
  rw [Int.toNat_natCast, spec_thTable.rev_at Prod.snd rfl (by rw [List.length_map, List.length_range]) hj, rowN_at s c hj]
theorem rdL_two (c : Bool) (M : List Int) {a b : Int} (ha : 0 ≤ a ∧ a ≤ 11) (hb : 0 ≤ b ∧ b ≤ 11) : rd (rowL c M) (12 * a + b) = (lookN c M a b).1 := by
  have := rowL_two c M (a := a.toNat) (b := b.toNat) (by omega) (by omega)
  rw [show ((a.toNat : Nat) : Int) = a by omega, show ((b.toNat : Nat) : Int) = b by omega, show 12 * a.toNat + b.toNat = (12 * a + b).toNat by omega] at this
  exact this
theorem rdW_two (c : Bool) (M : List Int) {a b : Int} (ha : 0 ≤ a ∧ a ≤ 11) (hb : 0 ≤ b ∧ b ≤ 11) : rd (rowW c M) (12 * a + b) = (lookN c M a b).2 := by
  have := rowW_two c M (a := a.toNat) (b := b.toNat) (by omega) (by omega)
  rw [show ((a.toNat : Nat) : Int) = a by omega, show ((b.toNat : Nat) : Int) = b by omega, show 12 * a.toNat + b.toNat = (12 * a + b).toNat by omega] at this
  exact this
theorem thAt_ev (l r : ByteArray) (hl : oneB l = true) (hr : oneB r = true) : Ev (fun k => spec_thAt.f k l r) (12 * plN (bt l 0) + plN (bt r 0)) := by
  obtain ⟨l1, pl⟩ := oneB_iff.1 hl
  obtain ⟨r1, pr⟩ := oneB_iff.1 hr
  obtain ⟨K1, e1⟩ := thPlace_pad _ pl
  obtain ⟨K2, e2⟩ := thPlace_pad _ pr
  have p1 := plN_range pl
  have p2 := plN_range pr
  refine ⟨K1 + K2, fun k hk => ?_⟩
  have e1 := e1 k (by omega)
  have e2 := e2 k (by omega)
  dsimp only at e1 e2 ⊢
  unfold spec_thAt.f
  rw [if_pos (by omega), e1, bsome, if_pos (by omega), e2, bsome, wr (x := 12 * plN (bt l 0)) (by omega) (by omega), wr (by omega) (by omega)]
theorem bothB_iff {s l r : ByteArray} (h : bothB s l r = true) : dialB s = true ∧ oneB l = true ∧ oneB r = true := by
  unfold bothB at h
  rw [Bool.and_eq_true, Bool.and_eq_true] at h
  exact ⟨h.1, h.2.1, h.2.2⟩
/-! ### TwoThumbs and CountThumbs -/
def startN (s l r : ByteArray) (c : Bool) : Int × Int := lookN c (placesN s) (plN (bt l 0)) (plN (bt r 0))
theorem startN_small {s l r : ByteArray} (h : bothB s l r = true) (c : Bool) : (0 ≤ (startN s l r c).1 ∧ (startN s l r c).1 ≤ 150) ∧ 1 ≤ (startN s l r c).2 ∧ (startN s l r c).2 ≤ 1073741824 := by
  obtain ⟨hd, h1, h2⟩ := bothB_iff h
  exact lookN_small c (placesN_range hd) (by rw [placesN_length]; exact (dialB_iff.1 hd).1) (plN_range (oneB_iff.1 h1).2) (plN_range (oneB_iff.1 h2).2)
theorem twoS_ev (s l r : ByteArray) (c : Bool) : Ev (fun k => spec_TwoThumbs.f k s l r c) (if bothB s l r = true then ((startN s l r c).1, true) else (0, false)) := by
  obtain ⟨K1, e1⟩ := thBoth_ev s l r
  cases hb : bothB s l r with
  | false =>
    refine ⟨K1, fun k hk => ?_⟩
    have e1 := e1 k hk
    rw [hb] at e1
    dsimp only at e1 ⊢
    unfold spec_TwoThumbs.f
    rw [e1, bsome]
    rfl
  | true =>
    obtain ⟨hd, h1, h2⟩ := bothB_iff hb
    have p1 := plN_range (oneB_iff.1 h1).2
    have p2 := plN_range (oneB_iff.1 h2).2
    obtain ⟨K2, e2⟩ := thTable_ev s hd c
    obtain ⟨K3, e3⟩ := thAt_ev l r h1 h2
    refine ⟨K1 + K2 + K3, fun k hk => ?_⟩
    have e1 := e1 k (by omega)
    have e2 := e2 k (by omega)
    have e3 := e3 k (by omega)
    rw [hb] at e1
    dsimp only at e1 e2 e3 ⊢
    have ht : rd_L1 (tabL s c) 0 = rowL c (placesN s) := tabL_at s c (Nat.zero_le s.size)
    have hl : ((rd_L1 (tabL s c) 0).length : Int) = 144 := by
      rw [ht, rowL_length]
      rfl
    have hv : rd (rd_L1 (tabL s c) 0) (12 * plN (bt l 0) + plN (bt r 0)) = (startN s l r c).1 := by
      rw [ht, rdL_two c _ p1 p2]
      rfl
    unfold spec_TwoThumbs.f
    rw [e1, bsome, if_pos rfl, e2, bsome]
    dsimp only
    rw [if_pos (by rw [tabL_length]; omega), e3, bsome, if_pos (by omega), if_pos (by omega), hv, if_pos rfl]
theorem twoI_ev (s l r : ByteArray) (c : Bool) (hs : s.size ≤ 140737488351232) (hl : l.size ≤ 140737488351232) (hr : r.size ≤ 140737488351232) : Ev (fun k => impl_TwoThumbs.f k s l r c) (if bothB s l r = true then ((startN s l r c).1, true) else (0, false)) := by
  obtain ⟨K1, e1⟩ := thumbsOk_ev s l r hs hl hr
  cases hb : bothB s l r with
  | false =>
    refine ⟨K1, fun k hk => ?_⟩
    have e1 := e1 k hk
    rw [hb] at e1
    dsimp only at e1 ⊢
    unfold impl_TwoThumbs.f
    rw [e1, bsome]
    rfl
  | true =>
    obtain ⟨hd, h1, h2⟩ := bothB_iff hb
    have p1 := plN_range (oneB_iff.1 h1).2
    have p2 := plN_range (oneB_iff.1 h2).2
    obtain ⟨K2, e2⟩ := newLooker_ev s hd c
    refine ⟨K1 + K2, fun k hk => ?_⟩
    have e1 := e1 k (by omega)
    have e2 := e2 k (by omega)
    rw [hb, if_pos rfl] at e1
    dsimp only at e1 e2 ⊢
    have hf := from_is k c (L := placesN s) (i := 0) (placesN_range hd) (by rw [placesN_length]; exact (dialB_iff.1 hd).1) (Nat.zero_le _) p1 p2
    rw [List.drop_zero] at hf
    unfold impl_TwoThumbs.f
    rw [e1, bsome]
    dsimp only
    rw [if_pos rfl, e2, bsome, show (impl_looker_from.f k (placesN s, c) 0 (plN (bt l 0)) (plN (bt r 0))) = some (startN s l r c) from hf, bsome, if_pos rfl]
theorem countS_ev (s l r : ByteArray) (c : Bool) : Ev (fun k => spec_CountThumbs.f k s l r c) (if bothB s l r = true then ((startN s l r c).2, true) else (0, false)) := by
  obtain ⟨K1, e1⟩ := thBoth_ev s l r
  cases hb : bothB s l r with
  | false =>
    refine ⟨K1, fun k hk => ?_⟩
    have e1 := e1 k hk
    rw [hb] at e1
    dsimp only at e1 ⊢
    unfold spec_CountThumbs.f
    rw [e1, bsome]
    rfl
  | true =>
    obtain ⟨hd, h1, h2⟩ := bothB_iff hb
    have p1 := plN_range (oneB_iff.1 h1).2
    have p2 := plN_range (oneB_iff.1 h2).2
    have hsm := startN_small hb c
    obtain ⟨K2, e2⟩ := thTable_ev s hd c
    obtain ⟨K3, e3⟩ := thAt_ev l r h1 h2
    refine ⟨K1 + K2 + K3, fun k hk => ?_⟩
    have e1 := e1 k (by omega)
    have e2 := e2 k (by omega)
    have e3 := e3 k (by omega)
    rw [hb] at e1
    dsimp only at e1 e2 e3 ⊢
    have ht : rd_L1 (tabW s c) 0 = rowW c (placesN s) := tabW_at s c (Nat.zero_le s.size)
    have hl : ((rd_L1 (tabW s c) 0).length : Int) = 144 := by
      rw [ht, rowW_length]
      rfl
    have hv : rd (rd_L1 (tabW s c) 0) (12 * plN (bt l 0) + plN (bt r 0)) = (startN s l r c).2 := by
      rw [ht, rdW_two c _ p1 p2]
      rfl
    unfold spec_CountThumbs.f
    rw [e1, bsome, if_pos rfl, e2, bsome]
    dsimp only
    rw [if_pos (by rw [tabW_length]; omega), e3, bsome, if_pos (by omega), if_pos (by omega), hv, if_pos (by omega), if_pos rfl]
theorem countI_ev (s l r : ByteArray) (c : Bool) (hs : s.size ≤ 140737488351232) (hl : l.size ≤ 140737488351232) (hr : r.size ≤ 140737488351232) : Ev (fun k => impl_CountThumbs.f k s l r c) (if bothB s l r = true then ((startN s l r c).2, true) else (0, false)) := by
  obtain ⟨K1, e1⟩ := thumbsOk_ev s l r hs hl hr
  cases hb : bothB s l r with
  | false =>
    refine ⟨K1, fun k hk => ?_⟩
    have e1 := e1 k hk
    rw [hb] at e1
    dsimp only at e1 ⊢
    unfold impl_CountThumbs.f
    rw [e1, bsome]
    rfl
  | true =>
    obtain ⟨hd, h1, h2⟩ := bothB_iff hb
    have p1 := plN_range (oneB_iff.1 h1).2
    have p2 := plN_range (oneB_iff.1 h2).2
    have hsm := startN_small hb c
    obtain ⟨K2, e2⟩ := newLooker_ev s hd c
    refine ⟨K1 + K2, fun k hk => ?_⟩
    have e1 := e1 k (by omega)
    have e2 := e2 k (by omega)
    rw [hb, if_pos rfl] at e1
    dsimp only at e1 e2 ⊢
    have hf := from_is k c (L := placesN s) (i := 0) (placesN_range hd) (by rw [placesN_length]; exact (dialB_iff.1 hd).1) (Nat.zero_le _) p1 p2
    rw [List.drop_zero] at hf
    unfold impl_CountThumbs.f
    rw [e1, bsome]
    dsimp only
    rw [if_pos rfl, e2, bsome, show (impl_looker_from.f k (placesN s, c) 0 (plN (bt l 0)) (plN (bt r 0))) = some (startN s l r c) from hf, bsome, if_neg (by omega), if_pos rfl]
end Go.Proofs.YthnjmokaiiajmaaDoor.Pu

namespace Go.Proofs.YthnjmokaiiajmaaDoor.Pure
open Go.RowKit Go.Proofs.YthnjmokaiiajmaaDoor.P Go.Proofs.YthnjmokaiiajmaaDoor.Pu Go.Proofs.YthnjmokaiiajmaaDoorW.PrintWords Go.Proofs.YthnjmokaiiajmaaDoorW.PrintLast

theorem FnExactCountThumbs : laws_FnExactCountThumbs.Pure := by
  intro s l r c hs hl hr
  by_cases h1 : (s.size : Int) > 1048576
  · exact ⟨0, by unfold laws_FnExactCountThumbs.f; rw [if_pos h1]⟩
  by_cases h2 : (l.size : Int) > 1048576
  · exact ⟨0, by unfold laws_FnExactCountThumbs.f; rw [if_neg h1, if_pos h2]⟩
  by_cases h3 : (r.size : Int) > 1048576
  · exact ⟨0, by unfold laws_FnExactCountThumbs.f; rw [if_neg h1, if_neg h2, if_pos h3]⟩
  obtain ⟨K1, e1⟩ := countS_ev s l r c
  obtain ⟨K2, e2⟩ := countI_ev s l r c hs hl hr
  refine ⟨K1 + K2, ?_⟩
  have e1 := e1 (K1 + K2) (by omega)
  have e2 := e2 (K1 + K2) (by omega)
  dsimp only at e1 e2
  unfold laws_FnExactCountThumbs.f
  rw [if_neg h1, if_neg h2, if_neg h3, e1, bsome, e2, bsome, if_pos rfl, if_neg (by simp)]
end Go.Proofs.YthnjmokaiiajmaaDoor.Pure

