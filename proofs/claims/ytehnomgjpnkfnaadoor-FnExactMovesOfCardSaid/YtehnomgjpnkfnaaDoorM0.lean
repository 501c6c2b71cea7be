/- Parts of the proof (printed walks, lemmas of our own, contracts of the library laid for this program), merged into one text by wip/mclaim.py. Conditions: each theorem's own. -/
import Derived.Shelf.Strings.Builder1
import Derived.Shelf.Strings.Builder2
import Derived.Shelf.Strings.Trim
import Derived.Shelf.Small.Utf8
import Derived.Shelf.Small.Strs
import Derived.Shelf.Strings.BuilderF
import Derived.Shelf.Strings.BuilderK
import Derived.Shelf.Strings.Search1
import Derived.Shelf.Strings.Prefix
import Derived.Shelf.Strings.Runes
import Derived.Shelf.Strings.AsciiSet
import Derived.Shelf.Bits.Mul64
import Derived.Shelf.Strings.Repeat
import Derived.Shelf.Unicode.DecodeSlow
import Derived.Test.YtehnomgjpnkfnaaDoorProg
import Derived.Test.YtehnomgjpnkfnaaDoorWWords
import Derived.Test.YtehnomgjpnkfnaaDoorWSized
import Derived.Test.YtehnomgjpnkfnaaDoorWLast
import Derived.Test.YtehnomgjpnkfnaaDoorWMore
import Derived.SliceStrings
import Derived.SizedLaws
import Derived.Laws.BytesArg
import Derived.Below
import Derived.Deep.Draws
import Derived.Deep.AppendLies
import Derived.Maps.AppendAt
import Derived.OwnWalk
import Derived.Laws.MakeOwn
import Derived.Laws.OwnMore
import Derived.Deep.OwnRows
import Derived.Tactics
import Derived.Lib.ConvBytes
import Derived.Laws.Slices
import Derived.WalkKit
import Derived.KernelRfl
import Derived.RowKit3
import Derived.Deep.LoopGhost
import Derived.Deep.QuietTactic
import Derived.BigQuiet
import Derived.WideLaws
import Derived.Deep.DeepCutAuto
import Derived.Deep.CutBlock
import Derived.Deep.RegionHeld3
import Derived.Laws.Rows
import Derived.Lib.AppendStr
import Derived.ArgAppend
import Derived.Laws.IdiomCopy
import Derived.OrdersHeld
import Derived.Laws.BitsLemmas
import Derived.RowKit
import Derived.Shelf.SlicesE.IndexFunc
import Derived.Shelf.Strings.SlTrimAscii
import Derived.Test.YtehnomgjpnkfnaaDoorWTab
import Derived.Test.YtehnomgjpnkfnaaDoorWFour
import Derived.Test.YtehnomgjpnkfnaaDoorWQPut
import Derived.Test.YtehnomgjpnkfnaaDoorWApart
import Derived.Test.YtehnomgjpnkfnaaDoorWArr
import Derived.Test.YtehnomgjpnkfnaaDoorWZeros
import Derived.Test.YtehnomgjpnkfnaaDoorWFoot
import Derived.Test.YtehnomgjpnkfnaaDoorWKept
import Derived.Test.YtehnomgjpnkfnaaDoorWShare
import Derived.Test.YtehnomgjpnkfnaaDoorWN
import Derived.Test.YtehnomgjpnkfnaaDoorWFootNe
import Derived.Test.YtehnomgjpnkfnaaDoorWAt
import Derived.Test.YtehnomgjpnkfnaaDoorWEqStruct
import Derived.Test.YtehnomgjpnkfnaaDoorWRepsOne
import Derived.Test.YtehnomgjpnkfnaaDoorWInv
import Derived.Test.YtehnomgjpnkfnaaDoorWInvWords
import Derived.Test.YtehnomgjpnkfnaaDoorWGuard
import Derived.Test.YtehnomgjpnkfnaaDoorWNEv
import Derived.Lib.SlTrimSet
namespace Go.Proofs
open Go.Shelf
def Tryd.lays169_ren : Go.Shelf.Ren := ⟨fun | 169 => 16 | n => n, fun | 70 => 28 | 9 => 9 | 0 => 0 | 72 => 31 | 37 => 29 | 127 => 42 | 3 => 3 | 5 => 5 | n => n, fun | n => n⟩
theorem Tryd.lays169 : Go.Proofs.Lays.n169 Tryd.prog Tryd.lays169_ren := {
  mixed := by kernel_rfl
  f169 := Tryd.func16.trans (congrArg some (by kernel_rfl))
  t0 := Tryd.underlying0
  a0 := Tryd.isAgg0
  z0 := Tryd.sizeOf0
  v0 := Tryd.zeroValue0
  t3 := Tryd.underlying3
  a3 := Tryd.isAgg3
  z3 := Tryd.sizeOf3
  v3 := Tryd.zeroValue3
  t9 := Tryd.underlying9
  a9 := Tryd.isAgg9
  z9 := Tryd.sizeOf9
  v9 := Tryd.zeroValue9
  t37 := Tryd.underlying29
  a37 := Tryd.isAgg29
  z37 := Tryd.sizeOf29
  v37 := Tryd.zeroValue29
  t70 := Tryd.underlying28
  a70 := Tryd.isAgg28
  z70 := Tryd.sizeOf28
  v70 := Tryd.zeroValue28
  t72 := Tryd.underlying31
  a72 := Tryd.isAgg31
  z72 := Tryd.sizeOf31
  v72 := Tryd.zeroValue31
  t127 := Tryd.underlying42
  a127 := Tryd.isAgg42
  z127 := Tryd.sizeOf42
  v127 := Tryd.zeroValue42 }
theorem Tryd.Builder_Extra_169 : Builder.Extra Tryd.prog Tryd.lays169_ren := {
  sizeBuilder := by kernel_rfl
  liesBuilder := by kernel_rfl
  t5 := Tryd.underlying5
  a5 := Tryd.isAgg5
  z5 := Tryd.sizeOf5
  v5 := Tryd.zeroValue5
  infoByte := by kernel_rfl
  cellsByte := by kernel_rfl
  sizeByte := by kernel_rfl
  neB5 := by decide }
def Tryd.lays160_ren : Go.Shelf.Ren := ⟨fun | 160 => 21 | 232 => 29 | 231 => 28 | 227 => 30 | 234 => 32 | 233 => 31 | 236 => 34 | 235 => 33 | 228 => 40 | 271 => 43 | 151 => 42 | 197 => 41 | 120 => 47 | 152 => 46 | 260 => 45 | 137 => 18 | 119 => 48 | 224 => 49 | 225 => 50 | 217 => 22 | 266 => 35 | n => n, fun | 9 => 9 | 4 => 4 | 3 => 3 | 5 => 5 | 117 => 54 | 116 => 53 | 0 => 0 | 124 => 57 | 21 => 21 | 105 => 65 | 46 => 46 | 119 => 70 | 139 => 73 | 138 => 72 | n => n, fun | 3 => 1 | 4 => 2 | n => n⟩
theorem Tryd.lays160 : Go.Proofs.Lays.n160 Tryd.prog Tryd.lays160_ren := {
  mixed := by kernel_rfl
  f119 := Tryd.func48.trans (congrArg some (by kernel_rfl))
  f120 := Tryd.func47.trans (congrArg some (by kernel_rfl))
  f137 := Tryd.func18.trans (congrArg some (by kernel_rfl))
  f151 := Tryd.func42.trans (congrArg some (by kernel_rfl))
  f152 := Tryd.func46.trans (congrArg some (by kernel_rfl))
  f160 := Tryd.func21.trans (congrArg some (by kernel_rfl))
  f197 := Tryd.func41.trans (congrArg some (by kernel_rfl))
  f217 := Tryd.func22.trans (congrArg some (by kernel_rfl))
  f224 := Tryd.func49.trans (congrArg some (by kernel_rfl))
  f225 := Tryd.func50.trans (congrArg some (by kernel_rfl))
  f227 := Tryd.func30.trans (congrArg some (by kernel_rfl))
  f228 := Tryd.func40.trans (congrArg some (by kernel_rfl))
  f231 := Tryd.func28.trans (congrArg some (by kernel_rfl))
  f232 := Tryd.func29.trans (congrArg some (by kernel_rfl))
  f233 := Tryd.func31.trans (congrArg some (by kernel_rfl))
  f234 := Tryd.func32.trans (congrArg some (by kernel_rfl))
  f235 := Tryd.func33.trans (congrArg some (by kernel_rfl))
  f236 := Tryd.func34.trans (congrArg some (by kernel_rfl))
  f260 := Tryd.func45.trans (congrArg some (by kernel_rfl))
  f266 := Tryd.func35.trans (congrArg some (by kernel_rfl))
  f271 := Tryd.func43.trans (congrArg some (by kernel_rfl))
  t0 := Tryd.underlying0
  a0 := Tryd.isAgg0
  z0 := Tryd.sizeOf0
  v0 := Tryd.zeroValue0
  t3 := Tryd.underlying3
  a3 := Tryd.isAgg3
  z3 := Tryd.sizeOf3
  v3 := Tryd.zeroValue3
  t4 := Tryd.underlying4
  a4 := Tryd.isAgg4
  z4 := Tryd.sizeOf4
  v4 := Tryd.zeroValue4
  t5 := Tryd.underlying5
  a5 := Tryd.isAgg5
  z5 := Tryd.sizeOf5
  v5 := Tryd.zeroValue5
  t9 := Tryd.underlying9
  a9 := Tryd.isAgg9
  z9 := Tryd.sizeOf9
  v9 := Tryd.zeroValue9
  t21 := Tryd.underlying21
  a21 := Tryd.isAgg21
  z21 := Tryd.sizeOf21
  v21 := Tryd.zeroValue21
  t46 := Tryd.underlying46
  a46 := Tryd.isAgg46
  z46 := Tryd.sizeOf46
  v46 := Tryd.zeroValue46
  t105 := Tryd.underlying65
  a105 := Tryd.isAgg65
  z105 := Tryd.sizeOf65
  v105 := Tryd.zeroValue65
  t116 := Tryd.underlying53
  a116 := Tryd.isAgg53
  z116 := Tryd.sizeOf53
  t117 := Tryd.underlying54
  a117 := Tryd.isAgg54
  z117 := Tryd.sizeOf54
  v117 := Tryd.zeroValue54
  t119 := Tryd.underlying70
  a119 := Tryd.isAgg70
  z119 := Tryd.sizeOf70
  t124 := Tryd.underlying57
  a124 := Tryd.isAgg57
  z124 := Tryd.sizeOf57
  v124 := Tryd.zeroValue57
  t138 := Tryd.underlying72
  a138 := Tryd.isAgg72
  z138 := Tryd.sizeOf72
  v138 := Tryd.zeroValue72
  t139 := Tryd.underlying73
  a139 := Tryd.isAgg73
  z139 := Tryd.sizeOf73
  v139 := Tryd.zeroValue73
  g3 := by kernel_rfl
  g4 := by kernel_rfl }
def Tryd.lays137_ren : Go.Shelf.Ren := ⟨fun | 137 => 18 | 217 => 22 | 266 => 35 | n => n, fun | 9 => 9 | 5 => 5 | 3 => 3 | n => n, fun | n => n⟩
theorem Tryd.lays137 : Go.Proofs.Lays.n137 Tryd.prog Tryd.lays137_ren := {
  mixed := by kernel_rfl
  f137 := Tryd.func18.trans (congrArg some (by kernel_rfl))
  f217 := Tryd.func22.trans (congrArg some (by kernel_rfl))
  f266 := Tryd.func35.trans (congrArg some (by kernel_rfl))
  t3 := Tryd.underlying3
  a3 := Tryd.isAgg3
  z3 := Tryd.sizeOf3
  v3 := Tryd.zeroValue3
  t5 := Tryd.underlying5
  a5 := Tryd.isAgg5
  z5 := Tryd.sizeOf5
  v5 := Tryd.zeroValue5
  t9 := Tryd.underlying9
  a9 := Tryd.isAgg9
  z9 := Tryd.sizeOf9
  v9 := Tryd.zeroValue9 }
open Go.RowKit in
/-- strings.IndexByte: "IndexByte returns the index of the first instance of c in s, or -1 if c is not present in s.": IT RETURNS 'Lib.indexByte s c'; the world is as it was. (LAID: no walk: one application.) -/
theorem Tryd.strings_IndexByte (s : ByteArray) (c : Int) (w : World) :
    Calls Tryd.prog 18 #[.string s, .int .u8 c] w fun e w' => e = .returned (.int .i64 (Lib.indexByte s.data.toList c.toNat.toUInt8)) ∧ w' = w := Any.strings_IndexByte Tryd.lays137 s c w
open Go.RowKit in
/-- (*strings.Builder).String: "String returns the accumulated string.": WHATEVER THE BUILDER HOLDS; THE FORM '_k': OVER 'Lib.IsBuilderF' (a builder that 'String()' may have read), AND WITH THE FRAME THAT REACHES ABOVE THE BUILDER: 'Lib.OthersKept': every block that is not b and is no row of uint8's stands as it stood: the iterator of a range among them. (LAID: no walk: one application.) -/
theorem Tryd.Builder_String_any_k (B b : Nat) (l : List UInt8) (w : World) (h : Lib.IsBuilderF 31 5 B b (Lib.byteCells l) w) (hBw : B ≤ w.heap.size) :
    Calls Tryd.prog 16 #[.pointer (some ⟨b, 0, none⟩)] w fun e w' => e = .returned (.string ⟨l.toArray⟩) ∧ (Lib.IsBuilderF 31 5 B b (Lib.byteCells l) w' ∧ Below B w w' ∧ Lib.OthersKept 5 (some b) w w') := Any.Builder_String_any_k Tryd.lays169 Tryd.Builder_Extra_169 B b l w h hBw
def Tryd.lays105_ren : Go.Shelf.Ren := ⟨fun | 105 => 20 | 212 => 24 | 99 => 25 | 165 => 26 | 166 => 14 | 170 => 27 | 169 => 16 | 263 => 36 | 264 => 37 | 206 => 38 | 240 => 19 | 241 => 39 | 276 => 23 | 277 => 44 | n => n, fun | 9 => 9 | 3 => 3 | 4 => 4 | 20 => 20 | 0 => 0 | 46 => 46 | 109 => 47 | 5 => 5 | 72 => 31 | 76 => 36 | 51 => 58 | 146 => 59 | 53 => 61 | 148 => 62 | 70 => 28 | 37 => 29 | 75 => 35 | 127 => 42 | 164 => 44 | 80 => 39 | n => n, fun | n => n⟩
theorem Tryd.lays105 : Go.Proofs.Lays.n105 Tryd.prog Tryd.lays105_ren := {
  mixed := by kernel_rfl
  f99 := Tryd.func25.trans (congrArg some (by kernel_rfl))
  f105 := Tryd.func20.trans (congrArg some (by kernel_rfl))
  f165 := Tryd.func26.trans (congrArg some (by kernel_rfl))
  f166 := Tryd.func14.trans (congrArg some (by kernel_rfl))
  f169 := Tryd.func16.trans (congrArg some (by kernel_rfl))
  f170 := Tryd.func27.trans (congrArg some (by kernel_rfl))
  f206 := Tryd.func38.trans (congrArg some (by kernel_rfl))
  f212 := Tryd.func24.trans (congrArg some (by kernel_rfl))
  f240 := Tryd.func19.trans (congrArg some (by kernel_rfl))
  f241 := Tryd.func39.trans (congrArg some (by kernel_rfl))
  f263 := Tryd.func36.trans (congrArg some (by kernel_rfl))
  f264 := Tryd.func37.trans (congrArg some (by kernel_rfl))
  f276 := Tryd.func23.trans (congrArg some (by kernel_rfl))
  f277 := Tryd.func44.trans (congrArg some (by kernel_rfl))
  t0 := Tryd.underlying0
  a0 := Tryd.isAgg0
  z0 := Tryd.sizeOf0
  v0 := Tryd.zeroValue0
  t3 := Tryd.underlying3
  a3 := Tryd.isAgg3
  z3 := Tryd.sizeOf3
  v3 := Tryd.zeroValue3
  t4 := Tryd.underlying4
  a4 := Tryd.isAgg4
  z4 := Tryd.sizeOf4
  v4 := Tryd.zeroValue4
  t5 := Tryd.underlying5
  a5 := Tryd.isAgg5
  z5 := Tryd.sizeOf5
  v5 := Tryd.zeroValue5
  t9 := Tryd.underlying9
  a9 := Tryd.isAgg9
  z9 := Tryd.sizeOf9
  v9 := Tryd.zeroValue9
  t20 := Tryd.underlying20
  a20 := Tryd.isAgg20
  z20 := Tryd.sizeOf20
  v20 := Tryd.zeroValue20
  t37 := Tryd.underlying29
  a37 := Tryd.isAgg29
  z37 := Tryd.sizeOf29
  v37 := Tryd.zeroValue29
  t46 := Tryd.underlying46
  a46 := Tryd.isAgg46
  z46 := Tryd.sizeOf46
  v46 := Tryd.zeroValue46
  t51 := Tryd.underlying58
  a51 := Tryd.isAgg58
  z51 := Tryd.sizeOf58
  v51 := Tryd.zeroValue58
  t53 := Tryd.underlying61
  a53 := Tryd.isAgg61
  z53 := Tryd.sizeOf61
  v53 := Tryd.zeroValue61
  t70 := Tryd.underlying28
  a70 := Tryd.isAgg28
  z70 := Tryd.sizeOf28
  v70 := Tryd.zeroValue28
  t72 := Tryd.underlying31
  a72 := Tryd.isAgg31
  z72 := Tryd.sizeOf31
  v72 := Tryd.zeroValue31
  t75 := Tryd.underlying35
  a75 := Tryd.isAgg35
  z75 := Tryd.sizeOf35
  v75 := Tryd.zeroValue35
  t76 := Tryd.underlying36
  a76 := Tryd.isAgg36
  z76 := Tryd.sizeOf36
  v76 := Tryd.zeroValue36
  t109 := Tryd.underlying47
  a109 := Tryd.isAgg47
  z109 := Tryd.sizeOf47
  v109 := Tryd.zeroValue47
  t127 := Tryd.underlying42
  a127 := Tryd.isAgg42
  z127 := Tryd.sizeOf42
  v127 := Tryd.zeroValue42
  t146 := Tryd.underlying59
  a146 := Tryd.isAgg59
  z146 := Tryd.sizeOf59
  v146 := Tryd.zeroValue59
  t148 := Tryd.underlying62
  a148 := Tryd.isAgg62
  z148 := Tryd.sizeOf62
  v148 := Tryd.zeroValue62
  t164 := Tryd.underlying44
  a164 := Tryd.isAgg44
  z164 := Tryd.sizeOf44
  v164 := Tryd.zeroValue44 }
theorem Tryd.Builder_Extra_105 : Builder.Extra Tryd.prog Tryd.lays105_ren := {
  sizeBuilder := by kernel_rfl
  liesBuilder := by kernel_rfl
  t5 := Tryd.underlying5
  a5 := Tryd.isAgg5
  z5 := Tryd.sizeOf5
  v5 := Tryd.zeroValue5
  infoByte := by kernel_rfl
  cellsByte := by kernel_rfl
  sizeByte := by kernel_rfl
  neB5 := by decide }
open Go.RowKit Go.Lib in
/-- **strings.Repeat: count ≥ 0, the result within one allocation: count copies of s.** (LAID: no walk: one application.) -/
theorem Tryd.strings_Repeat (s : ByteArray) (c : Nat) (w : World) (hc : c ≤ 9223372036854775807) (hlen : s.size * c ≤ 140737488355328) :
    Calls Tryd.prog 20 #[.string s, .int .i64 c] w fun e w' => e = .returned (.string ⟨(Lib.repeatL s.data.toList c).toArray⟩) ∧ Below w.heap.size w w' := Any.strings_Repeat Tryd.lays105 Tryd.Builder_Extra_105 s c w hc hlen
end Go.Proofs

namespace Go.Proofs.YtehnomgjpnkfnaaDoor.Strs
open Go.RowKit Go.Proofs.YtehnomgjpnkfnaaDoorW.PrintWords Go.Proofs.YtehnomgjpnkfnaaDoorW.PrintLast Go.ChangeShapes Go.WideShapes

theorem strs_ofRowC {w : World} {a : Option Addr} {len cap : Nat} {zs : List ByteArray} (h : (a = none ∧ len = 0 ∧ cap = 0 ∧ zs = []) ∨ ∃ x, a = some x ∧ len ≤ cap ∧ cap ≤ maxLen ∧ zs.length = cap ∧ (∀ i, i < zs.length → w.cell? (x.add i) = some (.string (zs.getD i ByteArray.empty))) ∧ ∀ n ∈ zs, n.size ≤ maxLen) :
    ∃ l : List ByteArray, len = l.length ∧ Kd.C Kd.string w a l.length l ∧ l.length ≤ maxLen ∧ (∀ x ∈ l, x.size ≤ maxLen) ∧ l.length ≤ cap := by
  rcases h with ⟨rfl, rfl, rfl, rfl⟩ | ⟨x, rfl, hl, hm, hz, hc, hs⟩
  · exact ⟨[], rfl, ⟨rfl, by simp, fun h => absurd h (by simp)⟩, by simp, by simp, by simp⟩
  · have hlen : (zs.take len).length = len := by rw [List.length_take]; omega
    refine ⟨zs.take len, hlen.symm, ⟨rfl, by rw [hlen]; unfold maxLen at hm; omega, fun _ => ⟨x, rfl, fun j p hj => ⟨[.string p], rfl, rfl, fun i u hu => ?_⟩⟩⟩, by rw [hlen]; omega, fun s hs' => hs s (List.mem_of_mem_take hs'), by rw [hlen]; exact hl⟩
    have hjl : j < len := by
      have := (List.getElem?_eq_some_iff.1 hj).1
      omega
    have hi : i = 0 := by
      have := (List.getElem?_eq_some_iff.1 hu).1
      simp at this
      exact this
    subst hi
    have hp : zs.getD j ByteArray.empty = p := by
      rw [List.getElem?_take_of_lt hjl] at hj
      rw [List.getD_eq_getElem?_getD, hj]
      rfl
    have := hc j (by omega)
    rw [hp] at this
    simp at hu
    subst hu
    rw [show (Kd.string).sz = 1 from rfl, Nat.mul_one, Nat.add_zero]
    exact this
theorem sized_strs {H : Type} {enc : TypeId × Value → H} {P : Program} {W : World} {base : Nat} {spare : Nat → Bool} {held : Bool} {t e : TypeId} {a : Option Addr} {len cap : Nat} {d : DataW H} {ps : List MemPlace} {ts : List TypeId} {ds : List (DataW H)} {j : Nat}
    (hsz : (DataW.weightsEach P ts ds).all (· ≤ reachBytes) = true) (ht : ts[j]? = some t) (hd : ds[j]? = some d) (hu : P.underlying t = some (.slice e)) (he : P.underlying e = some .string) (hc : P.cellsOf e = 1) {B : Nat} (hB : P.bytesOf e = B)
    (h : DataW.Trod enc P W base spare held t (.slice a len cap) d ps) : len * B ≤ 140737488351232 := by
  obtain ⟨fuel, hf⟩ := h
  rcases open_strings hu he hc hf with ⟨hcs, _⟩ | ⟨x, l, c, zs, hcs, _, hl, _, hz, hx, _, _⟩
  · simp [Value.cells] at hcs
    obtain ⟨rfl, rfl, rfl⟩ := hcs
    simp
  · simp [Value.cells] at hcs
    obtain ⟨rfl, rfl, rfl⟩ := hcs
    obtain ⟨hx, _⟩ := Prod.mk.inj hx
    subst hx
    have z := sized_slice hsz ht hd hu
    rw [hB] at z
    have hl2 : len ≤ zs.length := by
      rw [hz]
      split <;> omega
    have e2 : (strs (H := H) (zs.take len)).length + (strs (H := H) (zs.drop len)).length = zs.length := by
      simp only [strs, List.length_map, List.length_take, List.length_drop]
      omega
    rw [e2] at z
    exact Nat.le_trans (Nat.mul_le_mul_right _ hl2) z

/-! ### a call of a function value that lies in a slot -/
section
variable {P : Program} {ops : Array Oper} {rest : List Oper} {o : Oper} {a : Act} {Q : Exit → Act → World → Prop} {w : World}
/-- The operation is a call of what lies in this slot. -/
theorem gate_slot {s : Tmp} {xs_ : Array Operand} {ts : Array TypeId} (_ho : o.op = .call { callee := .value (.tmp s), args := xs_, argTypes := ts }) (h : wpList P ops Q (o :: rest) a w) : wpList P ops Q (o :: rest) a w := h
/-- Such a call in a plain region: the function in the slot captures nothing. -/
theorem goesV_ (N : Option Tmp) (hd : o.dst = N) (hg : o.guard = none) {s : Tmp} {f : FuncId} {fn : Func} {xs_ : Array Operand} {ts : Array TypeId} (hf : P.funcs[f]? = some fn) (hname : (fn.name == "runtime.NumGoroutine") = false) (hb : fn.body.isSome = true) (args : Array Value)
    (hop : o.op = .call { callee := .value (.tmp s), args := xs_, argTypes := ts }) (hs : a.eval (.tmp s) = .func (.func f) #[] #[]) (hargs : xs_.map a.eval = args)
    (h : Calls P f args w fun e w' => ∃ v, e = .returned v ∧ wpList P ops Q rest (a.put N v) w') : wpList P ops Q (o :: rest) a w := by
  refine wpList_plain hg fun K hK => ?_
  have he := enters_ hf hname hb args w
  have hrun : (execOp a.eval o).run P w = .ok (.enter f args) w := by
    unfold execOp
    simp [hop, resolve, Deferred.ofValue, invoke, hs, hargs, he]
  unfold Oper.wp
  rw [hrun, Oper.upon_enter]
  refine h.mono fun e w'' hh => ?_
  obtain ⟨v, rfl, hk⟩ := hh
  subst hd
  exact hK _ _ hk
end
end Go.Proofs.YtehnomgjpnkfnaaDoor.Strs

namespace Go.Proofs.YtehnomgjpnkfnaaDoor.Bld
open Go.RowKit Go.Lib

section
variable {T e : TypeId} {B b : Nat} {bs : List Value} {w w' : World}
theorem atF_below {p : Value} (h : BuilderAtF T e B b p bs w) (hb : Below w.heap.size w w') : BuilderAtF T e B b p bs w' := by
  obtain ⟨hB, v, hh, hown, hne⟩ := h
  have hlt : ∀ k o, w.heap[k]? = some o → k < w.heap.size := fun k o hk => (Array.getElem?_eq_some_iff.1 hk).1
  refine ⟨hB, v, (hb.block b (hlt _ _ hh)).trans hh, ⟨hown.1, ?_⟩, hne⟩
  rcases hown.2 with hn | ⟨g, cap, cur, fz, hv, hbg, hg, rest⟩
  · exact .inl hn
  · exact .inr ⟨g, cap, cur, fz, hv, hbg, (hb.block g (hlt _ _ hg)).trans hg, rest⟩
theorem below (h : IsBuilderF T e B b bs w) (hb : Below w.heap.size w w') : IsBuilderF T e B b bs w' :=
  h.elim (fun x => .inl (atF_below x hb)) (fun x => .inr (atF_below x hb))
theorem fresh (T e : TypeId) (w : World) : IsBuilderF T e w.heap.size w.heap.size (byteCells []) (w.alloc (.cells #[.pointer none, .slice none 0 0] T)) := .of (fresh_isBuilder T e w)
/-- A row that is no row of the builder's bytes stands. -/
theorem others_row {k : Nat} {c : Array Value} {t : TypeId} {fz : Nat × Nat} (h : OthersKept e (some b) w w') (hk : w.heap[k]? = some (.cells c t fz)) (hb : k ≠ b) (ht : t ≠ e) : w'.heap[k]? = some (.cells c t fz) :=
  h k _ hk (fun e1 => hb (Option.some.inj e1)) (fun _ _ e1 => by cases e1; exact ht rfl)
end
theorem rep_one (x : UInt8) (c : Nat) : Lib.repeatL [x] c = List.replicate c x := by
  have := Lib.repeatL_replicate x 1 c
  simpa using this
theorem writeString (B b : Nat) (l : List UInt8) (s : ByteArray) (w : World) (h : IsBuilderF 31 5 B b (byteCells l) w) (hlen : l.length + s.size ≤ 140737488355328) (hBw : B ≤ w.heap.size) :
    Calls Tryd.prog 14 #[.pointer (some ⟨b, 0, none⟩), .string s] w fun e w' => e = .returned (.tuple #[.int .i64 s.size, .nilIface]) ∧ IsBuilderF 31 5 B b (byteCells (l ++ s.data.toList)) w' ∧ Below B w w' ∧ OthersKept 5 (some b) w w' := by
  refine (Any.Builder_WriteString_k (ρ := Tryd.lays105_ren) { Tryd.lays105 with } Tryd.Builder_Extra_105 B b _ s w h (by rw [byteCells_length]; exact hlen) hBw).mono ?_
  rintro e w' ⟨rfl, h1, h2, h3⟩
  exact ⟨rfl, .inr (by rw [byteCells_append]; exact h1), h2, h3⟩
theorem toString_ (B b : Nat) (l : List UInt8) (w : World) (h : IsBuilderF 31 5 B b (byteCells l) w) (hBw : B ≤ w.heap.size) :
    Calls Tryd.prog 16 #[.pointer (some ⟨b, 0, none⟩)] w fun e w' => e = .returned (.string ⟨l.toArray⟩) ∧ Below B w w' :=
  (Tryd.Builder_String_any_k B b l w h hBw).mono fun _ _ h => ⟨h.1, h.2.2.1⟩
theorem repeat_ (s : ByteArray) (n : Int) (w : World) (h0 : 0 ≤ n) (h1 : n ≤ 1000000) (hs : s.size ≤ 1000000) :
    Calls Tryd.prog 20 #[.string s, .int .i64 n] w fun e w' => e = .returned (.string ⟨(Lib.repeatL s.data.toList n.toNat).toArray⟩) ∧ Below w.heap.size w w' := by
  obtain ⟨c, rfl⟩ := Int.eq_ofNat_of_zero_le h0
  rw [Int.toNat_natCast]
  refine Tryd.strings_Repeat s c w (by omega) ?_
  have : s.size * c ≤ 1000000 * 1000000 := Nat.mul_le_mul hs (by omega)
  omega
end Go.Proofs.YtehnomgjpnkfnaaDoor.Bld

namespace Go.Proofs.YtehnomgjpnkfnaaDoor.P
open Go.RowKit Go.Proofs.YtehnomgjpnkfnaaDoorW.PrintWords Go.Proofs.YtehnomgjpnkfnaaDoorW.PrintLast Go.Proofs.YtehnomgjpnkfnaaDoorW.PrintMore
attribute [local go_sem] max2_int min2_int max_two min_two max_three min_three max_four min_four   -- for this text's walks alone
set_option linter.unusedVariables false
set_option linter.unusedSimpArgs false



def errW : Option Int → Value
  | none => .nilIface
  | some c => .iface 0 (.int .i64 c)
theorem errW_none : errW none = .nilIface := rfl
theorem errW_some (c : Int) : errW (some c) = .iface 0 (.int .i64 c) := rfl

theorem info3 : (Tryd.prog.info? 3).map (fun i => (i.zero, i.size, i.bytes)) = some (some (.int .i64 0), 1, 8) := by kernel_rfl
-- the values' own types

end Go.Proofs.YtehnomgjpnkfnaaDoor.P

namespace Go.Proofs.YtehnomgjpnkfnaaDoor.P
open Go.RowKit Go.Proofs.YtehnomgjpnkfnaaDoorW.PrintWords Go.Proofs.YtehnomgjpnkfnaaDoorW.PrintLast Go.Proofs.YtehnomgjpnkfnaaDoorW.PrintMore
attribute [local go_sem] max2_int min2_int max_two min_two max_three min_three max_four min_four   -- for this text's walks alone
set_option linter.unusedVariables false
set_option linter.unusedSimpArgs false

/-! ### spec_thPlace: function 8 -/
def spec_thPlace.l0 : Nat → Int → Int → Option (Int)
  | 0, _, _ => none
  | k + 1, x0, x3 => if x3 < 12 then (if 0 ≤ x3 then (if (bt (⟨#[49, 50, 51, 52, 53, 54, 55, 56, 57, 42, 48, 35]⟩ : ByteArray) x3) = x0 then (some x3) else (spec_thPlace.l0 k x0 (wrap64 (x3 + 1)))) else (none)) else (some (-1))
def spec_thPlace.f (k : Nat) (a0 : Int) : Option (Int) := spec_thPlace.l0 k a0 0
theorem spec_thPlace.mono_l : ∀ k, (∀ y0 y1, LeO (spec_thPlace.l0 k y0 y1) (spec_thPlace.l0 (k + 1) y0 y1))
  | 0 => fun _ _ r h => by simp [spec_thPlace.l0] at h
  | k + 1 => by
    have ih0 := spec_thPlace.mono_l k
    · intro y0 y1
      unfold spec_thPlace.l0
      repeat' first
      | (with_reducible exact ih0 _ _)
      | (with_reducible exact LeO.refl _)
      | (with_reducible exact LeO.none _)
      | (with_reducible refine LeO.ite ?_ ?_)
      | (with_reducible refine LeO.bind ?_ (fun _ => ?_))
      | exact ih0 _ _
      | exact LeO.none _
      | refine LeO.ite ?_ ?_
      | refine LeO.bind ?_ (fun _ => ?_)
theorem spec_thPlace.mono : ∀ a0 k, LeO (spec_thPlace.f k a0) (spec_thPlace.f (k + 1) a0) := by
  intro a0 k
  have ih0 := spec_thPlace.mono_l k
  unfold spec_thPlace.f
  repeat' first
      | (with_reducible exact ih0 _ _)
      | (with_reducible exact LeO.refl _)
      | (with_reducible exact LeO.none _)
      | (with_reducible refine LeO.ite ?_ ?_)
      | (with_reducible refine LeO.bind ?_ (fun _ => ?_))
      | exact ih0 _ _
      | exact LeO.none _
      | refine LeO.ite ?_ ?_
      | refine LeO.bind ?_ (fun _ => ?_)
set_option maxHeartbeats 8000000 in
set_option maxRecDepth 100000 in
theorem spec_thPlace.calls (k : Nat) (a0 : Int) (r : Int) (w : World) (h : spec_thPlace.f k a0 = some r) :
    Calls Tryd.prog 8 #[.int .u8 a0] w fun e w' => e = .returned (.int .i64 r) ∧ Drawn0 w w' := by
  have H : (spec_thPlace.l0 k a0 0) = some r := h
  clear h
  have H' := Aside0.mk H
  clear H
  go_enter Tryd.func8, Tryd.ntmps8
  go_wp2
  go_loopg [3] k (fun kq v3 w' => ∃ (x3_1 : Int), v3 = .int .i64 x3_1 ∧ Aside0 (spec_thPlace.l0 kq a0 x3_1 = some r) ∧ Aside0 (kq ≤ k) ∧ Drawn0 w w')
  case atStart => exact ⟨(0), (by first | rfl | (simp; done) | (simp [*]; done)), H', ⟨Nat.le_refl _⟩, by repeat (first | exact Drawn0.refl _ | apply Drawn0.step)⟩
  case round =>
    clear H'
    obtain ⟨x3_1, rfl, HA, HK1, ⟨m1, rfl⟩⟩ := hrel
    cases gk with
    | zero => exact absurd HA.out (by simp [spec_thPlace.l0])
    | succ k1 =>
      have H := HA.out
      clear HA
      simp only [spec_thPlace.l0] at H
      by_cases c2 : x3_1 < 12
      · rw [if_pos c2] at H
        have c2b0 : decide (x3_1 < 12) = true := decide_eq_true c2
        clear c2
        by_cases c3 : 0 ≤ x3_1
        · rw [if_pos c3] at H
          have c3b0 : decide (0 ≤ x3_1) = true := decide_eq_true c3
          clear c3
          by_cases c5 : (bt (⟨#[49, 50, 51, 52, 53, 54, 55, 56, 57, 42, 48, 35]⟩ : ByteArray) x3_1) = a0
          · rw [if_pos c5] at H
            have c5b0 : ((bt (⟨#[49, 50, 51, 52, 53, 54, 55, 56, 57, 42, 48, 35]⟩ : ByteArray) x3_1) == a0) = true := beq_iff_eq.mpr c5
            have c5b1 : ((bt (⟨#[49, 50, 51, 52, 53, 54, 55, 56, 57, 42, 48, 35]⟩ : ByteArray) x3_1) != a0) = false := bne_eq_false_iff_eq.mpr c5
            clear c5
            obtain rfl := Option.some.inj H
            have p4 : 0 ≤ (x3_1 : Int) := of_decide_eq_true (by first | (with_reducible assumption) | assumption)
            have q4 : x3_1 < (12 : Int) := of_decide_eq_true (by first | (with_reducible assumption) | assumption)
            have hx4 := bt_at (⟨#[49, 50, 51, 52, 53, 54, 55, 56, 57, 42, 48, 35]⟩ : ByteArray) x3_1
            replace p4 := eq_true p4
            replace q4 := eq_true q4
            go_wp2
            go_ret
            exact ⟨by first | rfl | (simp; done) | (simp [*]; done), by repeat (first | exact Drawn0.refl _ | apply Drawn0.step)⟩
          · rw [if_neg c5] at H
            have c5b0 : ((bt (⟨#[49, 50, 51, 52, 53, 54, 55, 56, 57, 42, 48, 35]⟩ : ByteArray) x3_1) == a0) = false := beq_eq_false_iff_ne.mpr c5
            have c5b1 : ((bt (⟨#[49, 50, 51, 52, 53, 54, 55, 56, 57, 42, 48, 35]⟩ : ByteArray) x3_1) != a0) = true := bne_iff_ne.mpr c5
            have H' := Aside0.mk H
            clear H
            have p4 : 0 ≤ (x3_1 : Int) := of_decide_eq_true (by first | (with_reducible assumption) | assumption)
            have q4 : x3_1 < (12 : Int) := of_decide_eq_true (by first | (with_reducible assumption) | assumption)
            have hx4 := bt_at (⟨#[49, 50, 51, 52, 53, 54, 55, 56, 57, 42, 48, 35]⟩ : ByteArray) x3_1
            replace p4 := eq_true p4
            replace q4 := eq_true q4
            go_wp2
            go_roundg k1
            case measure => have := HK1.out; omega
            case rel => exact ⟨(wrap64 (x3_1 + 1)), (by first | rfl | (simp; done) | (simp [*]; done)), H', ⟨by have := HK1.out; omega⟩, by repeat (first | exact Drawn0.refl _ | apply Drawn0.step)⟩
        · rw [if_neg c3] at H
          exact absurd H (by simp)
      · rw [if_neg c2] at H
        have c2b0 : decide (x3_1 < 12) = false := decide_eq_false c2
        clear c2
        obtain rfl := Option.some.inj H
        go_wp2
        go_ret
        exact ⟨by first | rfl | (simp; done) | (simp [*]; done), by repeat (first | exact Drawn0.refl _ | apply Drawn0.step)⟩

end Go.Proofs.YtehnomgjpnkfnaaDoor.P

namespace Go.Proofs.YtehnomgjpnkfnaaDoor.P
open Go.RowKit Go.Proofs.YtehnomgjpnkfnaaDoorW.PrintWords Go.Proofs.YtehnomgjpnkfnaaDoorW.PrintLast Go.Proofs.YtehnomgjpnkfnaaDoorW.PrintMore
attribute [local go_sem] max2_int min2_int max_two min_two max_three min_three max_four min_four   -- for this text's walks alone
set_option linter.unusedVariables false
set_option linter.unusedSimpArgs false

/-! ### spec_thGood: function 6 -/
def spec_thGood.l0 : Nat → ByteArray → Int → Option (Bool)
  | 0, _, _ => none
  | k + 1, x0, x3 => if x3 < (x0.size : Int) then (if 0 ≤ x3 then ((spec_thPlace.f k (bt x0 x3)).bind fun t101 => (if t101 < 0 then (some false) else (spec_thGood.l0 k x0 (wrap64 (x3 + 1))))) else (none)) else (some true)
def spec_thGood.f (k : Nat) (a0 : ByteArray) : Option (Bool) := if (a0.size : Int) > 30 then (some false) else (spec_thGood.l0 k a0 0)
theorem spec_thGood.mono_l : ∀ k, (∀ y0 y1, LeO (spec_thGood.l0 k y0 y1) (spec_thGood.l0 (k + 1) y0 y1))
  | 0 => fun _ _ r h => by simp [spec_thGood.l0] at h
  | k + 1 => by
    have ih0 := spec_thGood.mono_l k
    · intro y0 y1
      unfold spec_thGood.l0
      repeat' first
      | (with_reducible exact ih0 _ _)
      | (with_reducible exact spec_thPlace.mono _ _)
      | (with_reducible exact LeO.refl _)
      | (with_reducible exact LeO.none _)
      | (with_reducible refine LeO.ite ?_ ?_)
      | (with_reducible refine LeO.bind ?_ (fun _ => ?_))
      | exact ih0 _ _
      | exact spec_thPlace.mono _ _
      | exact LeO.none _
      | refine LeO.ite ?_ ?_
      | refine LeO.bind ?_ (fun _ => ?_)
theorem spec_thGood.mono : ∀ a0 k, LeO (spec_thGood.f k a0) (spec_thGood.f (k + 1) a0) := by
  intro a0 k
  have ih0 := spec_thGood.mono_l k
  unfold spec_thGood.f
  repeat' first
      | (with_reducible exact ih0 _ _)
      | (with_reducible exact spec_thPlace.mono _ _)
      | (with_reducible exact LeO.refl _)
      | (with_reducible exact LeO.none _)
      | (with_reducible refine LeO.ite ?_ ?_)
      | (with_reducible refine LeO.bind ?_ (fun _ => ?_))
      | exact ih0 _ _
      | exact spec_thPlace.mono _ _
      | exact LeO.none _
      | refine LeO.ite ?_ ?_
      | refine LeO.bind ?_ (fun _ => ?_)
set_option maxHeartbeats 8000000 in
set_option maxRecDepth 100000 in
theorem spec_thGood.calls (k : Nat) (a0 : ByteArray) (r : Bool) (w : World) (h : spec_thGood.f k a0 = some r) :
    Calls Tryd.prog 6 #[.string a0] w fun e w' => e = .returned (.bool r) ∧ Drawn0 w w' := by
  have H : (if (a0.size : Int) > 30 then (some false) else (spec_thGood.l0 k a0 0)) = some r := h
  clear h
  by_cases c2 : (a0.size : Int) > 30
  · rw [if_pos c2] at H
    have c2b0 : decide (30 < (a0.size : Int)) = true := decide_eq_true c2
    have c2b1 : decide (30 < a0.size) = true := decide_eq_true (by omega)
    clear c2
    obtain rfl := Option.some.inj H
    go_enter Tryd.func6, Tryd.ntmps6
    go_wp2
    go_ret
    exact ⟨by first | rfl | (simp; done) | (simp [*]; done), by repeat (first | exact Drawn0.refl _ | apply Drawn0.step)⟩
  · rw [if_neg c2] at H
    have c2b0 : decide (30 < (a0.size : Int)) = false := decide_eq_false c2
    have c2b1 : decide (30 < a0.size) = false := decide_eq_false (by omega)
    clear c2
    have H' := Aside0.mk H
    clear H
    go_enter Tryd.func6, Tryd.ntmps6
    go_wp2
    go_loopg [3] k (fun kq v3 w' => ∃ (x3_1 : Int), v3 = .int .i64 x3_1 ∧ Aside0 (spec_thGood.l0 kq a0 x3_1 = some r) ∧ Aside0 (kq ≤ k) ∧ Drawn0 w w')
    case atStart => exact ⟨(0), (by first | rfl | (simp; done) | (simp [*]; done)), H', ⟨Nat.le_refl _⟩, by repeat (first | exact Drawn0.refl _ | apply Drawn0.step)⟩
    case round =>
      clear H'
      try clear c2
      try clear c2b0
      try clear c2b1
      try clear p2
      obtain ⟨x3_1, rfl, HA, HK1, ⟨m1, rfl⟩⟩ := hrel
      cases gk with
      | zero => exact absurd HA.out (by simp [spec_thGood.l0])
      | succ k1 =>
        have H := HA.out
        clear HA
        simp only [spec_thGood.l0] at H
        by_cases c3 : x3_1 < (a0.size : Int)
        · rw [if_pos c3] at H
          have c3b0 : decide (x3_1 < (a0.size : Int)) = true := decide_eq_true c3
          clear c3
          by_cases c4 : 0 ≤ x3_1
          · rw [if_pos c4] at H
            have c4b0 : decide (0 ≤ x3_1) = true := decide_eq_true c4
            clear c4
            replace H := Option.bind_eq_some_iff.mp H
            obtain ⟨t101, A60, H⟩ := H
            replace H : (if t101 < 0 then (some false) else (spec_thGood.l0 k1 a0 (wrap64 (x3_1 + 1)))) = some r := H
            have A6 := Aside0.mk A60
            clear A60
            by_cases c7 : t101 < 0
            · rw [if_pos c7] at H
              have c7b0 : decide (t101 < 0) = true := decide_eq_true c7
              clear c7
              obtain rfl := Option.some.inj H
              have p5 : 0 ≤ (x3_1 : Int) := of_decide_eq_true (by first | (with_reducible assumption) | assumption)
              have q5 : x3_1 < (a0.size : Int) := of_decide_eq_true (by first | (with_reducible assumption) | assumption)
              have hx5 := bt_at a0 x3_1
              replace p5 := eq_true p5
              replace q5 := eq_true q5
              go_wp2_with (first | ((with_reducible refine gate_callee (f := 8) rfl ?_); refine goesL_ (some 16) rfl rfl Tryd.func8 (by kernel_rfl) rfl #[.int .u8 (bt a0 x3_1)] rfl (by (try simp only [List.map_toArray, List.map_cons, List.map_nil]); first | done | rfl | (simp only [List.length_drop, List.length_take]; rfl)) ?_; (with_reducible refine (spec_thPlace.calls k1 (bt a0 x3_1) t101 _ A6.out).mono ?_); rintro e w' ⟨rfl, ⟨nd, rfl⟩⟩; refine ⟨_, rfl, ?_⟩))
              go_ret
              exact ⟨by first | rfl | (simp; done) | (simp [*]; done), by repeat (first | exact Drawn0.refl _ | apply Drawn0.step)⟩
            · rw [if_neg c7] at H
              have c7b0 : decide (t101 < 0) = false := decide_eq_false c7
              clear c7
              have H' := Aside0.mk H
              clear H
              have p5 : 0 ≤ (x3_1 : Int) := of_decide_eq_true (by first | (with_reducible assumption) | assumption)
              have q5 : x3_1 < (a0.size : Int) := of_decide_eq_true (by first | (with_reducible assumption) | assumption)
              have hx5 := bt_at a0 x3_1
              replace p5 := eq_true p5
              replace q5 := eq_true q5
              go_wp2_with (first | ((with_reducible refine gate_callee (f := 8) rfl ?_); refine goesL_ (some 16) rfl rfl Tryd.func8 (by kernel_rfl) rfl #[.int .u8 (bt a0 x3_1)] rfl (by (try simp only [List.map_toArray, List.map_cons, List.map_nil]); first | done | rfl | (simp only [List.length_drop, List.length_take]; rfl)) ?_; (with_reducible refine (spec_thPlace.calls k1 (bt a0 x3_1) t101 _ A6.out).mono ?_); rintro e w' ⟨rfl, ⟨nd, rfl⟩⟩; refine ⟨_, rfl, ?_⟩))
              go_roundg k1
              case measure => have := HK1.out; omega
              case rel => exact ⟨(wrap64 (x3_1 + 1)), (by first | rfl | (simp; done) | (simp [*]; done)), H', ⟨by have := HK1.out; omega⟩, by repeat (first | exact Drawn0.refl _ | apply Drawn0.step)⟩
          · rw [if_neg c4] at H
            exact absurd H (by simp)
        · rw [if_neg c3] at H
          have c3b0 : decide (x3_1 < (a0.size : Int)) = false := decide_eq_false c3
          clear c3
          obtain rfl := Option.some.inj H
          go_wp2
          go_ret
          exact ⟨by first | rfl | (simp; done) | (simp [*]; done), by repeat (first | exact Drawn0.refl _ | apply Drawn0.step)⟩

end Go.Proofs.YtehnomgjpnkfnaaDoor.P

namespace Go.Proofs.YtehnomgjpnkfnaaDoor.P
open Go.RowKit Go.Proofs.YtehnomgjpnkfnaaDoorW.PrintWords Go.Proofs.YtehnomgjpnkfnaaDoorW.PrintLast Go.Proofs.YtehnomgjpnkfnaaDoorW.PrintMore
attribute [local go_sem] max2_int min2_int max_two min_two max_three min_three max_four min_four   -- for this text's walks alone
set_option linter.unusedVariables false
set_option linter.unusedSimpArgs false

/-! ### spec_thOne: function 7 -/
def spec_thOne.f (k : Nat) (a0 : ByteArray) : Option (Bool) := if (a0.size : Int) = 1 then ((spec_thGood.f k a0).bind fun t102 => (some t102)) else (some false)
theorem spec_thOne.mono : ∀ a0 k, LeO (spec_thOne.f k a0) (spec_thOne.f (k + 1) a0) := by
  intro a0 k
  unfold spec_thOne.f
  repeat' first
      | (with_reducible exact spec_thGood.mono _ _)
      | (with_reducible exact LeO.refl _)
      | (with_reducible exact LeO.none _)
      | (with_reducible refine LeO.ite ?_ ?_)
      | (with_reducible refine LeO.bind ?_ (fun _ => ?_))
      | exact spec_thGood.mono _ _
      | exact LeO.none _
      | refine LeO.ite ?_ ?_
      | refine LeO.bind ?_ (fun _ => ?_)
set_option maxHeartbeats 8000000 in
set_option maxRecDepth 100000 in
theorem spec_thOne.calls (k : Nat) (a0 : ByteArray) (r : Bool) (w : World) (h : spec_thOne.f k a0 = some r) :
    Calls Tryd.prog 7 #[.string a0] w fun e w' => e = .returned (.bool r) ∧ Drawn0 w w' := by
  have H : (if (a0.size : Int) = 1 then ((spec_thGood.f k a0).bind fun t102 => (some t102)) else (some false)) = some r := h
  clear h
  by_cases c2 : (a0.size : Int) = 1
  · rw [if_pos c2] at H
    have c2b0 : ((a0.size : Int) == 1) = true := beq_iff_eq.mpr c2
    have c2b1 : ((a0.size : Int) != 1) = false := bne_eq_false_iff_eq.mpr c2
    clear c2
    replace H := Option.bind_eq_some_iff.mp H
    obtain ⟨t102, A30, H⟩ := H
    replace H : (some t102) = some r := H
    have A3 := Aside0.mk A30
    clear A30
    obtain rfl := Option.some.inj H
    go_enter Tryd.func7, Tryd.ntmps7
    go_wp2_with (first | (go_at_call 6; (with_reducible refine (spec_thGood.calls k a0 t102 _ A3.out).mono ?_); rintro e w' ⟨rfl, ⟨nd, rfl⟩⟩))
    go_ret
    exact ⟨by first | rfl | (simp; done) | (simp [*]; done), by repeat (first | exact Drawn0.refl _ | apply Drawn0.step)⟩
  · rw [if_neg c2] at H
    have c2b0 : ((a0.size : Int) == 1) = false := beq_eq_false_iff_ne.mpr c2
    have c2b1 : ((a0.size : Int) != 1) = true := bne_iff_ne.mpr c2
    obtain rfl := Option.some.inj H
    go_enter Tryd.func7, Tryd.ntmps7
    go_wp2
    go_ret
    exact ⟨by first | rfl | (simp; done) | (simp [*]; done), by repeat (first | exact Drawn0.refl _ | apply Drawn0.step)⟩

end Go.Proofs.YtehnomgjpnkfnaaDoor.P

namespace Go.Proofs.YtehnomgjpnkfnaaDoor.P
open Go.RowKit Go.Proofs.YtehnomgjpnkfnaaDoorW.PrintWords Go.Proofs.YtehnomgjpnkfnaaDoorW.PrintLast Go.Proofs.YtehnomgjpnkfnaaDoorW.PrintMore
attribute [local go_sem] max2_int min2_int max_two min_two max_three min_three max_four min_four   -- for this text's walks alone
set_option linter.unusedVariables false
set_option linter.unusedSimpArgs false

/-! ### spec_thSteps: function 9 -/
mutual
def spec_thSteps.l0 : Nat → Int → ByteArray → ByteArray → ByteArray → Option (ByteArray)
  | 0, _, _, _, _ => none
  | k + 1, x0, x1, x2, x7 => if x0 < 0 then (if x7.size + x1.size ≤ 9223372036854775807 then (spec_thSteps.l0 k (wrap64 (x0 + 1)) x1 x2 (x7 ++ x1)) else (none)) else (spec_thSteps.l1 k x0 x2 x7)
def spec_thSteps.l1 : Nat → Int → ByteArray → ByteArray → Option (ByteArray)
  | 0, _, _, _ => none
  | k + 1, x0, x2, x7 => if x0 > 0 then (if x7.size + x2.size ≤ 9223372036854775807 then (spec_thSteps.l1 k (wrap64 (x0 - 1)) x2 (x7 ++ x2)) else (none)) else (some x7)
end
def spec_thSteps.f (k : Nat) (a0 : Int) (a1 : ByteArray) (a2 : ByteArray) : Option (ByteArray) := spec_thSteps.l0 k a0 a1 a2 (⟨#[]⟩ : ByteArray)
theorem spec_thSteps.mono_l : ∀ k, (∀ y0 y1 y2 y3, LeO (spec_thSteps.l0 k y0 y1 y2 y3) (spec_thSteps.l0 (k + 1) y0 y1 y2 y3)) ∧ (∀ y0 y1 y2, LeO (spec_thSteps.l1 k y0 y1 y2) (spec_thSteps.l1 (k + 1) y0 y1 y2))
  | 0 => ⟨fun _ _ _ _ r h => by simp [spec_thSteps.l0] at h, fun _ _ _ r h => by simp [spec_thSteps.l1] at h⟩
  | k + 1 => by
    obtain ⟨ih0, ih1⟩ := spec_thSteps.mono_l k
    refine ⟨?_, ?_⟩
    · intro y0 y1 y2 y3
      unfold spec_thSteps.l0
      repeat' first
      | (with_reducible exact ih0 _ _ _ _)
      | (with_reducible exact ih1 _ _ _)
      | (with_reducible exact LeO.refl _)
      | (with_reducible exact LeO.none _)
      | (with_reducible refine LeO.ite ?_ ?_)
      | (with_reducible refine LeO.bind ?_ (fun _ => ?_))
      | exact ih0 _ _ _ _
      | exact ih1 _ _ _
      | exact LeO.none _
      | refine LeO.ite ?_ ?_
      | refine LeO.bind ?_ (fun _ => ?_)
    · intro y0 y1 y2
      unfold spec_thSteps.l1
      repeat' first
      | (with_reducible exact ih0 _ _ _ _)
      | (with_reducible exact ih1 _ _ _)
      | (with_reducible exact LeO.refl _)
      | (with_reducible exact LeO.none _)
      | (with_reducible refine LeO.ite ?_ ?_)
      | (with_reducible refine LeO.bind ?_ (fun _ => ?_))
      | exact ih0 _ _ _ _
      | exact ih1 _ _ _
      | exact LeO.none _
      | refine LeO.ite ?_ ?_
      | refine LeO.bind ?_ (fun _ => ?_)
theorem spec_thSteps.mono : ∀ a0 a1 a2 k, LeO (spec_thSteps.f k a0 a1 a2) (spec_thSteps.f (k + 1) a0 a1 a2) := by
  intro a0 a1 a2 k
  obtain ⟨ih0, ih1⟩ := spec_thSteps.mono_l k
  unfold spec_thSteps.f
  repeat' first
      | (with_reducible exact ih0 _ _ _ _)
      | (with_reducible exact ih1 _ _ _)
      | (with_reducible exact LeO.refl _)
      | (with_reducible exact LeO.none _)
      | (with_reducible refine LeO.ite ?_ ?_)
      | (with_reducible refine LeO.bind ?_ (fun _ => ?_))
      | exact ih0 _ _ _ _
      | exact ih1 _ _ _
      | exact LeO.none _
      | refine LeO.ite ?_ ?_
      | refine LeO.bind ?_ (fun _ => ?_)
set_option maxHeartbeats 8000000 in
set_option maxRecDepth 100000 in
theorem spec_thSteps.calls (k : Nat) (a0 : Int) (a1 : ByteArray) (a2 : ByteArray) (r : ByteArray) (w : World) (h : spec_thSteps.f k a0 a1 a2 = some r) :
    Calls Tryd.prog 9 #[.int .i64 a0, .string a1, .string a2] w fun e w' => e = .returned (.string r) ∧ Drawn0 w w' := by
  have H : (spec_thSteps.l0 k a0 a1 a2 (⟨#[]⟩ : ByteArray)) = some r := h
  clear h
  have H' := Aside0.mk H
  clear H
  go_enter Tryd.func9, Tryd.ntmps9
  go_wp2
  go_loopg [0, 7] k (fun kq v0 v7 w' => ∃ (x0_1 : Int) (x7_1 : ByteArray), v0 = .int .i64 x0_1 ∧ v7 = .string x7_1 ∧ Aside0 (spec_thSteps.l0 kq x0_1 a1 a2 x7_1 = some r) ∧ Aside0 (kq ≤ k) ∧ Drawn0 w w')
  case atStart => exact ⟨(a0), ((⟨#[]⟩ : ByteArray)), (by first | rfl | (simp; done) | (simp [*]; done)), (by first | rfl | (simp; done) | (simp [*]; done)), H', ⟨Nat.le_refl _⟩, by repeat (first | exact Drawn0.refl _ | apply Drawn0.step)⟩
  case round =>
    clear H'
    try clear p2
    obtain ⟨x0_1, x7_1, rfl, rfl, HA, HK1, ⟨m1, rfl⟩⟩ := hrel
    cases gk with
    | zero => exact absurd HA.out (by simp [spec_thSteps.l0])
    | succ k1 =>
      have H := HA.out
      clear HA
      simp only [spec_thSteps.l0] at H
      by_cases c4 : x0_1 < 0
      · rw [if_pos c4] at H
        have c4b0 : decide (x0_1 < 0) = true := decide_eq_true c4
        clear c4
        by_cases c5 : x7_1.size + a1.size ≤ 9223372036854775807
        · rw [if_pos c5] at H
          have c5b0 := eq_true c5
          have c5b1 : decide (x7_1.size + a1.size ≤ 9223372036854775807) = true := decide_eq_true c5
          try have c5b2 : (9223372036854775807 < x7_1.size + a1.size) = False := eq_false (Nat.not_lt.2 c5)
          have H' := Aside0.mk H
          clear H
          go_wp2
          go_roundg k1
          case measure => have := HK1.out; omega
          case rel => exact ⟨(wrap64 (x0_1 + 1)), (x7_1 ++ a1), (by first | rfl | (simp; done) | (simp [*]; done)), (by first | rfl | (simp; done) | (simp [*]; done)), H', ⟨by have := HK1.out; omega⟩, by repeat (first | exact Drawn0.refl _ | apply Drawn0.step)⟩
        · rw [if_neg c5] at H
          exact absurd H (by simp)
      · rw [if_neg c4] at H
        have c4b0 : decide (x0_1 < 0) = false := decide_eq_false c4
        clear c4
        have H' := Aside0.mk H
        clear H
        go_wp2
        go_loopg [0, 7] k1 (fun kq v0 v7 w' => ∃ (x0_2 : Int) (x7_2 : ByteArray), v0 = .int .i64 x0_2 ∧ v7 = .string x7_2 ∧ Aside0 (spec_thSteps.l1 kq x0_2 a2 x7_2 = some r) ∧ Aside0 (kq ≤ k1) ∧ Drawn0 w w')
        case atStart => exact ⟨(x0_1), (x7_1), (by first | rfl | (simp; done) | (simp [*]; done)), (by first | rfl | (simp; done) | (simp [*]; done)), H', ⟨Nat.le_refl _⟩, by repeat (first | exact Drawn0.refl _ | apply Drawn0.step)⟩
        case round =>
          clear H'
          try clear p2
          try clear c4
          try clear c4b0
          try clear c5
          try clear c5b0
          try clear c5b1
          try clear c5b2
          try clear p2
          obtain ⟨x0_2, x7_2, rfl, rfl, HA, HK2, ⟨m2, rfl⟩⟩ := hrel
          cases gk with
          | zero => exact absurd HA.out (by simp [spec_thSteps.l1])
          | succ k2 =>
            have H := HA.out
            clear HA
            simp only [spec_thSteps.l1] at H
            by_cases c6 : x0_2 > 0
            · rw [if_pos c6] at H
              have c6b0 : decide (0 < x0_2) = true := decide_eq_true c6
              clear c6
              by_cases c7 : x7_2.size + a2.size ≤ 9223372036854775807
              · rw [if_pos c7] at H
                have c7b0 := eq_true c7
                have c7b1 : decide (x7_2.size + a2.size ≤ 9223372036854775807) = true := decide_eq_true c7
                try have c7b2 : (9223372036854775807 < x7_2.size + a2.size) = False := eq_false (Nat.not_lt.2 c7)
                have H' := Aside0.mk H
                clear H
                go_wp2
                go_roundg k2
                case measure => have := HK1.out; have := HK2.out; omega
                case rel => exact ⟨(wrap64 (x0_2 - 1)), (x7_2 ++ a2), (by first | rfl | (simp; done) | (simp [*]; done)), (by first | rfl | (simp; done) | (simp [*]; done)), H', ⟨by have := HK1.out; have := HK2.out; omega⟩, by repeat (first | exact Drawn0.refl _ | apply Drawn0.step)⟩
              · rw [if_neg c7] at H
                exact absurd H (by simp)
            · rw [if_neg c6] at H
              have c6b0 : decide (0 < x0_2) = false := decide_eq_false c6
              clear c6
              obtain rfl := Option.some.inj H
              go_wp2
              go_ret
              exact ⟨by first | rfl | (simp; done) | (simp [*]; done), by repeat (first | exact Drawn0.refl _ | apply Drawn0.step)⟩

end Go.Proofs.YtehnomgjpnkfnaaDoor.P

namespace Go.Proofs.YtehnomgjpnkfnaaDoor.P
open Go.RowKit Go.Proofs.YtehnomgjpnkfnaaDoorW.PrintWords Go.Proofs.YtehnomgjpnkfnaaDoorW.PrintLast Go.Proofs.YtehnomgjpnkfnaaDoorW.PrintMore
attribute [local go_sem] max2_int min2_int max_two min_two max_three min_three max_four min_four   -- for this text's walks alone
set_option linter.unusedVariables false
set_option linter.unusedSimpArgs false

/-! ### spec_MovesOf: function 4 -/
mutual
def spec_MovesOf.j0 : Nat → ByteArray → ByteArray → Bool → Option (ByteArray × Bool)
  | 0, _, _, _ => none
  | k + 1, x0, x1, x17 => if x17 = true then (some ((⟨#[]⟩ : ByteArray), false)) else (if 0 < (x1.size : Int) then ((spec_thPlace.f k (bt x1 0)).bind fun t105 => (spec_MovesOf.l0 k x0 (⟨#[]⟩ : ByteArray) t105 0)) else (none))
def spec_MovesOf.l0 : Nat → ByteArray → ByteArray → Int → Int → Option (ByteArray × Bool)
  | 0, _, _, _, _ => none
  | k + 1, x0, x6, x7, x8 => if x8 < (x0.size : Int) then (if 0 ≤ x8 then ((spec_thPlace.f k (bt x0 x8)).bind fun t106 => ((spec_thSteps.f k (wrap64 ((Int.tmod t106 3) - (Int.tmod x7 3))) (⟨#[108]⟩ : ByteArray) (⟨#[114]⟩ : ByteArray)).bind fun t107 => ((spec_thSteps.f k (wrap64 ((wrap64 (Int.tdiv t106 3)) - (wrap64 (Int.tdiv x7 3)))) (⟨#[117]⟩ : ByteArray) (⟨#[100]⟩ : ByteArray)).bind fun t108 => (if t107.size + t108.size ≤ 9223372036854775807 then (if (t107 ++ t108).size + 1 ≤ 9223372036854775807 then (if x6.size + ((t107 ++ t108) ++ (⟨#[46]⟩ : ByteArray)).size ≤ 9223372036854775807 then (spec_MovesOf.l0 k x0 (x6 ++ ((t107 ++ t108) ++ (⟨#[46]⟩ : ByteArray))) t106 (wrap64 (x8 + 1))) else (none)) else (none)) else (none))))) else (none)) else (some (x6, true))
end
def spec_MovesOf.f (k : Nat) (a0 : ByteArray) (a1 : ByteArray) : Option (ByteArray × Bool) := (spec_thGood.f k a0).bind fun t103 => (if t103 = true then ((spec_thOne.f k a1).bind fun t104 => (spec_MovesOf.j0 k a0 a1 (!t104))) else (spec_MovesOf.j0 k a0 a1 true))
theorem spec_MovesOf.mono_l : ∀ k, (∀ y0 y1 y2, LeO (spec_MovesOf.j0 k y0 y1 y2) (spec_MovesOf.j0 (k + 1) y0 y1 y2)) ∧ (∀ y0 y1 y2 y3, LeO (spec_MovesOf.l0 k y0 y1 y2 y3) (spec_MovesOf.l0 (k + 1) y0 y1 y2 y3))
  | 0 => ⟨fun _ _ _ r h => by simp [spec_MovesOf.j0] at h, fun _ _ _ _ r h => by simp [spec_MovesOf.l0] at h⟩
  | k + 1 => by
    obtain ⟨ih0, ih1⟩ := spec_MovesOf.mono_l k
    refine ⟨?_, ?_⟩
    · intro y0 y1 y2
      unfold spec_MovesOf.j0
      repeat' first
      | (with_reducible exact ih0 _ _ _)
      | (with_reducible exact ih1 _ _ _ _)
      | (with_reducible exact spec_thGood.mono _ _)
      | (with_reducible exact spec_thOne.mono _ _)
      | (with_reducible exact spec_thPlace.mono _ _)
      | (with_reducible exact spec_thSteps.mono _ _ _ _)
      | (with_reducible exact LeO.refl _)
      | (with_reducible exact LeO.none _)
      | (with_reducible refine LeO.ite ?_ ?_)
      | (with_reducible refine LeO.bind ?_ (fun _ => ?_))
      | exact ih0 _ _ _
      | exact ih1 _ _ _ _
      | exact spec_thGood.mono _ _
      | exact spec_thOne.mono _ _
      | exact spec_thPlace.mono _ _
      | exact spec_thSteps.mono _ _ _ _
      | exact LeO.none _
      | refine LeO.ite ?_ ?_
      | refine LeO.bind ?_ (fun _ => ?_)
    · intro y0 y1 y2 y3
      unfold spec_MovesOf.l0
      repeat' first
      | (with_reducible exact ih0 _ _ _)
      | (with_reducible exact ih1 _ _ _ _)
      | (with_reducible exact spec_thGood.mono _ _)
      | (with_reducible exact spec_thOne.mono _ _)
      | (with_reducible exact spec_thPlace.mono _ _)
      | (with_reducible exact spec_thSteps.mono _ _ _ _)
      | (with_reducible exact LeO.refl _)
      | (with_reducible exact LeO.none _)
      | (with_reducible refine LeO.ite ?_ ?_)
      | (with_reducible refine LeO.bind ?_ (fun _ => ?_))
      | exact ih0 _ _ _
      | exact ih1 _ _ _ _
      | exact spec_thGood.mono _ _
      | exact spec_thOne.mono _ _
      | exact spec_thPlace.mono _ _
      | exact spec_thSteps.mono _ _ _ _
      | exact LeO.none _
      | refine LeO.ite ?_ ?_
      | refine LeO.bind ?_ (fun _ => ?_)
theorem spec_MovesOf.mono : ∀ a0 a1 k, LeO (spec_MovesOf.f k a0 a1) (spec_MovesOf.f (k + 1) a0 a1) := by
  intro a0 a1 k
  obtain ⟨ih0, ih1⟩ := spec_MovesOf.mono_l k
  unfold spec_MovesOf.f
  repeat' first
      | (with_reducible exact ih0 _ _ _)
      | (with_reducible exact ih1 _ _ _ _)
      | (with_reducible exact spec_thGood.mono _ _)
      | (with_reducible exact spec_thOne.mono _ _)
      | (with_reducible exact spec_thPlace.mono _ _)
      | (with_reducible exact spec_thSteps.mono _ _ _ _)
      | (with_reducible exact LeO.refl _)
      | (with_reducible exact LeO.none _)
      | (with_reducible refine LeO.ite ?_ ?_)
      | (with_reducible refine LeO.bind ?_ (fun _ => ?_))
      | exact ih0 _ _ _
      | exact ih1 _ _ _ _
      | exact spec_thGood.mono _ _
      | exact spec_thOne.mono _ _
      | exact spec_thPlace.mono _ _
      | exact spec_thSteps.mono _ _ _ _
      | exact LeO.none _
      | refine LeO.ite ?_ ?_
      | refine LeO.bind ?_ (fun _ => ?_)
set_option maxHeartbeats 8000000 in
set_option maxRecDepth 100000 in
theorem spec_MovesOf.calls (k : Nat) (a0 : ByteArray) (a1 : ByteArray) (r1 : ByteArray) (r2 : Bool) (w : World) (h : spec_MovesOf.f k a0 a1 = some (r1, r2)) :
    Calls Tryd.prog 4 #[.string a0, .string a1] w fun e w' => e = .returned (.tuple #[.string r1, .bool r2]) ∧ Drawn0 w w' := by
  have H : ((spec_thGood.f k a0).bind fun t103 => (if t103 = true then ((spec_thOne.f k a1).bind fun t104 => (spec_MovesOf.j0 k a0 a1 (!t104))) else (spec_MovesOf.j0 k a0 a1 true))) = some (r1, r2) := h
  clear h
  have HC3 := Aside0.mk H
  clear H
  go_enter Tryd.func4, Tryd.ntmps4
  go_upto_region 1 with (fail)
  go_cut [17] (fun v17 wc => ∃ (kq : Nat) (x17_2 : Bool), v17 = .bool x17_2 ∧ Aside0 (spec_MovesOf.j0 kq a0 a1 x17_2 = some (r1, r2)) ∧ Aside0 (kq ≤ k) ∧ Drawn0 w wc)
  case first =>
    have H := HC3.out
    clear HC3
    replace H := Option.bind_eq_some_iff.mp H
    obtain ⟨t103, A40, H⟩ := H
    replace H : (if t103 = true then ((spec_thOne.f k a1).bind fun t104 => (spec_MovesOf.j0 k a0 a1 (!t104))) else (spec_MovesOf.j0 k a0 a1 true)) = some (r1, r2) := H
    have A4 := Aside0.mk A40
    clear A40
    by_cases c5 : t103 = true
    · subst c5
      have H1 : ((spec_thOne.f k a1).bind fun t104 => (spec_MovesOf.j0 k a0 a1 (!t104))) = some (r1, r2) := by rw [if_pos rfl] at H; exact H
      clear H
      have H := H1
      clear H1
      replace H := Option.bind_eq_some_iff.mp H
      obtain ⟨t104, A60, H⟩ := H
      replace H : (spec_MovesOf.j0 k a0 a1 (!t104)) = some (r1, r2) := H
      have A6 := Aside0.mk A60
      clear A60
      have H' := Aside0.mk H
      clear H
      go_wp2_with (first | ((with_reducible refine gate_callee (f := 6) rfl ?_); refine goesL_ (some 11) rfl rfl Tryd.func6 (by kernel_rfl) rfl #[.string a0] rfl (by (try simp only [List.map_toArray, List.map_cons, List.map_nil]); first | done | rfl | (simp only [List.length_drop, List.length_take]; rfl)) ?_; (with_reducible refine (spec_thGood.calls k a0 true _ A4.out).mono ?_); rintro e w' ⟨rfl, ⟨nd, rfl⟩⟩; refine ⟨_, rfl, ?_⟩) | (go_at_call 7; (with_reducible refine (spec_thOne.calls k a1 t104 _ A6.out).mono ?_); rintro e w' ⟨rfl, ⟨nd, rfl⟩⟩))
      go_meet
      case rel => exact ⟨_, (!t104), (by first | rfl | (simp; done) | (simp [*]; done)), H', ⟨by first | omega | exact Nat.le_refl _⟩, by repeat (first | exact Drawn0.refl _ | apply Drawn0.step)⟩
    · replace c5 := Bool.eq_false_iff.mpr c5
      subst c5
      have H1 : (spec_MovesOf.j0 k a0 a1 true) = some (r1, r2) := by rw [if_neg (show ¬ (false = true) by decide)] at H; exact H
      clear H
      have H := H1
      clear H1
      have H' := Aside0.mk H
      clear H
      go_wp2_with (first | ((with_reducible refine gate_callee (f := 6) rfl ?_); refine goesL_ (some 11) rfl rfl Tryd.func6 (by kernel_rfl) rfl #[.string a0] rfl (by (try simp only [List.map_toArray, List.map_cons, List.map_nil]); first | done | rfl | (simp only [List.length_drop, List.length_take]; rfl)) ?_; (with_reducible refine (spec_thGood.calls k a0 false _ A4.out).mono ?_); rintro e w' ⟨rfl, ⟨nd, rfl⟩⟩; refine ⟨_, rfl, ?_⟩))
      go_meet
      case rel => exact ⟨_, (true), (by first | rfl | (simp; done) | (simp [*]; done)), H', ⟨by first | omega | exact Nat.le_refl _⟩, by repeat (first | exact Drawn0.refl _ | apply Drawn0.step)⟩
  case rest =>
    clear HC3
    try clear p2
    try clear c4
    try clear c5
    try clear c6
    obtain ⟨kq, x17_2, rfl, HA, HJ2, ⟨mc2, rfl⟩⟩ := hcut
    cases kq with
    | zero => exact absurd HA.out (by simp [spec_MovesOf.j0])
    | succ kj2 =>
      have H := HA.out
      clear HA
      simp only [spec_MovesOf.j0] at H
      by_cases c7 : x17_2 = true
      · subst c7
        have H1 : (some ((⟨#[]⟩ : ByteArray), false)) = some (r1, r2) := by rw [if_pos rfl] at H; exact H
        clear H
        have H := H1
        clear H1
        simp only [Option.some.injEq, Prod.mk.injEq] at H
        obtain ⟨rfl, rfl⟩ := H
        go_wp2
        go_ret2
        exact ⟨by first | rfl | (simp; done) | (simp [*]; done), by repeat (first | exact Drawn0.refl _ | apply Drawn0.step)⟩
      · replace c7 := Bool.eq_false_iff.mpr c7
        subst c7
        have H1 : (if 0 < (a1.size : Int) then ((spec_thPlace.f kj2 (bt a1 0)).bind fun t105 => (spec_MovesOf.l0 kj2 a0 (⟨#[]⟩ : ByteArray) t105 0)) else (none)) = some (r1, r2) := by rw [if_neg (show ¬ (false = true) by decide)] at H; exact H
        clear H
        have H := H1
        clear H1
        by_cases c8 : 0 < (a1.size : Int)
        · rw [if_pos c8] at H
          have c8b0 : decide (0 < (a1.size : Int)) = true := decide_eq_true c8
          have c8b1 : decide (0 < a1.size) = true := decide_eq_true (by omega)
          clear c8
          replace H := Option.bind_eq_some_iff.mp H
          obtain ⟨t105, A100, H⟩ := H
          replace H : (spec_MovesOf.l0 kj2 a0 (⟨#[]⟩ : ByteArray) t105 0) = some (r1, r2) := H
          have A10 := Aside0.mk A100
          clear A100
          have H' := Aside0.mk H
          clear H
          have p9 : 0 ≤ (0 : Int) := (by omega)
          have q9 : 0 < a1.size := (by have : (0 : Int) < (a1.size : Int) := of_decide_eq_true (by first | (with_reducible assumption) | assumption); omega)
          have hx9 : ∀ h : 0 < a1.size, ((a1[0]'h).toNat : Int) = bt a1 0 := bt_at a1 0
          clear p9
          have qi9 : (0 < (a1.size : Int)) = True := eq_true (of_decide_eq_true (by first | (with_reducible assumption) | assumption))
          replace q9 := eq_true q9
          go_wp2_with (first | ((with_reducible refine gate_callee (f := 8) rfl ?_); refine goesL_ (some 20) rfl rfl Tryd.func8 (by kernel_rfl) rfl #[.int .u8 (bt a1 0)] rfl (by (try simp only [List.map_toArray, List.map_cons, List.map_nil]); first | done | rfl | (simp only [List.length_drop, List.length_take]; rfl)) ?_; (with_reducible refine (spec_thPlace.calls kj2 (bt a1 0) t105 _ A10.out).mono ?_); rintro e w' ⟨rfl, ⟨nd, rfl⟩⟩; refine ⟨_, rfl, ?_⟩))
          go_loopg [6, 7, 8] kj2 (fun kq v6 v7 v8 w' => ∃ (x6_2 : ByteArray) (x7_2 : Int) (x8_2 : Int), v6 = .string x6_2 ∧ v7 = .int .i64 x7_2 ∧ v8 = .int .i64 x8_2 ∧ Aside0 (spec_MovesOf.l0 kq a0 x6_2 x7_2 x8_2 = some (r1, r2)) ∧ Aside0 (kq ≤ kj2) ∧ Drawn0 w w')
          case atStart => exact ⟨((⟨#[]⟩ : ByteArray)), (t105), (0), (by first | rfl | (simp; done) | (simp [*]; done)), (by first | rfl | (simp; done) | (simp [*]; done)), (by first | rfl | (simp; done) | (simp [*]; done)), H', ⟨Nat.le_refl _⟩, by repeat (first | exact Drawn0.refl _ | apply Drawn0.step)⟩
          case round =>
            clear H'
            try clear c2
            try clear p2
            try clear c4
            try clear c5
            try clear c6
            try clear c7
            try clear c8
            try clear c8b0
            try clear c8b1
            try clear p9
            try clear q9
            try clear hx9
            try clear qi9
            try clear p2
            try clear p9
            try clear q9
            obtain ⟨x6_2, x7_2, x8_2, rfl, rfl, rfl, HA, HK2, ⟨m2, rfl⟩⟩ := hrel
            cases gk with
            | zero => exact absurd HA.out (by simp [spec_MovesOf.l0])
            | succ k2 =>
              have H := HA.out
              clear HA
              simp only [spec_MovesOf.l0] at H
              by_cases c11 : x8_2 < (a0.size : Int)
              · rw [if_pos c11] at H
                have c11b0 : decide (x8_2 < (a0.size : Int)) = true := decide_eq_true c11
                clear c11
                by_cases c12 : 0 ≤ x8_2
                · rw [if_pos c12] at H
                  have c12b0 : decide (0 ≤ x8_2) = true := decide_eq_true c12
                  clear c12
                  replace H := Option.bind_eq_some_iff.mp H
                  obtain ⟨t106, A140, H⟩ := H
                  replace H : ((spec_thSteps.f k2 (wrap64 ((Int.tmod t106 3) - (Int.tmod x7_2 3))) (⟨#[108]⟩ : ByteArray) (⟨#[114]⟩ : ByteArray)).bind fun t107 => ((spec_thSteps.f k2 (wrap64 ((wrap64 (Int.tdiv t106 3)) - (wrap64 (Int.tdiv x7_2 3)))) (⟨#[117]⟩ : ByteArray) (⟨#[100]⟩ : ByteArray)).bind fun t108 => (if t107.size + t108.size ≤ 9223372036854775807 then (if (t107 ++ t108).size + 1 ≤ 9223372036854775807 then (if x6_2.size + ((t107 ++ t108) ++ (⟨#[46]⟩ : ByteArray)).size ≤ 9223372036854775807 then (spec_MovesOf.l0 k2 a0 (x6_2 ++ ((t107 ++ t108) ++ (⟨#[46]⟩ : ByteArray))) t106 (wrap64 (x8_2 + 1))) else (none)) else (none)) else (none)))) = some (r1, r2) := H
                  have A14 := Aside0.mk A140
                  clear A140
                  replace H := Option.bind_eq_some_iff.mp H
                  obtain ⟨t107, A150, H⟩ := H
                  replace H : ((spec_thSteps.f k2 (wrap64 ((wrap64 (Int.tdiv t106 3)) - (wrap64 (Int.tdiv x7_2 3)))) (⟨#[117]⟩ : ByteArray) (⟨#[100]⟩ : ByteArray)).bind fun t108 => (if t107.size + t108.size ≤ 9223372036854775807 then (if (t107 ++ t108).size + 1 ≤ 9223372036854775807 then (if x6_2.size + ((t107 ++ t108) ++ (⟨#[46]⟩ : ByteArray)).size ≤ 9223372036854775807 then (spec_MovesOf.l0 k2 a0 (x6_2 ++ ((t107 ++ t108) ++ (⟨#[46]⟩ : ByteArray))) t106 (wrap64 (x8_2 + 1))) else (none)) else (none)) else (none))) = some (r1, r2) := H
                  have A15 := Aside0.mk A150
                  clear A150
                  replace H := Option.bind_eq_some_iff.mp H
                  obtain ⟨t108, A160, H⟩ := H
                  replace H : (if t107.size + t108.size ≤ 9223372036854775807 then (if (t107 ++ t108).size + 1 ≤ 9223372036854775807 then (if x6_2.size + ((t107 ++ t108) ++ (⟨#[46]⟩ : ByteArray)).size ≤ 9223372036854775807 then (spec_MovesOf.l0 k2 a0 (x6_2 ++ ((t107 ++ t108) ++ (⟨#[46]⟩ : ByteArray))) t106 (wrap64 (x8_2 + 1))) else (none)) else (none)) else (none)) = some (r1, r2) := H
                  have A16 := Aside0.mk A160
                  clear A160
                  by_cases c17 : t107.size + t108.size ≤ 9223372036854775807
                  · rw [if_pos c17] at H
                    have c17b0 := eq_true c17
                    have c17b1 : decide (t107.size + t108.size ≤ 9223372036854775807) = true := decide_eq_true c17
                    try have c17b2 : (9223372036854775807 < t107.size + t108.size) = False := eq_false (Nat.not_lt.2 c17)
                    by_cases c18 : (t107 ++ t108).size + 1 ≤ 9223372036854775807
                    · rw [if_pos c18] at H
                      have c18b0 := eq_true c18
                      have c18b1 : decide ((t107 ++ t108).size + 1 ≤ 9223372036854775807) = true := decide_eq_true c18
                      try have c18b2 : (9223372036854775807 < (t107 ++ t108).size + 1) = False := eq_false (Nat.not_lt.2 c18)
                      try have c18b3 := c18b2
                      try simp only [ByteArray.size_append] at c18b3
                      by_cases c19 : x6_2.size + ((t107 ++ t108) ++ (⟨#[46]⟩ : ByteArray)).size ≤ 9223372036854775807
                      · rw [if_pos c19] at H
                        have c19b0 := eq_true c19
                        have c19b1 : decide (x6_2.size + ((t107 ++ t108) ++ (⟨#[46]⟩ : ByteArray)).size ≤ 9223372036854775807) = true := decide_eq_true c19
                        try have c19b2 : (9223372036854775807 < x6_2.size + ((t107 ++ t108) ++ (⟨#[46]⟩ : ByteArray)).size) = False := eq_false (Nat.not_lt.2 c19)
                        try have c19b3 := c19b2
                        try simp only [ByteArray.size_append] at c19b3
                        have H' := Aside0.mk H
                        clear H
                        have p13 : 0 ≤ (x8_2 : Int) := of_decide_eq_true (by first | (with_reducible assumption) | assumption)
                        have q13 : x8_2 < (a0.size : Int) := of_decide_eq_true (by first | (with_reducible assumption) | assumption)
                        have hx13 := bt_at a0 x8_2
                        replace p13 := eq_true p13
                        replace q13 := eq_true q13
                        go_wp2_with (first | ((with_reducible refine gate_callee (f := 8) rfl ?_); refine goesL_ (some 30) rfl rfl Tryd.func8 (by kernel_rfl) rfl #[.int .u8 (bt a0 x8_2)] rfl (by (try simp only [List.map_toArray, List.map_cons, List.map_nil]); first | done | rfl | (simp only [List.length_drop, List.length_take]; rfl)) ?_; (with_reducible refine (spec_thPlace.calls k2 (bt a0 x8_2) t106 _ A14.out).mono ?_); rintro e w' ⟨rfl, ⟨nd, rfl⟩⟩; refine ⟨_, rfl, ?_⟩) | ((with_reducible refine gate_callee (f := 9) rfl ?_); refine goesL_ (some 37) rfl rfl Tryd.func9 (by kernel_rfl) rfl #[.int .i64 (wrap64 ((Int.tmod t106 3) - (Int.tmod x7_2 3))), .string (⟨#[108]⟩ : ByteArray), .string (⟨#[114]⟩ : ByteArray)] rfl (by (try simp only [List.map_toArray, List.map_cons, List.map_nil]); first | done | rfl | (simp only [List.length_drop, List.length_take]; rfl)) ?_; (with_reducible refine (spec_thSteps.calls k2 (wrap64 ((Int.tmod t106 3) - (Int.tmod x7_2 3))) (⟨#[108]⟩ : ByteArray) (⟨#[114]⟩ : ByteArray) t107 _ A15.out).mono ?_); rintro e w' ⟨rfl, ⟨nd, rfl⟩⟩; refine ⟨_, rfl, ?_⟩) | ((with_reducible refine gate_callee (f := 9) rfl ?_); refine goesL_ (some 43) rfl rfl Tryd.func9 (by kernel_rfl) rfl #[.int .i64 (wrap64 ((wrap64 (Int.tdiv t106 3)) - (wrap64 (Int.tdiv x7_2 3)))), .string (⟨#[117]⟩ : ByteArray), .string (⟨#[100]⟩ : ByteArray)] rfl (by (try simp only [List.map_toArray, List.map_cons, List.map_nil]); first | done | rfl | (simp only [List.length_drop, List.length_take]; rfl)) ?_; (with_reducible refine (spec_thSteps.calls k2 (wrap64 ((wrap64 (Int.tdiv t106 3)) - (wrap64 (Int.tdiv x7_2 3)))) (⟨#[117]⟩ : ByteArray) (⟨#[100]⟩ : ByteArray) t108 _ A16.out).mono ?_); rintro e w' ⟨rfl, ⟨nd, rfl⟩⟩; refine ⟨_, rfl, ?_⟩))
                        go_roundg k2
                        case measure => have := HJ2.out; have := HK2.out; omega
                        case rel => exact ⟨(x6_2 ++ ((t107 ++ t108) ++ (⟨#[46]⟩ : ByteArray))), (t106), (wrap64 (x8_2 + 1)), (by first | rfl | (simp; done) | (simp [*]; done)), (by first | rfl | (simp; done) | (simp [*]; done)), (by first | rfl | (simp; done) | (simp [*]; done)), H', ⟨by have := HJ2.out; have := HK2.out; omega⟩, by repeat (first | exact Drawn0.refl _ | apply Drawn0.step)⟩
                      · rw [if_neg c19] at H
                        exact absurd H (by simp)
                    · rw [if_neg c18] at H
                      exact absurd H (by simp)
                  · rw [if_neg c17] at H
                    exact absurd H (by simp)
                · rw [if_neg c12] at H
                  exact absurd H (by simp)
              · rw [if_neg c11] at H
                have c11b0 : decide (x8_2 < (a0.size : Int)) = false := decide_eq_false c11
                clear c11
                simp only [Option.some.injEq, Prod.mk.injEq] at H
                obtain ⟨rfl, rfl⟩ := H
                go_wp2
                go_ret2
                exact ⟨by first | rfl | (simp; done) | (simp [*]; done), by repeat (first | exact Drawn0.refl _ | apply Drawn0.step)⟩
        · rw [if_neg c8] at H
          exact absurd H (by simp)

end Go.Proofs.YtehnomgjpnkfnaaDoor.P

namespace Go.Proofs.YtehnomgjpnkfnaaDoor.P
open Go.RowKit Go.Proofs.YtehnomgjpnkfnaaDoorW.PrintWords Go.Proofs.YtehnomgjpnkfnaaDoorW.PrintLast Go.Proofs.YtehnomgjpnkfnaaDoorW.PrintMore
attribute [local go_sem] max2_int min2_int max_two min_two max_three min_three max_four min_four   -- for this text's walks alone
set_option linter.unusedVariables false
set_option linter.unusedSimpArgs false

/-! ### strings_Trim: function 21 -/
def strings_Trim.f (a0 : ByteArray) (a1 : ByteArray) : Option (ByteArray) := if a0.size ≤ 9223372036854775807 then (if a1.size < 4294967281 then (if a1.data.toList.all (fun b => decide (b.toNat < 128)) = true then (some ⟨(Lib.trimS a0.data.toList a1.data.toList).toArray⟩) else none) else none) else none
theorem strings_Trim.calls (a0 : ByteArray) (a1 : ByteArray) (r : ByteArray) (w : World) (h : strings_Trim.f a0 a1 = some r) :
    Calls Tryd.prog 21 #[.string a0, .string a1] w fun e w' => e = .returned (.string r) ∧ Below w.heap.size w w' := by
  unfold strings_Trim.f at h
  split at h
  · rename_i hs
    split at h
    · rename_i hc
      split at h
      · rename_i ha
        obtain rfl := Option.some.inj h
        refine (Any.strings_Trim_laid Tryd.lays160 (by kernel_rfl) a0 a1 w hs hc (fun j b hj => ?_)).mono ?_
        · have hb := List.all_eq_true.1 ha b (List.mem_of_getElem? hj)
          simpa using hb
        · rintro e w' ⟨rfl, hb⟩
          exact ⟨rfl, hb⟩
      · cases h
    · cases h
  · cases h

end Go.Proofs.YtehnomgjpnkfnaaDoor.P

namespace Go.Proofs.YtehnomgjpnkfnaaDoor.P
open Go.RowKit Go.Proofs.YtehnomgjpnkfnaaDoorW.PrintWords Go.Proofs.YtehnomgjpnkfnaaDoorW.PrintLast Go.Proofs.YtehnomgjpnkfnaaDoorW.PrintMore
attribute [local go_sem] max2_int min2_int max_two min_two max_three min_three max_four min_four   -- for this text's walks alone
set_option linter.unusedVariables false
set_option linter.unusedSimpArgs false

/-! ### impl_over: function 17 -/
def impl_over.f (a0 : ByteArray) (a1 : ByteArray) : Option (Bool) := (strings_Trim.f a0 a1).bind fun t109 => (some (t109.toList == ([] : List UInt8)))
set_option maxHeartbeats 8000000 in
set_option maxRecDepth 100000 in
theorem impl_over.calls (a0 : ByteArray) (a1 : ByteArray) (r : Bool) (w : World) (h : impl_over.f a0 a1 = some r) :
    Calls Tryd.prog 17 #[.string a0, .string a1] w fun e w' => e = .returned (.bool r) ∧ Below w.heap.size w w' := by
  have HB := Aside0.mk (Below.refl w.heap.size w)
  have H : ((strings_Trim.f a0 a1).bind fun t109 => (some (t109.toList == ([] : List UInt8)))) = some r := h
  clear h
  replace H := Option.bind_eq_some_iff.mp H
  obtain ⟨t109, A30, H⟩ := H
  replace H : (some (t109.toList == ([] : List UInt8))) = some r := H
  have A3 := Aside0.mk A30
  clear A30
  obtain rfl := Option.some.inj H
  go_enter Tryd.func17, Tryd.ntmps17
  go_wp2_with (first | ((with_reducible refine gate_callee (f := 21) rfl ?_); refine goesL_ (some 7) rfl rfl Tryd.func21 (by kernel_rfl) rfl #[.string a0, .string a1] rfl (by (try simp only [List.map_toArray, List.map_cons, List.map_nil]); first | done | rfl | (simp only [List.length_drop, List.length_take]; rfl)) ?_; (with_reducible refine (strings_Trim.calls a0 a1 t109 _ A3.out).mono ?_); rintro e w4 ⟨rfl, hb⟩; refine ⟨_, rfl, ?_⟩; have n0_ := Aside0.mk (below_step (by repeat (first | (with_reducible first | exact HB.out | apply below_alloc | apply pw_below_drewN | apply below_drew1) | exact HB.out)) hb); clear HB; have HB := n0_; clear n0_; (try clear hb); (try clear hb2); (try clear hk); (try clear hi)))
  go_ret
  exact ⟨by first | rfl | (simp [errW_none, errW_some] <;> rfl) | (simp [*, errW_none, errW_some] <;> rfl), by repeat (first | (with_reducible first | exact HB.out | apply below_alloc | apply pw_below_drewN | apply below_drew1) | exact HB.out)⟩

end Go.Proofs.YtehnomgjpnkfnaaDoor.P

namespace Go.Proofs.YtehnomgjpnkfnaaDoor.P
open Go.RowKit Go.Proofs.YtehnomgjpnkfnaaDoorW.PrintWords Go.Proofs.YtehnomgjpnkfnaaDoorW.PrintLast Go.Proofs.YtehnomgjpnkfnaaDoorW.PrintMore
attribute [local go_sem] max2_int min2_int max_two min_two max_three min_three max_four min_four   -- for this text's walks alone
set_option linter.unusedVariables false
set_option linter.unusedSimpArgs false

/-! ### impl_IsDialed: function 10 -/
def impl_IsDialed.f (a0 : ByteArray) : Option (Bool) := if (a0.size : Int) ≤ 30 then ((impl_over.f a0 (⟨#[49, 50, 51, 52, 53, 54, 55, 56, 57, 42, 48, 35]⟩ : ByteArray)).bind fun t110 => (some t110)) else (some false)
set_option maxHeartbeats 8000000 in
set_option maxRecDepth 100000 in
theorem impl_IsDialed.calls (a0 : ByteArray) (r : Bool) (w : World) (h : impl_IsDialed.f a0 = some r) :
    Calls Tryd.prog 10 #[.string a0] w fun e w' => e = .returned (.bool r) ∧ Below w.heap.size w w' := by
  have HB := Aside0.mk (Below.refl w.heap.size w)
  have H : (if (a0.size : Int) ≤ 30 then ((impl_over.f a0 (⟨#[49, 50, 51, 52, 53, 54, 55, 56, 57, 42, 48, 35]⟩ : ByteArray)).bind fun t110 => (some t110)) else (some false)) = some r := h
  clear h
  by_cases c2 : (a0.size : Int) ≤ 30
  · rw [if_pos c2] at H
    have c2b0 : decide ((a0.size : Int) ≤ 30) = true := decide_eq_true c2
    have c2b1 : decide (a0.size ≤ 30) = true := decide_eq_true (by omega)
    clear c2
    replace H := Option.bind_eq_some_iff.mp H
    obtain ⟨t110, A30, H⟩ := H
    replace H : (some t110) = some r := H
    have A3 := Aside0.mk A30
    clear A30
    obtain rfl := Option.some.inj H
    go_enter Tryd.func10, Tryd.ntmps10
    go_wp2_with (first | (go_at_call 17; (with_reducible refine (impl_over.calls a0 (⟨#[49, 50, 51, 52, 53, 54, 55, 56, 57, 42, 48, 35]⟩ : ByteArray) t110 _ A3.out).mono ?_); rintro e w4 ⟨rfl, hb⟩; have n0_ := Aside0.mk (below_step (by repeat (first | (with_reducible first | exact HB.out | apply below_alloc | apply pw_below_drewN | apply below_drew1) | exact HB.out)) hb); clear HB; have HB := n0_; clear n0_; (try clear hb); (try clear hb2); (try clear hk); (try clear hi)))
    go_ret
    exact ⟨by first | rfl | (simp [errW_none, errW_some] <;> rfl) | (simp [*, errW_none, errW_some] <;> rfl), by repeat (first | (with_reducible first | exact HB.out | apply below_alloc | apply pw_below_drewN | apply below_drew1) | exact HB.out)⟩
  · rw [if_neg c2] at H
    have c2b0 : decide ((a0.size : Int) ≤ 30) = false := decide_eq_false c2
    have c2b1 : decide (a0.size ≤ 30) = false := decide_eq_false (by omega)
    clear c2
    obtain rfl := Option.some.inj H
    go_enter Tryd.func10, Tryd.ntmps10
    go_wp2
    go_ret
    exact ⟨by first | rfl | (simp [errW_none, errW_some] <;> rfl) | (simp [*, errW_none, errW_some] <;> rfl), by repeat (first | (with_reducible first | exact HB.out | apply below_alloc | apply pw_below_drewN | apply below_drew1) | exact HB.out)⟩

end Go.Proofs.YtehnomgjpnkfnaaDoor.P

namespace Go.Proofs.YtehnomgjpnkfnaaDoor.P
open Go.RowKit Go.Proofs.YtehnomgjpnkfnaaDoorW.PrintWords Go.Proofs.YtehnomgjpnkfnaaDoorW.PrintLast Go.Proofs.YtehnomgjpnkfnaaDoorW.PrintMore
attribute [local go_sem] max2_int min2_int max_two min_two max_three min_three max_four min_four   -- for this text's walks alone
set_option linter.unusedVariables false
set_option linter.unusedSimpArgs false

/-! ### impl_isKey: function 11 -/
def impl_isKey.f (a0 : ByteArray) : Option (Bool) := if (a0.size : Int) = 1 then ((impl_IsDialed.f a0).bind fun t111 => (some t111)) else (some false)
set_option maxHeartbeats 8000000 in
set_option maxRecDepth 100000 in
theorem impl_isKey.calls (a0 : ByteArray) (r : Bool) (w : World) (h : impl_isKey.f a0 = some r) :
    Calls Tryd.prog 11 #[.string a0] w fun e w' => e = .returned (.bool r) ∧ Below w.heap.size w w' := by
  have HB := Aside0.mk (Below.refl w.heap.size w)
  have H : (if (a0.size : Int) = 1 then ((impl_IsDialed.f a0).bind fun t111 => (some t111)) else (some false)) = some r := h
  clear h
  by_cases c2 : (a0.size : Int) = 1
  · rw [if_pos c2] at H
    have c2b0 : ((a0.size : Int) == 1) = true := beq_iff_eq.mpr c2
    have c2b1 : ((a0.size : Int) != 1) = false := bne_eq_false_iff_eq.mpr c2
    clear c2
    replace H := Option.bind_eq_some_iff.mp H
    obtain ⟨t111, A30, H⟩ := H
    replace H : (some t111) = some r := H
    have A3 := Aside0.mk A30
    clear A30
    obtain rfl := Option.some.inj H
    go_enter Tryd.func11, Tryd.ntmps11
    go_wp2_with (first | (go_at_call 10; (with_reducible refine (impl_IsDialed.calls a0 t111 _ A3.out).mono ?_); rintro e w4 ⟨rfl, hb⟩; have n0_ := Aside0.mk (below_step (by repeat (first | (with_reducible first | exact HB.out | apply below_alloc | apply pw_below_drewN | apply below_drew1) | exact HB.out)) hb); clear HB; have HB := n0_; clear n0_; (try clear hb); (try clear hb2); (try clear hk); (try clear hi)))
    go_ret
    exact ⟨by first | rfl | (simp [errW_none, errW_some] <;> rfl) | (simp [*, errW_none, errW_some] <;> rfl), by repeat (first | (with_reducible first | exact HB.out | apply below_alloc | apply pw_below_drewN | apply below_drew1) | exact HB.out)⟩
  · rw [if_neg c2] at H
    have c2b0 : ((a0.size : Int) == 1) = false := beq_eq_false_iff_ne.mpr c2
    have c2b1 : ((a0.size : Int) != 1) = true := bne_iff_ne.mpr c2
    obtain rfl := Option.some.inj H
    go_enter Tryd.func11, Tryd.ntmps11
    go_wp2
    go_ret
    exact ⟨by first | rfl | (simp [errW_none, errW_some] <;> rfl) | (simp [*, errW_none, errW_some] <;> rfl), by repeat (first | (with_reducible first | exact HB.out | apply below_alloc | apply pw_below_drewN | apply below_drew1) | exact HB.out)⟩

end Go.Proofs.YtehnomgjpnkfnaaDoor.P

namespace Go.Proofs.YtehnomgjpnkfnaaDoor.P
open Go.RowKit Go.Proofs.YtehnomgjpnkfnaaDoorW.PrintWords Go.Proofs.YtehnomgjpnkfnaaDoorW.PrintLast Go.Proofs.YtehnomgjpnkfnaaDoorW.PrintMore
attribute [local go_sem] max2_int min2_int max_two min_two max_three min_three max_four min_four   -- for this text's walks alone
set_option linter.unusedVariables false
set_option linter.unusedSimpArgs false

/-! ### strings_IndexByte: function 18 -/
def strings_IndexByte.f (a0 : ByteArray) (a1 : Int) : Option (Int) := some (Lib.indexByte a0.data.toList a1.toNat.toUInt8)
theorem strings_IndexByte.calls (a0 : ByteArray) (a1 : Int) (r : Int) (w : World) (h : strings_IndexByte.f a0 a1 = some r) :
    Calls Tryd.prog 18 #[.string a0, .int .u8 a1] w fun e w' => e = .returned (.int .i64 r) ∧ Drawn0 w w' := by
  obtain rfl := Option.some.inj h
  refine (Tryd.strings_IndexByte a0 a1 w).mono ?_
  rintro e w' ⟨rfl, rfl⟩
  exact ⟨rfl, Drawn0.refl _⟩

end Go.Proofs.YtehnomgjpnkfnaaDoor.P

namespace Go.Proofs.YtehnomgjpnkfnaaDoor.P
open Go.RowKit Go.Proofs.YtehnomgjpnkfnaaDoorW.PrintWords Go.Proofs.YtehnomgjpnkfnaaDoorW.PrintLast Go.Proofs.YtehnomgjpnkfnaaDoorW.PrintMore
attribute [local go_sem] max2_int min2_int max_two min_two max_three min_three max_four min_four   -- for this text's walks alone
set_option linter.unusedVariables false
set_option linter.unusedSimpArgs false

/-! ### impl_place: function 12 -/
def impl_place.f (a0 : Int) : Option (Int) := (strings_IndexByte.f (⟨#[49, 50, 51, 52, 53, 54, 55, 56, 57, 42, 48, 35]⟩ : ByteArray) a0).bind fun t112 => (some t112)
set_option maxHeartbeats 8000000 in
set_option maxRecDepth 100000 in
theorem impl_place.calls (a0 : Int) (r : Int) (w : World) (h : impl_place.f a0 = some r) :
    Calls Tryd.prog 12 #[.int .u8 a0] w fun e w' => e = .returned (.int .i64 r) ∧ Drawn0 w w' := by
  have H : ((strings_IndexByte.f (⟨#[49, 50, 51, 52, 53, 54, 55, 56, 57, 42, 48, 35]⟩ : ByteArray) a0).bind fun t112 => (some t112)) = some r := h
  clear h
  replace H := Option.bind_eq_some_iff.mp H
  obtain ⟨t112, A20, H⟩ := H
  replace H : (some t112) = some r := H
  have A2 := Aside0.mk A20
  clear A20
  obtain rfl := Option.some.inj H
  go_enter Tryd.func12, Tryd.ntmps12
  go_wp2_with (first | ((with_reducible refine gate_callee (f := 18) rfl ?_); refine goesL_ (some 4) rfl rfl Tryd.func18 (by kernel_rfl) rfl #[.string (⟨#[49, 50, 51, 52, 53, 54, 55, 56, 57, 42, 48, 35]⟩ : ByteArray), .int .u8 a0] rfl (by (try simp only [List.map_toArray, List.map_cons, List.map_nil]); first | done | rfl | (simp only [List.length_drop, List.length_take]; rfl)) ?_; (with_reducible refine (strings_IndexByte.calls (⟨#[49, 50, 51, 52, 53, 54, 55, 56, 57, 42, 48, 35]⟩ : ByteArray) a0 t112 _ A2.out).mono ?_); rintro e w' ⟨rfl, ⟨nd, rfl⟩⟩; refine ⟨_, rfl, ?_⟩))
  go_ret
  exact ⟨by first | rfl | (simp; done) | (simp [*]; done), by repeat (first | exact Drawn0.refl _ | apply Drawn0.step)⟩

end Go.Proofs.YtehnomgjpnkfnaaDoor.P

namespace Go.Proofs.YtehnomgjpnkfnaaDoor.P
open Go.RowKit Go.Proofs.YtehnomgjpnkfnaaDoorW.PrintWords Go.Proofs.YtehnomgjpnkfnaaDoorW.PrintLast Go.Proofs.YtehnomgjpnkfnaaDoorW.PrintMore
attribute [local go_sem] max2_int min2_int max_two min_two max_three min_three max_four min_four   -- for this text's walks alone
set_option linter.unusedVariables false
set_option linter.unusedSimpArgs false

/-! ### impl_places: function 13 -/
def impl_places.l0 : Nat → ByteArray → List Int → Int → Int → Option (List Int)
  | 0, _, _, _, _ => none
  | k + 1, x0, x3, x7, x8 => if x8 < x7 then (if 0 ≤ x8 then (if x8 < (x0.size : Int) then ((impl_place.f (bt x0 x8)).bind fun t116 => (if x3.length < 17592186044416 then (impl_places.l0 k x0 (x3 ++ [t116]) x7 (wrap64 (x8 + 1))) else (none))) else (none)) else (none)) else (some x3)
def impl_places.f (k : Nat) (a0 : ByteArray) : Option (List Int) := impl_places.l0 k a0 (([] : List Int)) (a0.size : Int) 0
theorem impl_places.mono_l : ∀ k, (∀ y0 y1 y2 y3, LeO (impl_places.l0 k y0 y1 y2 y3) (impl_places.l0 (k + 1) y0 y1 y2 y3))
  | 0 => fun _ _ _ _ r h => by simp [impl_places.l0] at h
  | k + 1 => by
    have ih0 := impl_places.mono_l k
    · intro y0 y1 y2 y3
      unfold impl_places.l0
      repeat' first
      | (with_reducible exact ih0 _ _ _ _)
      | (with_reducible exact LeO.refl _)
      | (with_reducible exact LeO.none _)
      | (with_reducible refine LeO.ite ?_ ?_)
      | (with_reducible refine LeO.bind ?_ (fun _ => ?_))
      | exact ih0 _ _ _ _
      | exact LeO.none _
      | refine LeO.ite ?_ ?_
      | refine LeO.bind ?_ (fun _ => ?_)
theorem impl_places.mono : ∀ a0 k, LeO (impl_places.f k a0) (impl_places.f (k + 1) a0) := by
  intro a0 k
  have ih0 := impl_places.mono_l k
  unfold impl_places.f
  repeat' first
      | (with_reducible exact ih0 _ _ _ _)
      | (with_reducible exact LeO.refl _)
      | (with_reducible exact LeO.none _)
      | (with_reducible refine LeO.ite ?_ ?_)
      | (with_reducible refine LeO.bind ?_ (fun _ => ?_))
      | exact ih0 _ _ _ _
      | exact LeO.none _
      | refine LeO.ite ?_ ?_
      | refine LeO.bind ?_ (fun _ => ?_)
set_option maxHeartbeats 8000000 in
set_option maxRecDepth 100000 in
theorem impl_places.calls (k : Nat) (a0 : ByteArray) (r : List Int) (w : World) (h : impl_places.f k a0 = some r) :
    Calls Tryd.prog 13 #[.string a0] w fun e w' => ∃ v0_ : Value, e = .returned (v0_) ∧ Kd.R (Kd.int .i64) 3 w' w.heap.size (fun _ => True) v0_ r ∧ Below w.heap.size w w' := by
  have HB := Aside0.mk (Below.refl w.heap.size w)
  have H : (impl_places.l0 k a0 (([] : List Int)) (a0.size : Int) 0) = some r := h
  clear h
  obtain ⟨y113, hy113⟩ : ∃ y_ : List Int, y_ = (([] : List Int)) := ⟨_, rfl⟩
  replace H : (impl_places.l0 k a0 y113 (a0.size : Int) 0) = some r := by first | (rw [hy113]; with_reducible exact H) | (have H2_ := (Option.bind_some _ _).symm.trans H; rw [hy113]; with_reducible exact H2_) | (have H2_ := (Option.bind_some _ _).symm.trans H; with_reducible exact H2_) | with_reducible exact H | (rw [hy113]; exact H) | exact H
  have Ny113 := Aside0.mk hy113
  clear hy113
  have H' := Aside0.mk H
  clear H
  go_enter Tryd.func13, Tryd.ntmps13
  go_wp2_with (first | ((with_reducible refine gate_dst (N := 5) rfl ?_); refine Kd.R_lit (Kd.int .i64) _ 3 ?hg (N := 5) ?hd (xs := ([] : List Int)) (inner := []) (ok := fun _ => True) (okp := fun _ => True) ?hr ?hp (fun _ hk => hk) trivial (Below.refl _ _) (Nat.le_refl _) (by simp) ?_; (case hd => rfl); (case hg => rfl); (case hr => first | (go_simp; done) | (go_simp; rfl)); (case hp => exact (Reps.none _ _)); intro v114 w2 ho3 hb hg_ hnew_; clear hg_ hnew_; (first | rw [← Ny113.out] at ho3 | (simp only [Int.reduceToNat] at ho3; rw [← Ny113.out] at ho3)); have n0_ := Aside0.mk (Kd.R_lower ho3 (below_size (by repeat (first | (with_reducible first | exact HB.out | apply below_alloc | apply pw_below_drewN | apply below_drew1) | exact HB.out)))); have n1_ := Aside0.mk (below_step (by repeat (first | (with_reducible first | exact HB.out | apply below_alloc | apply pw_below_drewN | apply below_drew1) | exact HB.out)) hb); clear HB; have HO115 := n0_; have HB := n1_; clear n0_ n1_; clear hb ho3))
  go_loopg [3, 8] k (fun kq v3 v8 w' => ∃ (x3_1 : List Int) (x8_1 : Int), v8 = .int .i64 x8_1 ∧ Aside0 (impl_places.l0 kq a0 x3_1 (a0.size : Int) x8_1 = some r) ∧ Aside0 (kq ≤ k) ∧ Aside0 (Kd.R (Kd.int .i64) 3 w' w.heap.size (fun _ => True) v3 x3_1) ∧ Aside0 (Below w.heap.size w w'))
  case atStart => exact ⟨(y113), (0), (by first | rfl | (simp; done) | (simp [*]; done)), H', ⟨Nat.le_refl _⟩, ⟨by (with_reducible repeat (first | apply Kd.R_alloc | apply Kd.R_drewN | apply Kd.R_drew)); exact HO115.out⟩, ⟨by repeat (first | (with_reducible first | exact HB.out | apply below_alloc | apply pw_below_drewN | apply below_drew1) | exact HB.out)⟩⟩
  case round =>
    clear H'
    try clear c1
    try clear p2
    obtain ⟨x3_1, x8_1, rfl, HA, HK1, HO_3, HB⟩ := hrel
    cases gk with
    | zero => exact absurd HA.out (by simp [impl_places.l0])
    | succ k1 =>
      have H := HA.out
      clear HA
      simp only [impl_places.l0] at H
      by_cases c4 : x8_1 < (a0.size : Int)
      · rw [if_pos c4] at H
        have c4b0 : decide (x8_1 < (a0.size : Int)) = true := decide_eq_true c4
        clear c4
        by_cases c5 : 0 ≤ x8_1
        · rw [if_pos c5] at H
          have c5b0 : decide (0 ≤ x8_1) = true := decide_eq_true c5
          clear c5
          by_cases c6 : x8_1 < (a0.size : Int)
          · rw [if_pos c6] at H
            have c6b0 : decide (x8_1 < (a0.size : Int)) = true := decide_eq_true c6
            clear c6
            replace H := Option.bind_eq_some_iff.mp H
            obtain ⟨t116, A80, H⟩ := H
            replace H : (if x3_1.length < 17592186044416 then (impl_places.l0 k1 a0 (x3_1 ++ [t116]) (a0.size : Int) (wrap64 (x8_1 + 1))) else (none)) = some r := H
            have A8 := Aside0.mk A80
            clear A80
            by_cases c9 : x3_1.length < 17592186044416
            · rw [if_pos c9] at H
              have LMc9 := Aside0.mk c9
              clear c9
              obtain ⟨y117, hy117⟩ : ∃ y_ : List Int, y_ = (x3_1 ++ [t116]) := ⟨_, rfl⟩
              replace H : (impl_places.l0 k1 a0 y117 (a0.size : Int) (wrap64 (x8_1 + 1))) = some r := by first | (rw [hy117]; with_reducible exact H) | (have H2_ := (Option.bind_some _ _).symm.trans H; rw [hy117]; with_reducible exact H2_) | (have H2_ := (Option.bind_some _ _).symm.trans H; with_reducible exact H2_) | with_reducible exact H | (rw [hy117]; exact H) | exact H
              have Ny117 := Aside0.mk hy117
              clear hy117
              have H' := Aside0.mk H
              clear H
              have p7 : 0 ≤ (x8_1 : Int) := of_decide_eq_true (by first | (with_reducible assumption) | assumption)
              have q7 : x8_1 < (a0.size : Int) := of_decide_eq_true (by first | (with_reducible assumption) | assumption)
              have hx7 := bt_at a0 x8_1
              replace p7 := eq_true p7
              replace q7 := eq_true q7
              go_wp2_with (first | ((with_reducible refine gate_callee (f := 12) rfl ?_); refine goesL_ (some 15) rfl rfl Tryd.func12 (by kernel_rfl) rfl #[.int .u8 (bt a0 x8_1)] rfl (by (try simp only [List.map_toArray, List.map_cons, List.map_nil]); first | done | rfl | (simp only [List.length_drop, List.length_take]; rfl)) ?_; (with_reducible refine (impl_place.calls (bt a0 x8_1) t116 _ A8.out).mono ?_); rintro e w' ⟨rfl, ⟨nd, rfl⟩⟩; refine ⟨_, rfl, ?_⟩) | ((with_reducible refine gate_builtin (b := .append) (xs := #[.tmp 11, .tmp 16]) rfl ?_); at_builtin; refine Kd.R_append (Kd.int .i64) (w0 := w) w.heap.size rfl (.tmp 11) (.tmp 16) 32 3 (.int .i64 0) 8 rfl Tryd.underlying32 info3 rfl (by decide) (by omega) u3 x3_1 t116 [.int .i64 t116] (fun _ => True) (fun _ => False) rfl rfl ?aP (fun _ hk => hk.elim) ?aF ?aO ?aB ?aS ?aL ?_; (case aP => exact rfl); (case aB => exact (by repeat (first | (with_reducible first | exact HB.out | apply below_alloc | apply pw_below_drewN | apply below_drew1) | exact HB.out))); (case aF => exact (fun _ _ => trivial)); (case aO => exact (by (with_reducible repeat (first | apply Kd.R_alloc | apply Kd.R_drewN | apply Kd.R_drew)); exact HO_3.out)); (case aS => exact (below_size (by repeat (first | (with_reducible first | exact HB.out | apply below_alloc | apply pw_below_drewN | apply below_drew1) | exact HB.out)))); (case aL => have := LMc9.out; omega); intro v118 w10 ho hb hg hat; rw [← Ny117.out] at ho; have n0_ := Aside0.mk (hb); have n1_ := Aside0.mk (ho); clear HB; clear HO_3; have HB := n0_; have HO119 := n1_; clear n0_ n1_; clear ho hb hg hat))
              go_roundg k1
              case measure => have := HK1.out; omega
              case rel => exact ⟨(y117), (wrap64 (x8_1 + 1)), (by first | rfl | (simp; done) | (simp [*]; done)), H', ⟨by have := HK1.out; omega⟩, ⟨by (with_reducible repeat (first | apply Kd.R_alloc | apply Kd.R_drewN | apply Kd.R_drew)); exact HO119.out⟩, ⟨by repeat (first | (with_reducible first | exact HB.out | apply below_alloc | apply pw_below_drewN | apply below_drew1) | exact HB.out)⟩⟩
            · rw [if_neg c9] at H
              exact absurd H (by simp)
          · rw [if_neg c6] at H
            exact absurd H (by simp)
        · rw [if_neg c5] at H
          exact absurd H (by simp)
      · rw [if_neg c4] at H
        have c4b0 : decide (x8_1 < (a0.size : Int)) = false := decide_eq_false c4
        clear c4
        obtain rfl := Option.some.inj H
        go_wp2
        go_ret
        exact ⟨_, by first | rfl | (simp [errW_none, errW_some] <;> rfl) | (simp [*, errW_none, errW_some] <;> rfl), by (with_reducible repeat (first | apply Kd.R_alloc | apply Kd.R_drewN | apply Kd.R_drew)); exact HO_3.out, by repeat (first | (with_reducible first | exact HB.out | apply below_alloc | apply pw_below_drewN | apply below_drew1) | exact HB.out)⟩

end Go.Proofs.YtehnomgjpnkfnaaDoor.P

namespace Go.Proofs.YtehnomgjpnkfnaaDoor.P
open Go.RowKit Go.Proofs.YtehnomgjpnkfnaaDoorW.PrintWords Go.Proofs.YtehnomgjpnkfnaaDoorW.PrintLast Go.Proofs.YtehnomgjpnkfnaaDoorW.PrintMore
attribute [local go_sem] max2_int min2_int max_two min_two max_three min_three max_four min_four   -- for this text's walks alone
set_option linter.unusedVariables false
set_option linter.unusedSimpArgs false

/-! ### strings_Repeat: function 20 -/
def strings_Repeat.f (a0 : ByteArray) (a1 : Int) : Option (ByteArray) := if 0 ≤ a1 then (if a1 ≤ 1000000 then (if a0.size ≤ 1000000 then (some ⟨(Lib.repeatL a0.data.toList a1.toNat).toArray⟩) else (none)) else (none)) else (none)
theorem strings_Repeat.calls (a0 : ByteArray) (a1 : Int) (r : ByteArray) (w : World) (h : strings_Repeat.f a0 a1 = some r) :
    Calls Tryd.prog 20 #[.string a0, .int .i64 a1] w fun e w' => e = .returned (.string r) ∧ Below w.heap.size w w' := by
  unfold strings_Repeat.f at h
  split at h
  · rename_i h0
    split at h
    · rename_i h1
      split at h
      · rename_i h2
        obtain rfl := Option.some.inj h
        exact Go.Proofs.YtehnomgjpnkfnaaDoor.Bld.repeat_ a0 a1 w h0 h1 h2
      · cases h
    · cases h
  · cases h

end Go.Proofs.YtehnomgjpnkfnaaDoor.P

namespace Go.Proofs.YtehnomgjpnkfnaaDoor.P
open Go.RowKit Go.Proofs.YtehnomgjpnkfnaaDoorW.PrintWords Go.Proofs.YtehnomgjpnkfnaaDoorW.PrintLast Go.Proofs.YtehnomgjpnkfnaaDoorW.PrintMore
attribute [local go_sem] max2_int min2_int max_two min_two max_three min_three max_four min_four   -- for this text's walks alone
set_option linter.unusedVariables false
set_option linter.unusedSimpArgs false

/-! ### impl_repeated: function 15 -/
def impl_repeated.f (a0 : ByteArray) (a1 : ByteArray) (a2 : Int) : Option (ByteArray) := if a2 < 0 then ((strings_Repeat.f a0 (wrap64 (-a2))).bind fun t120 => (some t120)) else ((strings_Repeat.f a1 a2).bind fun t121 => (some t121))
set_option maxHeartbeats 8000000 in
set_option maxRecDepth 100000 in
theorem impl_repeated.calls (a0 : ByteArray) (a1 : ByteArray) (a2 : Int) (r : ByteArray) (w : World) (h : impl_repeated.f a0 a1 a2 = some r) :
    Calls Tryd.prog 15 #[.string a0, .string a1, .int .i64 a2] w fun e w' => e = .returned (.string r) ∧ Below w.heap.size w w' := by
  have HB := Aside0.mk (Below.refl w.heap.size w)
  have H : (if a2 < 0 then ((strings_Repeat.f a0 (wrap64 (-a2))).bind fun t120 => (some t120)) else ((strings_Repeat.f a1 a2).bind fun t121 => (some t121))) = some r := h
  clear h
  by_cases c4 : a2 < 0
  · rw [if_pos c4] at H
    have c4b0 : decide (a2 < 0) = true := decide_eq_true c4
    clear c4
    replace H := Option.bind_eq_some_iff.mp H
    obtain ⟨t120, A50, H⟩ := H
    replace H : (some t120) = some r := H
    have A5 := Aside0.mk A50
    clear A50
    obtain rfl := Option.some.inj H
    go_enter Tryd.func15, Tryd.ntmps15
    go_wp2_with (first | ((with_reducible refine gate_callee (f := 20) rfl ?_); refine goesL_ (some 12) rfl rfl Tryd.func20 (by kernel_rfl) rfl #[.string a0, .int .i64 (wrap64 (-a2))] rfl (by (try simp only [List.map_toArray, List.map_cons, List.map_nil]); first | done | rfl | (simp only [List.length_drop, List.length_take]; rfl)) ?_; (with_reducible refine (strings_Repeat.calls a0 (wrap64 (-a2)) t120 _ A5.out).mono ?_); rintro e w6 ⟨rfl, hb⟩; refine ⟨_, rfl, ?_⟩; have n0_ := Aside0.mk (below_step (by repeat (first | (with_reducible first | exact HB.out | apply below_alloc | apply pw_below_drewN | apply below_drew1) | exact HB.out)) hb); clear HB; have HB := n0_; clear n0_; (try clear hb); (try clear hb2); (try clear hk); (try clear hi)))
    go_ret
    exact ⟨by first | rfl | (simp [errW_none, errW_some] <;> rfl) | (simp [*, errW_none, errW_some] <;> rfl), by repeat (first | (with_reducible first | exact HB.out | apply below_alloc | apply pw_below_drewN | apply below_drew1) | exact HB.out)⟩
  · rw [if_neg c4] at H
    have c4b0 : decide (a2 < 0) = false := decide_eq_false c4
    clear c4
    replace H := Option.bind_eq_some_iff.mp H
    obtain ⟨t121, A70, H⟩ := H
    replace H : (some t121) = some r := H
    have A7 := Aside0.mk A70
    clear A70
    obtain rfl := Option.some.inj H
    go_enter Tryd.func15, Tryd.ntmps15
    go_wp2_with (first | ((with_reducible refine gate_callee (f := 20) rfl ?_); refine goesL_ (some 15) rfl rfl Tryd.func20 (by kernel_rfl) rfl #[.string a1, .int .i64 a2] rfl (by (try simp only [List.map_toArray, List.map_cons, List.map_nil]); first | done | rfl | (simp only [List.length_drop, List.length_take]; rfl)) ?_; (with_reducible refine (strings_Repeat.calls a1 a2 t121 _ A7.out).mono ?_); rintro e w8 ⟨rfl, hb⟩; refine ⟨_, rfl, ?_⟩; have n0_ := Aside0.mk (below_step (by repeat (first | (with_reducible first | exact HB.out | apply below_alloc | apply pw_below_drewN | apply below_drew1) | exact HB.out)) hb); clear HB; have HB := n0_; clear n0_; (try clear hb); (try clear hb2); (try clear hk); (try clear hi)))
    go_ret
    exact ⟨by first | rfl | (simp [errW_none, errW_some] <;> rfl) | (simp [*, errW_none, errW_some] <;> rfl), by repeat (first | (with_reducible first | exact HB.out | apply below_alloc | apply pw_below_drewN | apply below_drew1) | exact HB.out)⟩

end Go.Proofs.YtehnomgjpnkfnaaDoor.P

namespace Go.Proofs.YtehnomgjpnkfnaaDoor.P
open Go.RowKit Go.Proofs.YtehnomgjpnkfnaaDoorW.PrintWords Go.Proofs.YtehnomgjpnkfnaaDoorW.PrintLast Go.Proofs.YtehnomgjpnkfnaaDoorW.PrintMore
attribute [local go_sem] max2_int min2_int max_two min_two max_three min_three max_four min_four   -- for this text's walks alone
set_option linter.unusedVariables false
set_option linter.unusedSimpArgs false

/-! ### impl_MovesOf: function 5 -/
def impl_MovesOf.go : List Int → Int → List UInt8 → Option (List UInt8)
  | [], _, out => some out
  | q :: L, p, out => (impl_repeated.f (⟨#[108]⟩ : ByteArray) (⟨#[114]⟩ : ByteArray) (wrap64 (Int.tmod q 3 - Int.tmod p 3))).bind fun x => (impl_repeated.f (⟨#[117]⟩ : ByteArray) (⟨#[100]⟩ : ByteArray) (wrap64 (wrap64 (Int.tdiv q 3) - wrap64 (Int.tdiv p 3)))).bind fun y => (if x.size ≤ 1000000 then (if y.size ≤ 1000000 then (if out.length ≤ 1000000 then (impl_MovesOf.go L q (out ++ ((x ++ y) ++ (⟨#[46]⟩ : ByteArray)).data.toList)) else (none)) else (none)) else (none))
def impl_MovesOf.f (k : Nat) (a0 : ByteArray) (a1 : ByteArray) : Option (ByteArray × Bool) := (impl_IsDialed.f a0).bind fun b => (if b = true then ((impl_isKey.f a1).bind fun c => (if c = true then (if 0 < a1.size then ((impl_place.f (bt a1 0)).bind fun p => ((impl_places.f k a0).bind fun L => (if L.length ≤ 1000000 then ((impl_MovesOf.go L p []).bind fun o => some (⟨o.toArray⟩, true)) else (none)))) else (none)) else (some ((⟨#[]⟩ : ByteArray), false)))) else (some ((⟨#[]⟩ : ByteArray), false)))
theorem impl_MovesOf.mono : ∀ a0 a1 k, LeO (impl_MovesOf.f k a0 a1) (impl_MovesOf.f (k + 1) a0 a1) := by
  intro a0 a1 k r h
  unfold impl_MovesOf.f at h ⊢
  obtain ⟨b, hb, h⟩ := Option.bind_eq_some_iff.1 h
  rw [hb, Option.bind_some]
  split at h
  · rename_i h0
    rw [if_pos h0]
    obtain ⟨c, hc, h⟩ := Option.bind_eq_some_iff.1 h
    rw [hc, Option.bind_some]
    split at h
    · rename_i h1
      rw [if_pos h1]
      split at h
      · rename_i h2
        rw [if_pos h2]
        obtain ⟨p, hp, h⟩ := Option.bind_eq_some_iff.1 h
        rw [hp, Option.bind_some]
        obtain ⟨L, hL, h⟩ := Option.bind_eq_some_iff.1 h
        rw [impl_places.mono a0 k L hL, Option.bind_some]
        exact h
      · cases h
    · rename_i h1
      rw [if_neg h1]
      exact h
  · rename_i h0
    rw [if_neg h0]
    exact h

def impl_MovesOf.Row (B : Nat) (A : Option Addr) (L : List Int) (W : World) : Prop := L = [] ∨ ∃ g cur, A = some ⟨g, 0, none⟩ ∧ B < g ∧ W.heap[g]? = some (.cells cur 3 (0, 0)) ∧ ∀ t : Nat, t < L.length → cur[t]? = some (.int .i64 (rd L (t : Int)))
theorem impl_MovesOf.Row_of {W : World} {B base : Nat} {A : Option Addr} {L : List Int} {c : Nat} (h : W.ownsRow base 3 1 (.slice A L.length c) L.length (encs (Value.int .i64) L)) (hb : B < base) : impl_MovesOf.Row B A L W := by
  rcases h.2 with ⟨hv, h0⟩ | ⟨g, cap, cur, hv, hbase, hg, h1, h2, h3, h4⟩
  · exact .inl (List.eq_nil_of_length_eq_zero h0)
  · injection hv with hA _ _
    refine .inr ⟨g, cur, hA, by omega, hg, fun t ht => ?_⟩
    rw [Nat.mul_one] at h4
    have h5 := congrArg (fun l => l[t]?) h4
    rw [List.getElem?_take_of_lt ht, Array.getElem?_toList] at h5
    rw [h5]
    simp [encs, rd, List.getElem?_eq_getElem ht, List.getD_eq_getElem?_getD]
theorem impl_MovesOf.Row_below {B : Nat} {A : Option Addr} {L : List Int} {W W' : World} (h : impl_MovesOf.Row B A L W) (hb : Below W.heap.size W W') : impl_MovesOf.Row B A L W' := by
  rcases h with h | ⟨g, cur, hA, hB, hg, hc⟩
  · exact .inl h
  · exact .inr ⟨g, cur, hA, hB, (hb.block g (Array.getElem?_eq_some_iff.1 hg).1).trans hg, hc⟩
theorem impl_MovesOf.Row_others {B : Nat} {A : Option Addr} {L : List Int} {W W' : World} (h : impl_MovesOf.Row B A L W) (hb : Lib.OthersKept 5 (some B) W W') : impl_MovesOf.Row B A L W' := by
  rcases h with h | ⟨g, cur, hA, hB, hg, hc⟩
  · exact .inl h
  · exact .inr ⟨g, cur, hA, hB, Go.Proofs.YtehnomgjpnkfnaaDoor.Bld.others_row hb hg (by omega) (by decide), hc⟩
theorem impl_MovesOf.Row_cell {B : Nat} {A : Option Addr} {L : List Int} {W : World} {t : Nat} (h : impl_MovesOf.Row B A L W) (ht : t < L.length) : ∃ g, A = some ⟨g, 0, none⟩ ∧ W.cell? ⟨g, t, none⟩ = some (.int .i64 (rd L (t : Int))) := by
  rcases h with h | ⟨g, cur, hA, hB, hg, hc⟩
  · subst h; cases ht
  · exact ⟨g, hA, (cell_of_row _ g t _ _ _ hg).trans (hc t ht)⟩

set_option maxHeartbeats 8000000 in
set_option maxRecDepth 100000 in
theorem impl_MovesOf.calls (k : Nat) (a0 : ByteArray) (a1 : ByteArray) (r1 : ByteArray) (r2 : Bool) (w : World) (h : impl_MovesOf.f k a0 a1 = some (r1, r2)) :
    Calls Tryd.prog 5 #[.string a0, .string a1] w fun e w' => e = .returned (.tuple #[.string r1, .bool r2]) ∧ Below w.heap.size w w' := by
  unfold impl_MovesOf.f at h
  obtain ⟨b, hb, h⟩ := Option.bind_eq_some_iff.1 h
  have hD := Aside0.mk (fun W => impl_IsDialed.calls a0 b W hb)
  clear hb
  cases b with
  | false =>
    rw [if_neg (by simp)] at h
    obtain ⟨rfl, rfl⟩ := Prod.mk.inj (Option.some.inj h)
    go_enter Tryd.func5, Tryd.ntmps5
    go_wp2_with (go_at_call 10; refine (hD.out _).mono ?_; rintro e w2 ⟨rfl, hb2⟩)
    go_ret2
    exact ⟨rfl, hb2⟩
  | true =>
    rw [if_pos rfl] at h
    obtain ⟨c, hc, h⟩ := Option.bind_eq_some_iff.1 h
    have hK := Aside0.mk (fun W => impl_isKey.calls a1 c W hc)
    clear hc
    cases c with
    | false =>
      rw [if_neg (by simp)] at h
      obtain ⟨rfl, rfl⟩ := Prod.mk.inj (Option.some.inj h)
      go_enter Tryd.func5, Tryd.ntmps5
      go_wp2_with (first
        | (go_at_call 10; refine (hD.out _).mono ?_; rintro e w2 ⟨rfl, hb2⟩)
        | (go_at_call 11; refine (hK.out _).mono ?_; rintro e w3 ⟨rfl, hb3⟩))
      go_ret2
      exact ⟨rfl, below_step hb2 hb3⟩
    | true =>
      rw [if_pos rfl] at h
      split at h
      · rename_i hpos
        obtain ⟨p, hp, h⟩ := Option.bind_eq_some_iff.1 h
        obtain ⟨L, hL, h⟩ := Option.bind_eq_some_iff.1 h
        split at h
        · rename_i hLl
          obtain ⟨o, ho, h⟩ := Option.bind_eq_some_iff.1 h
          have h' := Option.some.inj h
          obtain ⟨rfl, rfl⟩ := Prod.mk.inj h'
          have HP := Aside0.mk (fun W => impl_place.calls (bt a1 0) p W hp)
          have HL := Aside0.mk (fun W => impl_places.calls k a0 L W hL)
          have HG := Aside0.mk ho
          clear h h' hp hL ho
          have hposz : (0 : Int) < (a1.size : Int) := by omega
          have hx0 : ∀ h : 0 < a1.size, ((a1[0]'h).toNat : Int) = bt a1 0 := bt_at a1 0
          generalize bt a1 0 = c0 at *
          go_enter Tryd.func5, Tryd.ntmps5
          go_wp2_with (first
            | (go_at_call 10; refine (hD.out _).mono ?_; rintro e w2 ⟨rfl, hb2⟩)
            | (go_at_call 11; refine (hK.out _).mono ?_; rintro e w3 ⟨rfl, hb3⟩)
            | (go_at_call 12; refine (HP.out _).mono ?_; rintro e w4 ⟨rfl, hd4⟩; have hb4 := hd4.below; clear hd4)
            | (go_at_call 13; refine (HL.out _).mono ?_; rintro e w5 ⟨v5, rfl, hR5, hb5⟩; obtain ⟨A5, c5, rfl⟩ := Kd.R_slice hR5))
          have hsz4 : (w4.alloc (Obj.cells #[Value.pointer none, Value.slice none 0 0] 31)).heap.size = w4.heap.size + 1 := by simp
          have HI0 := Aside0.mk (Go.Proofs.YtehnomgjpnkfnaaDoor.Bld.below (Go.Proofs.YtehnomgjpnkfnaaDoor.Bld.fresh 31 5 w4) hb5)
          have HR0 := Aside0.mk (impl_MovesOf.Row_of (B := w4.heap.size) (Kd.own_of_R hR5) (by omega))
          have HB0 := Aside0.mk (below_step (below_alloc (below_step (below_step hb2 hb3) hb4) _) hb5)
          have HS0 : Aside0 (w4.heap.size ≤ w5.heap.size) := ⟨by have := hb5.size; omega⟩
          have hwB : w.heap.size ≤ w4.heap.size := (below_step (below_step hb2 hb3) hb4).size
          clear hR5 hb5 hb2 hb3 hb4 hsz4 HL HP hD hK
          generalize w4.heap.size = B at *
          go_loopg [7, 25] L.length (fun gg s7 s25 wr => ∃ (t : Nat) (q : Int) (out : List UInt8), s7 = .int .i64 q ∧ s25 = .int .i64 t ∧ t + gg = L.length ∧ Aside0 (impl_MovesOf.go (L.drop t) q out = some o) ∧ Aside0 (Lib.IsBuilderF 31 5 B B (Lib.byteCells out) wr) ∧ Aside0 (impl_MovesOf.Row B A5 L wr) ∧ Aside0 (Below w.heap.size w wr) ∧ Aside0 (B ≤ wr.heap.size))
          case atStart => exact ⟨0, p, [], rfl, rfl, by omega, by rw [List.drop_zero]; exact HG, HI0, HR0, HB0, HS0⟩
          case round =>
            obtain ⟨t, q, out, rfl, rfl, ht, HO, HI, HRw, HB, HS⟩ := hrel
            by_cases hlt : t < L.length
            · obtain ⟨d, rfl⟩ : ∃ d, gk = d + 1 := ⟨gk - 1, by omega⟩
              have hL := HO.out
              have hdr : L.drop t = rd L (t : Int) :: L.drop (t + 1) := by
                rw [List.drop_eq_getElem_cons hlt, rd, Int.toNat_natCast, List.getD_eq_getElem?_getD, List.getElem?_eq_getElem hlt]
                rfl
              rw [hdr, impl_MovesOf.go] at hL
              obtain ⟨x, hx, hL⟩ := Option.bind_eq_some_iff.1 hL
              obtain ⟨y, hy, hL⟩ := Option.bind_eq_some_iff.1 hL
              split at hL
              · rename_i hxl
                split at hL
                · rename_i hyl
                  split at hL
                  · rename_i hol
                    have HX := Aside0.mk (fun W => impl_repeated.calls _ _ _ x W hx)
                    have HY := Aside0.mk (fun W => impl_repeated.calls _ _ _ y W hy)
                    have HN := Aside0.mk hL
                    obtain ⟨g5, rfl, hcell⟩ := impl_MovesOf.Row_cell HRw.out hlt
                    clear hL hx hy HO hdr
                    have htz0 : (0 : Int) ≤ (t : Int) := Int.natCast_nonneg _
                    have htz1 : (t : Int) < (L.length : Int) := by omega
                    generalize rd L (t : Int) = z at *
                    have hw1 := i64_w (Int.tmod z 3 - Int.tmod q 3)
                    have hw2 := i64_w (Int.tdiv z 3)
                    have hw3 := i64_w (Int.tdiv q 3)
                    have hw4 := i64_w (wrap64 (Int.tdiv z 3) - wrap64 (Int.tdiv q 3))
                    generalize wrap64 (Int.tmod z 3 - Int.tmod q 3) = dx at hw1 HX
                    generalize wrap64 (wrap64 (Int.tdiv z 3) - wrap64 (Int.tdiv q 3)) = dy at hw4 HY
                    generalize wrap64 (Int.tdiv z 3) = zy at hw2 hw4
                    generalize wrap64 (Int.tdiv q 3) = qy at hw3 hw4
                    have hs1 : x.size + y.size ≤ 9223372036854775807 := by omega
                    have hs2 : (x ++ y).size + 1 ≤ 9223372036854775807 := by rw [ByteArray.size_append]; omega
                    have hs3 : x.size + y.size + 1 ≤ 9223372036854775807 := by omega
                    have HWs : Aside0 (∀ W, Lib.IsBuilderF 31 5 B B (Lib.byteCells out) W → B ≤ W.heap.size → _) := ⟨fun W h1 h2 => Go.Proofs.YtehnomgjpnkfnaaDoor.Bld.writeString B B out ((x ++ y) ++ (⟨#[46]⟩ : ByteArray)) W h1 (by rw [ByteArray.size_append, ByteArray.size_append, show (⟨#[46]⟩ : ByteArray).size = 1 from rfl]; omega) h2⟩
                    go_wp2_with (first
                      | (go_at_call 15; with_reducible refine (HX.out _).mono ?_; rintro e w6 ⟨rfl, hb6⟩)
                      | (go_at_call 15; with_reducible refine (HY.out _).mono ?_; rintro e w7 ⟨rfl, hb7⟩)
                      | (go_at_call 14; refine (HWs.out _ (Go.Proofs.YtehnomgjpnkfnaaDoor.Bld.below (Go.Proofs.YtehnomgjpnkfnaaDoor.Bld.below HI.out hb6) hb7) (Nat.le_trans (Nat.le_trans HS.out hb6.size) hb7.size)).mono ?_; rintro e w8 ⟨rfl, h8, hb8, ho8⟩))
                    go_roundg d
                    case measure => omega
                    case rel => exact ⟨t + 1, z, _, rfl, by go_num, by omega, HN, ⟨h8⟩, ⟨impl_MovesOf.Row_others (impl_MovesOf.Row_below (impl_MovesOf.Row_below HRw.out hb6) hb7) ho8⟩, ⟨(below_step (below_step HB.out hb6) hb7).trans (hb8.mono (by omega))⟩, ⟨by have := hb8.size; have := hb7.size; have := hb6.size; have := HS.out; omega⟩⟩
                  · cases hL
                · cases hL
              · cases hL
            · obtain rfl : gk = 0 := by omega
              obtain rfl : t = L.length := by omega
              have hL := HO.out
              rw [List.drop_length, impl_MovesOf.go] at hL
              obtain rfl := Option.some.inj hL
              have HSt := Aside0.mk (Go.Proofs.YtehnomgjpnkfnaaDoor.Bld.toString_ B B out wr HI.out HS.out)
              go_wp2_with (go_at_call 16; refine HSt.out.mono ?_; rintro e w9 ⟨rfl, hb9⟩)
              go_ret2
              exact ⟨rfl, HB.out.trans (hb9.mono (by omega))⟩
        · cases h
      · cases h

end Go.Proofs.YtehnomgjpnkfnaaDoor.P

namespace Go.Proofs.YtehnomgjpnkfnaaDoor.P
open Go.RowKit Go.Proofs.YtehnomgjpnkfnaaDoorW.PrintWords Go.Proofs.YtehnomgjpnkfnaaDoorW.PrintLast Go.Proofs.YtehnomgjpnkfnaaDoorW.PrintMore
attribute [local go_sem] max2_int min2_int max_two min_two max_three min_three max_four min_four   -- for this text's walks alone
set_option linter.unusedVariables false
set_option linter.unusedSimpArgs false

/-! ### laws_FnExactMovesOf: function 3 -/
def laws_FnExactMovesOf.f (k : Nat) (a0 : ByteArray) (a1 : ByteArray) : Option (Bool) := if (a0.size : Int) > 1048576 then (some true) else (if (a1.size : Int) > 1048576 then (some true) else ((spec_MovesOf.f k a0 a1).bind fun bt122 => ((impl_MovesOf.f k a0 a1).bind fun bt124 => (if bt124.1.toList = bt122.1.toList then (if (bt124.2 != bt122.2) = true then (some false) else (some true)) else (some false)))))
theorem laws_FnExactMovesOf.mono : ∀ a0 a1 k, LeO (laws_FnExactMovesOf.f k a0 a1) (laws_FnExactMovesOf.f (k + 1) a0 a1) := by
  intro a0 a1 k
  unfold laws_FnExactMovesOf.f
  repeat' first
      | (with_reducible exact impl_MovesOf.mono _ _ _)
      | (with_reducible exact spec_MovesOf.mono _ _ _)
      | (with_reducible exact LeO.refl _)
      | (with_reducible exact LeO.none _)
      | (with_reducible refine LeO.ite ?_ ?_)
      | (with_reducible refine LeO.bind ?_ (fun _ => ?_))
      | exact impl_MovesOf.mono _ _ _
      | exact spec_MovesOf.mono _ _ _
      | exact LeO.none _
      | refine LeO.ite ?_ ?_
      | refine LeO.bind ?_ (fun _ => ?_)
set_option maxHeartbeats 8000000 in
set_option maxRecDepth 100000 in
theorem laws_FnExactMovesOf.calls (k : Nat) (a0 : ByteArray) (a1 : ByteArray) (r : Bool) (w : World) (h : laws_FnExactMovesOf.f k a0 a1 = some r) :
    Calls Tryd.prog 3 #[.string a0, .string a1] w fun e w' => e = .returned (.bool r) ∧ Below w.heap.size w w' := by
  have HB := Aside0.mk (Below.refl w.heap.size w)
  have H : (if (a0.size : Int) > 1048576 then (some true) else (if (a1.size : Int) > 1048576 then (some true) else ((spec_MovesOf.f k a0 a1).bind fun bt122 => ((impl_MovesOf.f k a0 a1).bind fun bt124 => (if bt124.1.toList = bt122.1.toList then (if (bt124.2 != bt122.2) = true then (some false) else (some true)) else (some false)))))) = some r := h
  clear h
  by_cases c3 : (a0.size : Int) > 1048576
  · rw [if_pos c3] at H
    have c3b0 : decide (1048576 < (a0.size : Int)) = true := decide_eq_true c3
    have c3b1 : decide (1048576 < a0.size) = true := decide_eq_true (by omega)
    clear c3
    obtain rfl := Option.some.inj H
    go_enter Tryd.func3, Tryd.ntmps3
    go_wp2
    go_ret
    exact ⟨by first | rfl | (simp [errW_none, errW_some] <;> rfl) | (simp [*, errW_none, errW_some] <;> rfl), by repeat (first | (with_reducible first | exact HB.out | apply below_alloc | apply pw_below_drewN | apply below_drew1) | exact HB.out)⟩
  · rw [if_neg c3] at H
    have c3b0 : decide (1048576 < (a0.size : Int)) = false := decide_eq_false c3
    have c3b1 : decide (1048576 < a0.size) = false := decide_eq_false (by omega)
    clear c3
    by_cases c4 : (a1.size : Int) > 1048576
    · rw [if_pos c4] at H
      have c4b0 : decide (1048576 < (a1.size : Int)) = true := decide_eq_true c4
      have c4b1 : decide (1048576 < a1.size) = true := decide_eq_true (by omega)
      clear c4
      obtain rfl := Option.some.inj H
      go_enter Tryd.func3, Tryd.ntmps3
      go_wp2
      go_ret
      exact ⟨by first | rfl | (simp [errW_none, errW_some] <;> rfl) | (simp [*, errW_none, errW_some] <;> rfl), by repeat (first | (with_reducible first | exact HB.out | apply below_alloc | apply pw_below_drewN | apply below_drew1) | exact HB.out)⟩
    · rw [if_neg c4] at H
      have c4b0 : decide (1048576 < (a1.size : Int)) = false := decide_eq_false c4
      have c4b1 : decide (1048576 < a1.size) = false := decide_eq_false (by omega)
      clear c4
      replace H := Option.bind_eq_some_iff.mp H
      obtain ⟨⟨t122, t123⟩, A50, H⟩ := H
      replace H : ((impl_MovesOf.f k a0 a1).bind fun bt124 => (if bt124.1.toList = t122.toList then (if (bt124.2 != t123) = true then (some false) else (some true)) else (some false))) = some r := H
      have A5 := Aside0.mk A50
      clear A50
      replace H := Option.bind_eq_some_iff.mp H
      obtain ⟨⟨t124, t125⟩, A60, H⟩ := H
      replace H : (if t124.toList = t122.toList then (if (t125 != t123) = true then (some false) else (some true)) else (some false)) = some r := H
      have A6 := Aside0.mk A60
      clear A60
      by_cases c7 : t124.toList = t122.toList
      · rw [if_pos c7] at H
        have c7b0 : (t124.toList == t122.toList) = true := beq_iff_eq.mpr c7
        have c7b1 : (t124.toList != t122.toList) = false := bne_eq_false_iff_eq.mpr c7
        clear c7
        by_cases c8 : (t125 != t123) = true
        · rw [if_pos c8] at H
          have c8b0 : (t125 != t123) = true := c8
          (try (have c8b1 : decide (t125 = t123) = false := by simpa using c8))
          (try (have c8b2 : (t125 == t123) = false := by simpa using c8))
          (try (have c8b3 : ¬ (t125 = t123) := by simpa using c8))
          clear c8
          obtain rfl := Option.some.inj H
          go_enter Tryd.func3, Tryd.ntmps3
          go_wp2_with (first | ((with_reducible refine gate_callee (f := 4) rfl ?_); refine goesL_ (some 18) rfl rfl Tryd.func4 (by kernel_rfl) rfl #[.string a0, .string a1] rfl (by (try simp only [List.map_toArray, List.map_cons, List.map_nil]); first | done | rfl | (simp only [List.length_drop, List.length_take]; rfl)) ?_; (with_reducible refine (spec_MovesOf.calls k a0 a1 t122 t123 _ A5.out).mono ?_); rintro e w' ⟨rfl, ⟨nd, rfl⟩⟩; refine ⟨_, rfl, ?_⟩) | ((with_reducible refine gate_callee (f := 5) rfl ?_); refine goesL_ (some 24) rfl rfl Tryd.func5 (by kernel_rfl) rfl #[.string a0, .string a1] rfl (by (try simp only [List.map_toArray, List.map_cons, List.map_nil]); first | done | rfl | (simp only [List.length_drop, List.length_take]; rfl)) ?_; (with_reducible refine (impl_MovesOf.calls k a0 a1 t124 t125 _ A6.out).mono ?_); rintro e w9 ⟨rfl, hb⟩; refine ⟨_, rfl, ?_⟩; have n0_ := Aside0.mk (below_step (by repeat (first | (with_reducible first | exact HB.out | apply below_alloc | apply pw_below_drewN | apply below_drew1) | exact HB.out)) hb); clear HB; have HB := n0_; clear n0_; (try clear hb); (try clear hb2); (try clear hk); (try clear hi)))
          go_ret
          exact ⟨by first | rfl | (simp [errW_none, errW_some] <;> rfl) | (simp [*, errW_none, errW_some] <;> rfl), by repeat (first | (with_reducible first | exact HB.out | apply below_alloc | apply pw_below_drewN | apply below_drew1) | exact HB.out)⟩
        · rw [if_neg c8] at H
          have c8b0 : (t125 != t123) = false := by simpa using c8
          (try (have c8b1 : decide (t125 = t123) = true := by simpa using c8))
          (try (have c8b2 : (t125 == t123) = true := by simpa using c8))
          clear c8
          obtain rfl := Option.some.inj H
          go_enter Tryd.func3, Tryd.ntmps3
          go_wp2_with (first | ((with_reducible refine gate_callee (f := 4) rfl ?_); refine goesL_ (some 18) rfl rfl Tryd.func4 (by kernel_rfl) rfl #[.string a0, .string a1] rfl (by (try simp only [List.map_toArray, List.map_cons, List.map_nil]); first | done | rfl | (simp only [List.length_drop, List.length_take]; rfl)) ?_; (with_reducible refine (spec_MovesOf.calls k a0 a1 t122 t123 _ A5.out).mono ?_); rintro e w' ⟨rfl, ⟨nd, rfl⟩⟩; refine ⟨_, rfl, ?_⟩) | ((with_reducible refine gate_callee (f := 5) rfl ?_); refine goesL_ (some 24) rfl rfl Tryd.func5 (by kernel_rfl) rfl #[.string a0, .string a1] rfl (by (try simp only [List.map_toArray, List.map_cons, List.map_nil]); first | done | rfl | (simp only [List.length_drop, List.length_take]; rfl)) ?_; (with_reducible refine (impl_MovesOf.calls k a0 a1 t124 t125 _ A6.out).mono ?_); rintro e w10 ⟨rfl, hb⟩; refine ⟨_, rfl, ?_⟩; have n0_ := Aside0.mk (below_step (by repeat (first | (with_reducible first | exact HB.out | apply below_alloc | apply pw_below_drewN | apply below_drew1) | exact HB.out)) hb); clear HB; have HB := n0_; clear n0_; (try clear hb); (try clear hb2); (try clear hk); (try clear hi)))
          go_ret
          exact ⟨by first | rfl | (simp [errW_none, errW_some] <;> rfl) | (simp [*, errW_none, errW_some] <;> rfl), by repeat (first | (with_reducible first | exact HB.out | apply below_alloc | apply pw_below_drewN | apply below_drew1) | exact HB.out)⟩
      · rw [if_neg c7] at H
        have c7b0 : (t124.toList == t122.toList) = false := beq_eq_false_iff_ne.mpr c7
        have c7b1 : (t124.toList != t122.toList) = true := bne_iff_ne.mpr c7
        obtain rfl := Option.some.inj H
        go_enter Tryd.func3, Tryd.ntmps3
        go_wp2_with (first | ((with_reducible refine gate_callee (f := 4) rfl ?_); refine goesL_ (some 18) rfl rfl Tryd.func4 (by kernel_rfl) rfl #[.string a0, .string a1] rfl (by (try simp only [List.map_toArray, List.map_cons, List.map_nil]); first | done | rfl | (simp only [List.length_drop, List.length_take]; rfl)) ?_; (with_reducible refine (spec_MovesOf.calls k a0 a1 t122 t123 _ A5.out).mono ?_); rintro e w' ⟨rfl, ⟨nd, rfl⟩⟩; refine ⟨_, rfl, ?_⟩) | ((with_reducible refine gate_callee (f := 5) rfl ?_); refine goesL_ (some 24) rfl rfl Tryd.func5 (by kernel_rfl) rfl #[.string a0, .string a1] rfl (by (try simp only [List.map_toArray, List.map_cons, List.map_nil]); first | done | rfl | (simp only [List.length_drop, List.length_take]; rfl)) ?_; (with_reducible refine (impl_MovesOf.calls k a0 a1 t124 t125 _ A6.out).mono ?_); rintro e w11 ⟨rfl, hb⟩; refine ⟨_, rfl, ?_⟩; have n0_ := Aside0.mk (below_step (by repeat (first | (with_reducible first | exact HB.out | apply below_alloc | apply pw_below_drewN | apply below_drew1) | exact HB.out)) hb); clear HB; have HB := n0_; clear n0_; (try clear hb); (try clear hb2); (try clear hk); (try clear hi)))
        go_ret
        exact ⟨by first | rfl | (simp [errW_none, errW_some] <;> rfl) | (simp [*, errW_none, errW_some] <;> rfl), by repeat (first | (with_reducible first | exact HB.out | apply below_alloc | apply pw_below_drewN | apply below_drew1) | exact HB.out)⟩

/-- THE ONE PURE STATEMENT of laws_FnExactMovesOf: yours. -/
def laws_FnExactMovesOf.Pure : Prop := ∀ (a0 : ByteArray) (a1 : ByteArray), a0.size ≤ 140737488351232 → a1.size ≤ 140737488351232 → ∃ k, laws_FnExactMovesOf.f k a0 a1 = some true
theorem laws_FnExactMovesOf.walk (P : laws_FnExactMovesOf.Pure) (a0 : ByteArray) (a1 : ByteArray) (w : World) (w0 : a0.size ≤ 140737488351232) (w1 : a1.size ≤ 140737488351232) :
    Calls Tryd.prog 3 #[.string a0, .string a1] w fun e w' => e = .returned (.bool true) ∧ Below w.heap.size w w' := by
  obtain ⟨k, h⟩ := P a0 a1 w0 w1
  refine (laws_FnExactMovesOf.calls k a0 a1 true w h).mono ?_
  rintro e w' ⟨rfl, hd⟩
  exact ⟨rfl, hd⟩

end Go.Proofs.YtehnomgjpnkfnaaDoor.P

namespace Go.Proofs.YtehnomgjpnkfnaaDoor.Pu
open Go.RowKit Go.Proofs.YtehnomgjpnkfnaaDoorW.PrintWords Go.Proofs.YtehnomgjpnkfnaaDoorW.PrintLast Go.Proofs.YtehnomgjpnkfnaaDoorW.PrintMore

/-! ### rounds -/
theorem ev_succ {α : Type} {g : Nat → Option α} {r : α} (h : Ev (fun k => g (k + 1)) r) : Ev g r := by
  obtain ⟨K, h⟩ := h
  refine ⟨K + 1, fun n hn => ?_⟩
  obtain ⟨m, rfl⟩ : ∃ m, n = m + 1 := ⟨n - 1, by omega⟩
  exact h m (by omega)
theorem ev_from {α : Type} {g : Nat → Option α} {r : α} (K : Nat) (h : ∀ k, K ≤ k → g (k + 1) = some r) : Ev g r := by
  refine ⟨K + 1, fun n hn => ?_⟩
  obtain ⟨m, rfl⟩ : ∃ m, n = m + 1 := ⟨n - 1, by omega⟩
  exact h m (by omega)
theorem ev_const {α : Type} {x : Option α} {r : α} (h : x = some r) : Ev (fun _ => x) r := ⟨0, fun _ _ => h⟩
/-- As Option.bind_some; its proof is no 'rfl', so the kernel is not asked to compare two binds. -/
theorem bsome {α β : Type} (a : α) (f : α → Option β) : (some a).bind f = f a := Option.bind_some a f
theorem ev_at {α : Type} {g : Nat → Option α} {r : α} (h : Ev g r) : ∃ k, g k = some r := h.rounds
theorem ev_both {α β : Type} {g : Nat → Option α} {f : Nat → Option β} {r : α} {q : β} (h : Ev g r) (h' : Ev f q) : ∃ K, ∀ k, K ≤ k → g k = some r ∧ f k = some q := by
  obtain ⟨K, h⟩ := h
  obtain ⟨K', h'⟩ := h'
  exact ⟨K + K', fun k hk => ⟨h k (by omega), h' k (by omega)⟩⟩
theorem ev_eq {α : Type} {g : Nat → Option α} {r r' : α} (h : Ev g r) (e : r = r') : Ev g r' := e ▸ h
theorem ev_unique {α : Type} {g : Nat → Option α} {r r' : α} (h : Ev g r) (h' : Ev g r') : r = r' := by
  obtain ⟨K, h⟩ := ev_both h h'
  have := h K (Nat.le_refl _)
  exact Option.some.inj (this.1.symm.trans this.2)

/-! ### numbers -/
theorem wr {x : Int} (h0 : -9223372036854775808 ≤ x) (h1 : x ≤ 9223372036854775807) : wrap64 x = x := by unfold wrap64; omega
theorem wr32 {x : Int} (h0 : -2147483648 ≤ x) (h1 : x ≤ 2147483647) : wrap32 x = x := by unfold wrap32; omega
theorem wf64 {x : Int} (h : (Lit.int .i64 x).wf = true) : -9223372036854775808 ≤ x ∧ x ≤ 9223372036854775807 := by
  simp only [Lit.wf] at h
  rw [Bool.and_eq_true] at h
  have h1 := of_decide_eq_true h.1
  have h2 := of_decide_eq_true h.2
  exact ⟨h1, h2⟩

/-! ### bytes -/
theorem bytes_ext {s t : ByteArray} (h : bytesOf s = bytesOf t) : s = t := by
  have h1 : s.data.toList = t.data.toList := by
    unfold bytesOf at h
    refine List.ext_getElem (by simpa using congrArg List.length h) fun i h1 h2 => ?_
    have := congrArg (fun l => l[i]?) h
    simp only [List.getElem?_map, List.getElem?_eq_getElem h1, List.getElem?_eq_getElem h2, Option.map_some, Option.some.injEq] at this
    exact UInt8.toNat_inj.1 (by omega)
  cases s; cases t
  simp only [ByteArray.mk.injEq]
  exact Array.toList_inj.1 h1
theorem size_bytes (s : ByteArray) : s.size = (bytesOf s).length := (bytesOf_length s).symm
theorem bt_bytes (s : ByteArray) (i : Int) : bt s i = (bytesOf s).getD i.toNat 0 := by rw [← rd_bytesOf]; rfl
theorem bytes_range (s : ByteArray) : ∀ c ∈ bytesOf s, 0 ≤ c ∧ c ≤ 255 := by
  intro c hc
  unfold bytesOf at hc
  obtain ⟨b, _, rfl⟩ := List.mem_map.1 hc
  have := b.toNat_lt
  omega
theorem bytes_nums {L : List Int} (h : ∀ c ∈ L, 0 ≤ c ∧ c ≤ 255) : bytesOf (strOfNums L) = L := by
  unfold bytesOf strOfNums
  simp only [List.map_map]
  conv => rhs; rw [← List.map_id L]
  refine List.map_congr_left fun c hc => ?_
  have := h c hc
  show ((UInt8.ofNat c.toNat).toNat : Int) = c
  rw [UInt8.toNat_ofNat']
  omega
theorem nums_bytes (s : ByteArray) : strOfNums (bytesOf s) = s := bytes_ext (bytes_nums (bytes_range s))
theorem size_nums (L : List Int) : (strOfNums L).size = L.length := by
  unfold strOfNums
  simp [ByteArray.size]
theorem nums_inj {L M : List Int} (h : ∀ c ∈ L, 0 ≤ c ∧ c ≤ 255) (h' : ∀ c ∈ M, 0 ≤ c ∧ c ≤ 255) (e : strOfNums L = strOfNums M) : L = M := by
  rw [← bytes_nums h, ← bytes_nums h', e]
theorem bytes_append (s t : ByteArray) : bytesOf (s ++ t) = bytesOf s ++ bytesOf t := by
  unfold bytesOf
  rw [ByteArray.data_append, Array.toList_append, List.map_append]
theorem bytes_extract (s : ByteArray) (a b : Nat) : bytesOf (s.extract a b) = ((bytesOf s).take b).drop a := by
  unfold bytesOf
  rw [ByteArray.data_extract, Array.toList_extract, List.extract_eq_take_drop, List.map_take, List.map_drop]
  rw [List.drop_take]
theorem numsApp (L M : List Int) : strOfNums (L ++ M) = strOfNums L ++ strOfNums M := by
  unfold strOfNums
  simp only [List.map_append]
  cases h : (ByteArray.mk (L.map fun x => x.toNat.toUInt8).toArray ++ ByteArray.mk (M.map fun x => x.toNat.toUInt8).toArray) with
  | mk d =>
    have := congrArg ByteArray.data h
    rw [ByteArray.data_append] at this
    simp only at this
    rw [← this]
    congr 1
    simp
theorem toList_bytes {s t : ByteArray} : s.toList = t.toList ↔ s = t := by
  rw [Lib.toList_data, Lib.toList_data]
  refine ⟨fun h => bytes_ext (by unfold bytesOf; rw [h]), fun h => by rw [h]⟩
theorem encode_small {c : Int} (h0 : 0 ≤ c) (h1 : c < 128) : Utf8.encode c = strOfNums [c] := by
  unfold Utf8.encode strOfNums
  have hv : Utf8.valid c = true := by unfold Utf8.valid; simp; omega
  have hc : c.toNat < 128 := by omega
  simp only [hv, if_true, hc]
  simp
theorem bytes_all {p : UInt8 → Bool} {q : Int → Bool} (h : ∀ b : UInt8, p b = q b.toNat) (s : ByteArray) : s.data.toList.all p = (bytesOf s).all q := by
  unfold bytesOf
  rw [List.all_map]
  congr 1
  funext b
  exact h b

theorem drop_bytes (s : ByteArray) (i : Nat) (h : i < s.size) : (bytesOf s).drop i = bt s i :: (bytesOf s).drop (i + 1) := by
  have hl : i < (bytesOf s).length := by rw [bytesOf_length]; exact h
  rw [List.drop_eq_getElem_cons hl, bt_bytes, Int.toNat_natCast, List.getD_eq_getElem?_getD, List.getElem?_eq_getElem hl]
  rfl
theorem drop_end (s : ByteArray) : (bytesOf s).drop s.size = [] := List.drop_eq_nil_of_le (by rw [bytesOf_length]; exact Nat.le_refl _)

theorem bt_mem (s : ByteArray) (i : Nat) (h : i < s.size) : bt s i ∈ bytesOf s := by
  have hd := drop_bytes s i h
  have : bt s i ∈ (bytesOf s).drop i := by rw [hd]; exact List.mem_cons_self
  exact List.mem_of_mem_drop this

/-! ### Trim against a list of signs -/
theorem dropWhile_nil_all {α : Type} (p : α → Bool) (l : List α) : l.dropWhile p = [] ↔ l.all p = true := by
  induction l with
  | nil => simp
  | cons a l ih =>
    rw [List.dropWhile_cons, List.all_cons]
    cases h : p a <;> simp [ih]
theorem trimS_nil (l cs : List UInt8) : Lib.trimS l cs = [] ↔ l.all (fun b => cs.contains b) = true := by
  unfold Lib.trimS Lib.trimLeftS Lib.trimRightS
  rw [dropWhile_nil_all]
  constructor
  · intro h
    have hr : ∀ (m : List UInt8), ((m.dropWhile (cs.contains ·)).reverse).all (fun b => cs.contains b) = true → m.all (fun b => cs.contains b) = true := by
      intro m
      induction m with
      | nil => simp
      | cons a m ih =>
        rw [List.dropWhile_cons]
        cases ha : cs.contains a with
        | true => intro h; rw [if_pos rfl] at h; simp only [List.all_cons, ha, Bool.true_and]; exact ih h
        | false => intro h; simp at h; simpa using And.intro h.2 h.1
    have := hr l.reverse h
    simpa using this
  · intro h
    have : l.reverse.dropWhile (cs.contains ·) = [] := (dropWhile_nil_all _ _).2 (by simpa using h)
    rw [this]
    rfl

end Go.Proofs.YtehnomgjpnkfnaaDoor.Pu

namespace Go.Proofs.YtehnomgjpnkfnaaDoor.Pu
open Go.RowKit Go.Proofs.YtehnomgjpnkfnaaDoor.P Go.Proofs.YtehnomgjpnkfnaaDoorW.PrintWords Go.Proofs.YtehnomgjpnkfnaaDoorW.PrintLast Go.Proofs.YtehnomgjpnkfnaaDoorW.PrintMore

def isPad (c : Int) : Bool := (decide (49 ≤ c) && decide (c ≤ 57)) || c == 42 || c == 48 || c == 35
/-- A key's place in the order of the pad. -/
def plN (c : Int) : Int := if 49 ≤ c then c - 49 else if c = 42 then 9 else if c = 48 then 10 else 11
/-- The key of a place. -/
def padC (p : Int) : Int := if p ≤ 8 then 49 + p else if p = 9 then 42 else if p = 10 then 48 else 35
theorem isPad_iff {c : Int} : isPad c = true ↔ (49 ≤ c ∧ c ≤ 57) ∨ c = 42 ∨ c = 48 ∨ c = 35 := by
  unfold isPad
  simp only [Bool.or_eq_true, Bool.and_eq_true, decide_eq_true_eq, beq_iff_eq]
  omega
theorem plN_range {c : Int} (h : isPad c = true) : 0 ≤ plN c ∧ plN c ≤ 11 := by
  have := isPad_iff.1 h
  unfold plN
  omega
theorem padC_plN {c : Int} (h : isPad c = true) : padC (plN c) = c := by
  have := isPad_iff.1 h
  unfold padC plN
  omega
theorem plN_padC {p : Int} (h : 0 ≤ p ∧ p ≤ 11) : plN (padC p) = p := by
  unfold padC plN
  omega
theorem padC_pad {p : Int} (h : 0 ≤ p ∧ p ≤ 11) : isPad (padC p) = true := by
  rw [isPad_iff]
  unfold padC
  omega
theorem padC_byte (p : Int) (h : 0 ≤ p) : 0 ≤ padC p ∧ padC p ≤ 255 := by
  unfold padC
  omega
theorem pad_contains (b : UInt8) : (⟨#[49, 50, 51, 52, 53, 54, 55, 56, 57, 42, 48, 35]⟩ : ByteArray).data.toList.contains b = isPad b.toNat := by
  have key : ∀ n : Fin 256, (⟨#[49, 50, 51, 52, 53, 54, 55, 56, 57, 42, 48, 35]⟩ : ByteArray).data.toList.contains (UInt8.ofNat n.val) = isPad (UInt8.ofNat n.val).toNat := by decide +kernel
  have := key ⟨b.toNat, b.toNat_lt⟩
  simpa using this
theorem pad_bt {p : Int} (h : 0 ≤ p ∧ p ≤ 11) : bt (⟨#[49, 50, 51, 52, 53, 54, 55, 56, 57, 42, 48, 35]⟩ : ByteArray) p = padC p := by
  have key : ∀ n : Fin 12, bt (⟨#[49, 50, 51, 52, 53, 54, 55, 56, 57, 42, 48, 35]⟩ : ByteArray) (n.val : Int) = padC (n.val : Int) := by decide +kernel
  have := key ⟨p.toNat, by omega⟩
  rwa [show ((p.toNat : Nat) : Int) = p by omega] at this
theorem pad_cut {p : Int} (h : 0 ≤ p ∧ p ≤ 11) : (⟨#[49, 50, 51, 52, 53, 54, 55, 56, 57, 42, 48, 35]⟩ : ByteArray).extract p.toNat (p + 1).toNat = strOfNums [padC p] := by
  have key : ∀ n : Fin 12, ((⟨#[49, 50, 51, 52, 53, 54, 55, 56, 57, 42, 48, 35]⟩ : ByteArray).extract n.val (n.val + 1)).data.toList = (strOfNums [padC (n.val : Int)]).data.toList := by decide +kernel
  have := key ⟨p.toNat, by omega⟩
  rw [show ((p.toNat : Nat) : Int) = p by omega] at this
  rw [show (p + 1).toNat = p.toNat + 1 by omega]
  exact bytes_ext (by unfold bytesOf; rw [this])
theorem place_is (c : Int) (h : isPad c = true) : impl_place.f c = some (plN c) := by
  have key : ∀ n : Fin 12, impl_place.f (padC (n.val : Int)) = some (n.val : Int) := by decide +kernel
  have hp := plN_range h
  have := key ⟨(plN c).toNat, by omega⟩
  rwa [show (((plN c).toNat : Nat) : Int) = plN c by omega, padC_plN h] at this
theorem thPlace_ev (c : Int) (h : 0 ≤ c ∧ c ≤ 255) : Ev (fun k => spec_thPlace.f k c) (if isPad c = true then plN c else -1) := by
  have key : ∀ n : Fin 256, spec_thPlace.f 14 (n.val : Int) = some (if isPad (n.val : Int) = true then plN (n.val : Int) else -1) := by decide +kernel
  have := key ⟨c.toNat, by omega⟩
  rw [show ((c.toNat : Nat) : Int) = c by omega] at this
  exact Ev.of (spec_thPlace.mono c) this
theorem thPlace_pad (c : Int) (h : isPad c = true) : Ev (fun k => spec_thPlace.f k c) (plN c) := by
  have h2 := isPad_iff.1 h
  have := thPlace_ev c ⟨by omega, by omega⟩
  rwa [if_pos h] at this

/-! ### texts of keys -/
def dialB (s : ByteArray) : Bool := decide (s.size ≤ 30) && (bytesOf s).all isPad
theorem dialB_iff {s : ByteArray} : dialB s = true ↔ s.size ≤ 30 ∧ ∀ c ∈ bytesOf s, isPad c = true := by
  unfold dialB
  simp [List.all_eq_true]
def oneB (s : ByteArray) : Bool := decide (s.size = 1) && dialB s
theorem oneB_iff {s : ByteArray} : oneB s = true ↔ s.size = 1 ∧ isPad (bt s 0) = true := by
  unfold oneB
  rw [Bool.and_eq_true, decide_eq_true_eq, dialB_iff]
  constructor
  · rintro ⟨h1, _, h2⟩
    exact ⟨h1, h2 _ (bt_mem s 0 (by omega))⟩
  · rintro ⟨h1, h2⟩
    refine ⟨h1, by omega, fun c hc => ?_⟩
    have := drop_bytes s 0 (by omega)
    rw [List.drop_zero, show (0 : Nat) + 1 = s.size by omega, drop_end] at this
    rw [this, List.mem_singleton] at hc
    rw [hc]
    exact h2
theorem isDialed_is (s : ByteArray) (hs : s.size ≤ 140737488351232) : impl_IsDialed.f s = some (dialB s) := by
  unfold impl_IsDialed.f dialB
  by_cases h : s.size ≤ 30
  · rw [if_pos (by omega)]
    unfold impl_over.f strings_Trim.f
    rw [if_pos (by omega), if_pos (by decide), if_pos (by decide), bsome, bsome, decide_eq_true h, Bool.true_and, ← bytes_all pad_contains]
    congr 1
    rw [Bool.eq_iff_iff, beq_iff_eq, Lib.toList_data, ← trimS_nil]
  · rw [if_neg (by omega), decide_eq_false h]
    rfl
theorem isKey_is (s : ByteArray) (hs : s.size ≤ 140737488351232) : impl_isKey.f s = some (oneB s) := by
  unfold impl_isKey.f oneB
  by_cases h : s.size = 1
  · rw [if_pos (by omega), isDialed_is s hs, bsome, decide_eq_true h]
    rfl
  · rw [if_neg (by omega), decide_eq_false h]
    rfl
theorem thGood_l0 (s : ByteArray) (hs : s.size ≤ 1000000) : ∀ (d i : Nat), i + d = s.size → Ev (fun k => spec_thGood.l0 k s i) (((bytesOf s).drop i).all isPad)
  | 0, i, h => by
    obtain rfl : i = s.size := by omega
    rw [drop_end]
    refine ev_from 0 fun k _ => ?_
    simp only [spec_thGood.l0]
    rw [if_neg (by omega)]
    rfl
  | d + 1, i, h => by
    obtain ⟨K, ih⟩ := thGood_l0 s hs d (i + 1) (by omega)
    obtain ⟨K0, h0⟩ := thPlace_ev (bt s i) (bytes_range s _ (bt_mem s i (by omega)))
    rw [drop_bytes s i (by omega), List.all_cons]
    refine ev_from (K0 + K) fun k hk => ?_
    have e := ih k (by omega)
    have e0 := h0 k (by omega)
    rw [show ((i + 1 : Nat) : Int) = (i : Int) + 1 from rfl] at e
    dsimp only at e e0
    simp only [spec_thGood.l0]
    rw [if_pos (by omega), if_pos (by omega), e0, bsome, wr (by omega) (by omega), e]
    cases hp : isPad (bt s i) with
    | false =>
      rw [show (if false = true then plN (bt s i) else (-1 : Int)) = -1 from rfl, if_pos (by omega)]; rfl
    | true =>
      have := plN_range hp
      rw [show (if true = true then plN (bt s i) else (-1 : Int)) = plN (bt s i) from rfl, if_neg (by omega)]; rfl
theorem thGood_ev (s : ByteArray) : Ev (fun k => spec_thGood.f k s) (dialB s) := by
  unfold dialB
  by_cases h : s.size ≤ 30
  · obtain ⟨K, e⟩ := thGood_l0 s (by omega) s.size 0 (by omega)
    refine ⟨K, fun k hk => ?_⟩
    have e := e k hk
    dsimp only at e ⊢
    unfold spec_thGood.f
    rw [if_neg (by omega), decide_eq_true h, Bool.true_and]
    exact e
  · refine ⟨0, fun k _ => ?_⟩
    dsimp only
    unfold spec_thGood.f
    rw [if_pos (by omega), decide_eq_false h]
    rfl
theorem thOne_ev (s : ByteArray) : Ev (fun k => spec_thOne.f k s) (oneB s) := by
  obtain ⟨K, e⟩ := thGood_ev s
  refine ⟨K, fun k hk => ?_⟩
  have e := e k hk
  dsimp only at e ⊢
  unfold spec_thOne.f oneB
  by_cases h : s.size = 1
  · rw [if_pos (by omega), e, bsome, decide_eq_true h]
    rfl
  · rw [if_neg (by omega), decide_eq_false h]
    rfl

/-! ### places and distances -/
def placesN (s : ByteArray) : List Int := (bytesOf s).map plN
theorem placesN_length (s : ByteArray) : (placesN s).length = s.size := by rw [placesN, List.length_map, bytesOf_length]
theorem placesN_range {s : ByteArray} (h : dialB s = true) : ∀ p ∈ placesN s, 0 ≤ p ∧ p ≤ 11 := by
  intro p hp
  obtain ⟨c, hc, rfl⟩ := List.mem_map.1 hp
  exact plN_range ((dialB_iff.1 h).2 c hc)
theorem places_l0 (s : ByteArray) (h : dialB s = true) : ∀ (d i : Nat) (A : List Int), i + d = s.size → A.length ≤ i → Ev (fun k => impl_places.l0 k s A s.size i) (A ++ ((bytesOf s).drop i).map plN)
  | 0, i, A, hi, hA => by
    obtain rfl : i = s.size := by omega
    rw [drop_end]
    refine ev_from 0 fun k _ => ?_
    simp only [impl_places.l0]
    rw [if_neg (by omega)]
    simp
  | d + 1, i, A, hi, hA => by
    have hs := (dialB_iff.1 h).1
    have hp := (dialB_iff.1 h).2 _ (bt_mem s i (by omega))
    obtain ⟨K, ih⟩ := places_l0 s h d (i + 1) (A ++ [plN (bt s i)]) (by omega) (by simp; omega)
    rw [drop_bytes s i (by omega)]
    refine ev_from K fun k hk => ?_
    have e := ih k (by omega)
    rw [show ((i + 1 : Nat) : Int) = (i : Int) + 1 from rfl] at e
    dsimp only at e
    simp only [impl_places.l0]
    rw [if_pos (by omega), if_pos (by omega), if_pos (by omega), place_is _ hp, bsome, if_pos (by omega), wr (by omega) (by omega), e]
    simp
theorem places_ev (s : ByteArray) (h : dialB s = true) : Ev (fun k => impl_places.f k s) (placesN s) := by
  obtain ⟨K, e⟩ := places_l0 s h s.size 0 [] (by omega) (by simp)
  exact ⟨K, fun k hk => by have e := e k hk; dsimp only at e; unfold impl_places.f placesN; simpa using e⟩


theorem drop_rd (L : List Int) (i : Nat) (h : i < L.length) : L.drop i = rd L i :: L.drop (i + 1) := by
  rw [List.drop_eq_getElem_cons h, rd, Int.toNat_natCast, List.getD_eq_getElem?_getD, List.getElem?_eq_getElem h]
  rfl
theorem drop_places (s : ByteArray) (i : Nat) (h : i < s.size) : (placesN s).drop i = plN (bt s i) :: (placesN s).drop (i + 1) := by
  unfold placesN
  rw [← List.map_drop, drop_bytes s i h, List.map_cons, List.map_drop]
/-! ### steps -/
def horN (n : Int) : List Int := if n < 0 then List.replicate (-n).toNat 108 else List.replicate n.toNat 114
def verN (n : Int) : List Int := if n < 0 then List.replicate (-n).toNat 117 else List.replicate n.toNat 100
def segN (p q : Int) : List Int := horN (q % 3 - p % 3) ++ verN (q / 3 - p / 3) ++ [46]
def movesN : List Int → Int → List Int
  | [], _ => []
  | q :: L, p => segN p q ++ movesN L q
theorem bytes_of_list {x : Option ByteArray} {L : List Int} (h : x.map (fun b => b.data.toList) = some (L.map fun c => c.toNat.toUInt8)) : x = some (strOfNums L) := by
  cases x with
  | none => cases h
  | some b =>
    have : b.data.toList = L.map fun c => c.toNat.toUInt8 := Option.some.inj h
    congr 1
    exact bytes_ext (by unfold bytesOf; rw [this]; unfold strOfNums; simp)
theorem stepsH_is {n : Int} (h : -3 ≤ n ∧ n ≤ 3) : spec_thSteps.f 12 n (⟨#[108]⟩ : ByteArray) (⟨#[114]⟩ : ByteArray) = some (strOfNums (horN n)) := by
  have key : ∀ m : Fin 7, (spec_thSteps.f 12 ((m.val : Int) - 3) (⟨#[108]⟩ : ByteArray) (⟨#[114]⟩ : ByteArray)).map (fun b => b.data.toList) = some ((horN ((m.val : Int) - 3)).map fun c => c.toNat.toUInt8) := by decide +kernel
  have := key ⟨(n + 3).toNat, by omega⟩
  rw [show (((n + 3).toNat : Nat) : Int) - 3 = n by omega] at this
  exact bytes_of_list this
theorem stepsV_is {n : Int} (h : -3 ≤ n ∧ n ≤ 3) : spec_thSteps.f 12 n (⟨#[117]⟩ : ByteArray) (⟨#[100]⟩ : ByteArray) = some (strOfNums (verN n)) := by
  have key : ∀ m : Fin 7, (spec_thSteps.f 12 ((m.val : Int) - 3) (⟨#[117]⟩ : ByteArray) (⟨#[100]⟩ : ByteArray)).map (fun b => b.data.toList) = some ((verN ((m.val : Int) - 3)).map fun c => c.toNat.toUInt8) := by decide +kernel
  have := key ⟨(n + 3).toNat, by omega⟩
  rw [show (((n + 3).toNat : Nat) : Int) - 3 = n by omega] at this
  exact bytes_of_list this
theorem repH_is {n : Int} (h : -3 ≤ n ∧ n ≤ 3) : impl_repeated.f (⟨#[108]⟩ : ByteArray) (⟨#[114]⟩ : ByteArray) n = some (strOfNums (horN n)) := by
  have key : ∀ m : Fin 7, (impl_repeated.f (⟨#[108]⟩ : ByteArray) (⟨#[114]⟩ : ByteArray) ((m.val : Int) - 3)).map (fun b => b.data.toList) = some ((horN ((m.val : Int) - 3)).map fun c => c.toNat.toUInt8) := by decide +kernel
  have := key ⟨(n + 3).toNat, by omega⟩
  rw [show (((n + 3).toNat : Nat) : Int) - 3 = n by omega] at this
  exact bytes_of_list this
theorem repV_is {n : Int} (h : -3 ≤ n ∧ n ≤ 3) : impl_repeated.f (⟨#[117]⟩ : ByteArray) (⟨#[100]⟩ : ByteArray) n = some (strOfNums (verN n)) := by
  have key : ∀ m : Fin 7, (impl_repeated.f (⟨#[117]⟩ : ByteArray) (⟨#[100]⟩ : ByteArray) ((m.val : Int) - 3)).map (fun b => b.data.toList) = some ((verN ((m.val : Int) - 3)).map fun c => c.toNat.toUInt8) := by decide +kernel
  have := key ⟨(n + 3).toNat, by omega⟩
  rw [show (((n + 3).toNat : Nat) : Int) - 3 = n by omega] at this
  exact bytes_of_list this
theorem dx_is {p q : Int} (hp : 0 ≤ p ∧ p ≤ 11) (hq : 0 ≤ q ∧ q ≤ 11) : wrap64 (Int.tmod q 3 - Int.tmod p 3) = q % 3 - p % 3 := by
  rw [Int.tmod_eq_emod_of_nonneg hq.1, Int.tmod_eq_emod_of_nonneg hp.1]
  exact wr (by omega) (by omega)
theorem dy_is {p q : Int} (hp : 0 ≤ p ∧ p ≤ 11) (hq : 0 ≤ q ∧ q ≤ 11) : wrap64 (wrap64 (Int.tdiv q 3) - wrap64 (Int.tdiv p 3)) = q / 3 - p / 3 := by
  rw [Int.tdiv_eq_ediv_of_nonneg hq.1, Int.tdiv_eq_ediv_of_nonneg hp.1, wr (x := q / 3) (by omega) (by omega), wr (x := p / 3) (by omega) (by omega)]
  exact wr (by omega) (by omega)
theorem horN_length {n : Int} (h : -3 ≤ n ∧ n ≤ 3) : (horN n).length ≤ 3 := by
  unfold horN
  split <;> rw [List.length_replicate] <;> omega
theorem verN_length {n : Int} (h : -3 ≤ n ∧ n ≤ 3) : (verN n).length ≤ 3 := by
  unfold verN
  split <;> rw [List.length_replicate] <;> omega
theorem nums_data (L : List Int) : (strOfNums L).data.toList = L.map fun c => c.toNat.toUInt8 := by
  unfold strOfNums
  simp
theorem moves_go : ∀ (L : List Int) (p : Int) (A : List Int), (∀ q ∈ L, 0 ≤ q ∧ q ≤ 11) → (0 ≤ p ∧ p ≤ 11) → A.length + 7 * L.length ≤ 1000000 →
    impl_MovesOf.go L p (A.map fun c => c.toNat.toUInt8) = some ((A ++ movesN L p).map fun c => c.toNat.toUInt8)
  | [], p, A, _, _, _ => by simp [impl_MovesOf.go, movesN]
  | q :: L, p, A, hL, hp, hA => by
    have hq := hL q List.mem_cons_self
    rw [List.length_cons] at hA
    have h1 := horN_length (n := q % 3 - p % 3) (by omega)
    have h2 := verN_length (n := q / 3 - p / 3) (by omega)
    have ih := moves_go L q (A ++ segN p q) (fun x hx => hL x (List.mem_cons_of_mem q hx)) hq (by
      unfold segN
      rw [List.length_append, List.length_append, List.length_append, List.length_singleton]
      omega)
    rw [impl_MovesOf.go, dx_is hp hq, dy_is hp hq, repH_is (by omega), bsome, repV_is (by omega), bsome, if_pos (by rw [size_nums]; omega), if_pos (by rw [size_nums]; omega), if_pos (by rw [List.length_map]; omega)]
    rw [show (⟨#[46]⟩ : ByteArray) = strOfNums [46] from rfl, ← numsApp, ← numsApp, nums_data, ← List.map_append]
    rw [show horN (q % 3 - p % 3) ++ verN (q / 3 - p / 3) ++ [46] = segN p q from rfl, ih, movesN, List.append_assoc]
theorem movesS_l0 (s : ByteArray) (h : dialB s = true) : ∀ (d i : Nat) (A : List Int) (p : Int), i + d = s.size → (0 ≤ p ∧ p ≤ 11) → A.length ≤ 7 * i → Ev (fun k => spec_MovesOf.l0 k s (strOfNums A) p i) (strOfNums (A ++ movesN ((placesN s).drop i) p), true)
  | 0, i, A, p, hi, hp, hA => by
    obtain rfl : i = s.size := by omega
    rw [← placesN_length s, List.drop_length]
    refine ev_from 0 fun k _ => ?_
    simp only [spec_MovesOf.l0]
    rw [placesN_length, if_neg (by omega)]
    simp [movesN]
  | d + 1, i, A, p, hi, hp, hA => by
    have hs := (dialB_iff.1 h).1
    have hc := (dialB_iff.1 h).2 _ (bt_mem s i (by omega))
    have hq := plN_range hc
    have h1 := horN_length (n := plN (bt s i) % 3 - p % 3) (by omega)
    have h2 := verN_length (n := plN (bt s i) / 3 - p / 3) (by omega)
    obtain ⟨K1, e1⟩ := thPlace_pad _ hc
    obtain ⟨K2, e2⟩ := Ev.of (spec_thSteps.mono _ _ _) (stepsH_is (n := plN (bt s i) % 3 - p % 3) (by omega))
    obtain ⟨K3, e3⟩ := Ev.of (spec_thSteps.mono _ _ _) (stepsV_is (n := plN (bt s i) / 3 - p / 3) (by omega))
    obtain ⟨K, ih⟩ := movesS_l0 s h d (i + 1) (A ++ segN p (plN (bt s i))) (plN (bt s i)) (by omega) hq (by
      unfold segN
      rw [List.length_append, List.length_append, List.length_append, List.length_singleton]
      omega)
    rw [drop_places s i (by omega)]
    refine ev_from (K + K1 + K2 + K3) fun k hk => ?_
    have e := ih k (by omega)
    have e1 := e1 k (by omega)
    have e2 := e2 k (by omega)
    have e3 := e3 k (by omega)
    rw [show ((i + 1 : Nat) : Int) = (i : Int) + 1 from rfl] at e
    dsimp only at e e1 e2 e3
    simp only [spec_MovesOf.l0]
    rw [if_pos (by omega), if_pos (by omega), e1, bsome, dx_is hp hq, dy_is hp hq, e2, bsome, e3, bsome, if_pos (by rw [size_nums, size_nums]; omega), if_pos (by rw [ByteArray.size_append, size_nums, size_nums]; omega),
      if_pos (by rw [ByteArray.size_append, ByteArray.size_append, size_nums, size_nums, size_nums, show (⟨#[46]⟩ : ByteArray).size = 1 from rfl]; omega), wr (by omega) (by omega)]
    rw [show (⟨#[46]⟩ : ByteArray) = strOfNums [46] from rfl, ← numsApp, ← numsApp, ← numsApp]
    rw [show horN (plN (bt s i) % 3 - p % 3) ++ verN (plN (bt s i) / 3 - p / 3) ++ [46] = segN p (plN (bt s i)) from rfl, e, movesN, List.append_assoc]
def movT (s t : ByteArray) : ByteArray × Bool := if (dialB s && oneB t) = true then (strOfNums (movesN (placesN s) (plN (bt t 0))), true) else ((⟨#[]⟩ : ByteArray), false)
theorem movesS_ev (s t : ByteArray) : Ev (fun k => spec_MovesOf.f k s t) (movT s t) := by
  obtain ⟨K0, e0⟩ := thGood_ev s
  obtain ⟨K1, e1⟩ := thOne_ev t
  unfold movT
  cases h0 : dialB s with
  | false =>
    refine ⟨K0 + 1, fun k hk => ?_⟩
    obtain ⟨k, rfl⟩ : ∃ m, k = m + 1 := ⟨k - 1, by omega⟩
    have e0 := e0 (k + 1) (by omega)
    rw [h0] at e0
    dsimp only at e0 ⊢
    unfold spec_MovesOf.f
    rw [e0, bsome, if_neg (by simp)]
    simp [spec_MovesOf.j0]
  | true =>
    cases h1 : oneB t with
    | false =>
      refine ⟨K0 + K1 + 1, fun k hk => ?_⟩
      obtain ⟨k, rfl⟩ : ∃ m, k = m + 1 := ⟨k - 1, by omega⟩
      have e0 := e0 (k + 1) (by omega)
      have e1 := e1 (k + 1) (by omega)
      rw [h0] at e0
      rw [h1] at e1
      dsimp only at e0 e1 ⊢
      unfold spec_MovesOf.f
      rw [e0, bsome, if_pos rfl, e1, bsome]
      simp [spec_MovesOf.j0]
    | true =>
      obtain ⟨ht, hc⟩ := oneB_iff.1 h1
      have hp := plN_range hc
      obtain ⟨K2, e2⟩ := thPlace_pad _ hc
      obtain ⟨K3, e3⟩ := movesS_l0 s h0 s.size 0 [] (plN (bt t 0)) (by omega) hp (by simp)
      refine ⟨K0 + K1 + K2 + K3 + 1, fun k hk => ?_⟩
      obtain ⟨k, rfl⟩ : ∃ m, k = m + 1 := ⟨k - 1, by omega⟩
      have e0 := e0 (k + 1) (by omega)
      have e1 := e1 (k + 1) (by omega)
      have e2 := e2 k (by omega)
      have e3 := e3 k (by omega)
      rw [h0] at e0
      rw [h1] at e1
      rw [List.nil_append, List.drop_zero] at e3
      dsimp only at e0 e1 e2 e3 ⊢
      unfold spec_MovesOf.f
      rw [e0, bsome, if_pos rfl, e1, bsome]
      simp only [spec_MovesOf.j0, Bool.not_true]
      rw [if_neg (by simp), if_pos (by omega), e2, bsome]
      exact e3
theorem movesI_ev (s t : ByteArray) (hs : s.size ≤ 140737488351232) (ht : t.size ≤ 140737488351232) : Ev (fun k => impl_MovesOf.f k s t) (movT s t) := by
  have e0 := isDialed_is s hs
  have e1 := isKey_is t ht
  unfold movT
  cases h0 : dialB s with
  | false =>
    rw [h0] at e0
    exact ⟨0, fun k _ => by dsimp only; unfold impl_MovesOf.f; rw [e0, bsome, if_neg (by simp)]; rfl⟩
  | true =>
    rw [h0] at e0
    cases h1 : oneB t with
    | false =>
      rw [h1] at e1
      exact ⟨0, fun k _ => by dsimp only; unfold impl_MovesOf.f; rw [e0, bsome, if_pos rfl, e1, bsome, if_neg (by simp)]; rfl⟩
    | true =>
      rw [h1] at e1
      obtain ⟨hts, hc⟩ := oneB_iff.1 h1
      have hsz := (dialB_iff.1 h0).1
      have hp := plN_range hc
      obtain ⟨K, e⟩ := places_ev s h0
      have hg := moves_go (placesN s) (plN (bt t 0)) [] (placesN_range h0) hp (by rw [placesN_length, List.length_nil]; omega)
      refine ⟨K, fun k hk => ?_⟩
      have e := e k hk
      dsimp only at e ⊢
      unfold impl_MovesOf.f
      rw [e0, bsome, if_pos rfl, e1, bsome, if_pos rfl, if_pos (by omega), place_is _ hc, bsome, e, bsome, if_pos (by rw [placesN_length]; omega), show ([] : List UInt8) = ([] : List Int).map (fun c => c.toNat.toUInt8) from rfl, hg, bsome, if_pos (by rfl)]
      rfl
end Go.Proofs.YtehnomgjpnkfnaaDoor.Pu

namespace Go.Proofs.YtehnomgjpnkfnaaDoor.Pure
open Go.RowKit Go.Proofs.YtehnomgjpnkfnaaDoor.P Go.Proofs.YtehnomgjpnkfnaaDoor.Pu Go.Proofs.YtehnomgjpnkfnaaDoorW.PrintWords Go.Proofs.YtehnomgjpnkfnaaDoorW.PrintLast

theorem FnExactMovesOf : laws_FnExactMovesOf.Pure := by
  intro s t hs ht
  obtain ⟨K, h⟩ := ev_both (movesS_ev s t) (movesI_ev s t hs ht)
  obtain ⟨e1, e2⟩ := h K (Nat.le_refl _)
  refine ⟨K, ?_⟩
  unfold laws_FnExactMovesOf.f
  rw [e1, e2]
  simp
end Go.Proofs.YtehnomgjpnkfnaaDoor.Pure

