/-
  DERIVED: THE SHELF's CONTRACTS AT THIS DUMP, IN PLAIN WORDS (tools/lay-plain.mjs out of 'TryShelf.lean', which tools/lay-shelf.mjs wrote): THE SAME DECLARATIONS UNDER THE SAME NAMES: 'import', 'namespace', 'open', 'def', 'theorem' AND NOTHING ELSE: no command of the shelf's: FOR A HAND-IN. Each laying: the table of numbers ('.._ren') and one theorem, a field a fact of the dump's own or the kernel's comparison; each contract: ONE APPLICATION.
-/
import Derived.Shelf.Strings.Builder1
import Derived.Shelf.Strings.Builder2
import Derived.Shelf.Strings.BuilderF
import Derived.Shelf.Strings.Prefix
import Derived.Shelf.Bits.Mul64
import Derived.Shelf.Strings.Repeat
import Derived.Test.YtdcmmnindlhghaaProg
import Derived.WalkKit
import Derived.WalkSpells
import Derived.Laws.Pointers
import Derived.RowKit3
import Derived.Below
import Derived.Outline
import Derived.LoopN
import Derived.Lib.Hide
import Derived.Handy
import Derived.Laws.Bits64b
import Derived.Test.YtdcmmnindlhghaaPtK
import Derived.Test.YtdcmmnindlhghaaPtN
import Derived.Test.YtdcmmnindlhghaaPtE
import Derived.Test.YtdcmmnindlhghaaEqS
set_option linter.unusedSimpArgs false
set_option linter.unusedVariables false
namespace Go.Proofs
open Go.Shelf

def Try.lays170_ren : Go.Shelf.Ren := ⟨fun | 170 => 62 | n => n, fun | 70 => 90 | 3 => 3 | 0 => 0 | 72 => 92 | 37 => 62 | 5 => 5 | n => n, fun | n => n⟩
theorem Try.lays170 : Go.Proofs.Lays.n170 Try.prog Try.lays170_ren := {
 mixed := by kernel_rfl
 f170 := Try.func62.trans (congrArg some (by kernel_rfl))
 t0 := Try.underlying0
 a0 := Try.isAgg0
 z0 := Try.sizeOf0
 v0 := Try.zeroValue0
 t3 := Try.underlying3
 a3 := Try.isAgg3
 z3 := Try.sizeOf3
 v3 := Try.zeroValue3
 t37 := Try.underlying62
 a37 := Try.isAgg62
 z37 := Try.sizeOf62
 v37 := Try.zeroValue62
 t70 := Try.underlying90
 a70 := Try.isAgg90
 z70 := Try.sizeOf90
 v70 := Try.zeroValue90
 t72 := Try.underlying92
 a72 := Try.isAgg92
 z72 := Try.sizeOf92
 v72 := Try.zeroValue92 }
open Go.RowKit in
/-- (*strings.Builder).Len: "Len returns the number of accumulated bytes; b.Len() == len(b.String()).": the world is as it was. (LAID: no walk: one application.) -/
theorem Try.Builder_Len (B b : Nat) (bs : List Value) (w : World) (h : Lib.IsBuilder 92 5 B b bs w) :
  Calls Try.prog 62 #[.pointer (some ⟨b, 0, none⟩)] w fun e w' => e = .returned (.int .i64 bs.length) ∧ w' = w := Any.Builder_Len Try.lays170 B b bs w h
def Try.lays169_ren : Go.Shelf.Ren := ⟨fun | 169 => 63 | n => n, fun | 70 => 90 | 9 => 9 | 0 => 0 | 72 => 92 | 37 => 62 | 127 => 119 | 3 => 3 | 5 => 5 | n => n, fun | n => n⟩
theorem Try.lays169 : Go.Proofs.Lays.n169 Try.prog Try.lays169_ren := {
 mixed := by kernel_rfl
 f169 := Try.func63.trans (congrArg some (by kernel_rfl))
 t0 := Try.underlying0
 a0 := Try.isAgg0
 z0 := Try.sizeOf0
 v0 := Try.zeroValue0
 t3 := Try.underlying3
 a3 := Try.isAgg3
 z3 := Try.sizeOf3
 v3 := Try.zeroValue3
 t9 := Try.underlying9
 a9 := Try.isAgg9
 z9 := Try.sizeOf9
 v9 := Try.zeroValue9
 t37 := Try.underlying62
 a37 := Try.isAgg62
 z37 := Try.sizeOf62
 v37 := Try.zeroValue62
 t70 := Try.underlying90
 a70 := Try.isAgg90
 z70 := Try.sizeOf90
 v70 := Try.zeroValue90
 t72 := Try.underlying92
 a72 := Try.isAgg92
 z72 := Try.sizeOf92
 v72 := Try.zeroValue92
 t127 := Try.underlying119
 a127 := Try.isAgg119
 z127 := Try.sizeOf119
 v127 := Try.zeroValue119 }
theorem Try.Builder_Extra_169 : Builder.Extra Try.prog Try.lays169_ren := {
 sizeBuilder := by kernel_rfl
 liesBuilder := by kernel_rfl
 t5 := Try.underlying5
 a5 := Try.isAgg5
 z5 := Try.sizeOf5
 v5 := Try.zeroValue5
 infoByte := by kernel_rfl
 cellsByte := by kernel_rfl
 sizeByte := by kernel_rfl
 neB5 := by decide }
open Go.RowKit in
/-- (*strings.Builder).String: "String returns the accumulated string.": OF A BUILDER THAT HOLDS AT LEAST ONE BYTE. ✋ THE MODEL FREEZES THOSE BYTES IN THE BUFFER (unsafe.String): a later write INTO them ends the model's run without an answer; a later append BEHIND them goes on. The statement's order of evaluation is drawn: one draw. (LAID: no walk: one application.) -/
theorem Try.Builder_String (B b : Nat) (l : List UInt8) (w : World) (h : Lib.IsBuilder 92 5 B b (Lib.byteCells l) w) (h0 : l ≠ []) :
  Calls Try.prog 63 #[.pointer (some ⟨b, 0, none⟩)] w fun e w' => e = .returned (.string ⟨l.toArray⟩) ∧ Below B w w' := Any.Builder_String Try.lays169 Try.Builder_Extra_169 B b l w h h0
open Go.RowKit in
/-- (*strings.Builder).String OF A BUILDER THAT HOLDS NO BYTE: the empty string. (Its buffer is nil, or a row of which it has taken nothing yet; where that row has NO capacity the model lays one new block for unsafe.SliceData's 'some address'.) One draw. (LAID: no walk: one application.) -/
theorem Try.Builder_String_empty (B b : Nat) (w : World) (h : Lib.IsBuilder 92 5 B b [] w) (hBw : B ≤ w.heap.size) :
  Calls Try.prog 63 #[.pointer (some ⟨b, 0, none⟩)] w fun e w' => e = .returned (.string ⟨#[]⟩) ∧ Below B w w' := Any.Builder_String_empty Try.lays169 Try.Builder_Extra_169 B b w h hBw
open Go.RowKit in
/-- (*strings.Builder).String: "String returns the accumulated string.": WHATEVER THE BUILDER HOLDS. (LAID: no walk: one application.) -/
theorem Try.Builder_String_any (B b : Nat) (l : List UInt8) (w : World) (h : Lib.IsBuilder 92 5 B b (Lib.byteCells l) w) (hBw : B ≤ w.heap.size) :
  Calls Try.prog 63 #[.pointer (some ⟨b, 0, none⟩)] w fun e w' => e = .returned (.string ⟨l.toArray⟩) ∧ Below B w w' := Any.Builder_String_any Try.lays169 Try.Builder_Extra_169 B b l w h hBw
def Try.lays241_ren : Go.Shelf.Ren := ⟨fun | 241 => 87 | 277 => 91 | n => n, fun | 70 => 90 | 3 => 3 | 0 => 0 | 72 => 92 | 37 => 62 | 5 => 5 | n => n, fun | n => n⟩
theorem Try.lays241 : Go.Proofs.Lays.n241 Try.prog Try.lays241_ren := {
 mixed := by kernel_rfl
 f241 := Try.func87.trans (congrArg some (by kernel_rfl))
 f277 := Try.func91.trans (congrArg some (by kernel_rfl))
 t0 := Try.underlying0
 a0 := Try.isAgg0
 z0 := Try.sizeOf0
 v0 := Try.zeroValue0
 t3 := Try.underlying3
 a3 := Try.isAgg3
 z3 := Try.sizeOf3
 v3 := Try.zeroValue3
 t37 := Try.underlying62
 a37 := Try.isAgg62
 z37 := Try.sizeOf62
 v37 := Try.zeroValue62
 t70 := Try.underlying90
 a70 := Try.isAgg90
 z70 := Try.sizeOf90
 v70 := Try.zeroValue90
 t72 := Try.underlying92
 a72 := Try.isAgg92
 z72 := Try.sizeOf92
 v72 := Try.zeroValue92 }
theorem Try.Builder_Extra_241 : Builder.Extra Try.prog Try.lays241_ren := {
 sizeBuilder := by kernel_rfl
 liesBuilder := by kernel_rfl
 t5 := Try.underlying5
 a5 := Try.isAgg5
 z5 := Try.sizeOf5
 v5 := Try.zeroValue5
 infoByte := by kernel_rfl
 cellsByte := by kernel_rfl
 sizeByte := by kernel_rfl
 neB5 := by decide }
open Go.RowKit in
/-- (*strings.Builder).grow (no doc but "grow copies the buffer to a new, larger buffer so that there are at least n bytes of capacity beyond len(b.buf)."): AT A BUILDER WITHOUT A BUFFER: a new row of whatever bytes for its buffer, none of them its own yet. Three draws. (LAID: no walk: one application.) -/
theorem Try.Builder_grow_fresh (B b n : Nat) (w : World) (hB : B ≤ b) (hbk : w.heap[b]? = some (.cells #[.pointer (some ⟨b, 0, none⟩), .slice none 0 0] 92 (0, 0))) (hBw : B ≤ w.heap.size) (hn : n ≤ 281474976710656) :
  Calls Try.prog 87 #[.pointer (some ⟨b, 0, none⟩), .int .i64 n] w fun e w' => e = .returned (.tuple #[]) ∧ (Lib.BuilderAt 92 5 B b (.pointer (some ⟨b, 0, none⟩)) [] w' ∧ Below B w w') := Any.Builder_grow_fresh Try.lays241 Try.Builder_Extra_241 B b n w hB hbk hBw hn
def Try.lays165_ren : Go.Shelf.Ren := ⟨fun | 165 => 60 | 240 => 86 | 241 => 87 | 276 => 90 | 277 => 91 | n => n, fun | 70 => 90 | 3 => 3 | 0 => 0 | 4 => 4 | 9 => 9 | 20 => 20 | 72 => 92 | 37 => 62 | 164 => 120 | 5 => 5 | n => n, fun | n => n⟩
theorem Try.lays165 : Go.Proofs.Lays.n165 Try.prog Try.lays165_ren := {
 mixed := by kernel_rfl
 f165 := Try.func60.trans (congrArg some (by kernel_rfl))
 f240 := Try.func86.trans (congrArg some (by kernel_rfl))
 f241 := Try.func87.trans (congrArg some (by kernel_rfl))
 f276 := Try.func90.trans (congrArg some (by kernel_rfl))
 f277 := Try.func91.trans (congrArg some (by kernel_rfl))
 t0 := Try.underlying0
 a0 := Try.isAgg0
 z0 := Try.sizeOf0
 v0 := Try.zeroValue0
 t3 := Try.underlying3
 a3 := Try.isAgg3
 z3 := Try.sizeOf3
 v3 := Try.zeroValue3
 t4 := Try.underlying4
 a4 := Try.isAgg4
 z4 := Try.sizeOf4
 v4 := Try.zeroValue4
 t9 := Try.underlying9
 a9 := Try.isAgg9
 z9 := Try.sizeOf9
 v9 := Try.zeroValue9
 t20 := Try.underlying20
 a20 := Try.isAgg20
 z20 := Try.sizeOf20
 v20 := Try.zeroValue20
 t37 := Try.underlying62
 a37 := Try.isAgg62
 z37 := Try.sizeOf62
 v37 := Try.zeroValue62
 t70 := Try.underlying90
 a70 := Try.isAgg90
 z70 := Try.sizeOf90
 v70 := Try.zeroValue90
 t72 := Try.underlying92
 a72 := Try.isAgg92
 z72 := Try.sizeOf92
 v72 := Try.zeroValue92
 t164 := Try.underlying120
 a164 := Try.isAgg120
 z164 := Try.sizeOf120
 v164 := Try.zeroValue120 }
theorem Try.Builder_Extra_165 : Builder.Extra Try.prog Try.lays165_ren := {
 sizeBuilder := by kernel_rfl
 liesBuilder := by kernel_rfl
 t5 := Try.underlying5
 a5 := Try.isAgg5
 z5 := Try.sizeOf5
 v5 := Try.zeroValue5
 infoByte := by kernel_rfl
 cellsByte := by kernel_rfl
 sizeByte := by kernel_rfl
 neB5 := by decide }
open Go.RowKit in
/-- (*strings.Builder).Grow AT A BUILDER THAT HAS NOT BEEN WRITTEN ('var b strings.Builder; b.Grow(n)'): "Grow grows b's capacity, if necessary, to guarantee space for another n bytes.": it holds no byte behind it as before it. (LAID: no walk: one application.) -/
theorem Try.Builder_Grow_fresh (B b n : Nat) (w : World) (hB : B ≤ b) (hbk : w.heap[b]? = some (.cells #[.pointer none, .slice none 0 0] 92 (0, 0))) (hBw : B ≤ w.heap.size) (hn : n ≤ 281474976710656) :
  Calls Try.prog 60 #[.pointer (some ⟨b, 0, none⟩), .int .i64 n] w fun e w' => e = .returned (.tuple #[]) ∧ (Lib.BuilderAt 92 5 B b (.pointer (some ⟨b, 0, none⟩)) [] w' ∧ Below B w w') := Any.Builder_Grow_fresh Try.lays165 Try.Builder_Extra_165 B b n w hB hbk hBw hn
open Go.RowKit in
/-- (*strings.Builder).Len: "Len returns the number of accumulated bytes; b.Len() == len(b.String()).": the world is as it was. (THE FORM '_f': 'Lib.IsBuilderF'.) (LAID: no walk: one application.) -/
theorem Try.Builder_Len_f (B b : Nat) (bs : List Value) (w : World) (h : Lib.IsBuilderF 92 5 B b bs w) :
  Calls Try.prog 62 #[.pointer (some ⟨b, 0, none⟩)] w fun e w' => e = .returned (.int .i64 bs.length) ∧ w' = w := Any.Builder_Len_f Try.lays170 B b bs w h
open Go.RowKit in
/-- (*strings.Builder).String: "String returns the accumulated string.": OF A BUILDER THAT HOLDS AT LEAST ONE BYTE. ✋ THE MODEL FREEZES THOSE BYTES IN THE BUFFER (unsafe.String): a later write INTO them ends the model's run without an answer; a later append BEHIND them goes on. The statement's order of evaluation is drawn: one draw. THE FORM '_f': IT SAYS BESIDES THAT THE BUILDER IS A BUILDER STILL ('Lib.IsBuilderF', the same bytes): SO IT CAN BE WRITTEN ON: 'b.WriteString(b.String()[:k])'. (LAID: no walk: one application.) -/
theorem Try.Builder_String_f (B b : Nat) (l : List UInt8) (w : World) (h : Lib.IsBuilderF 92 5 B b (Lib.byteCells l) w) (h0 : l ≠ []) :
  Calls Try.prog 63 #[.pointer (some ⟨b, 0, none⟩)] w fun e w' => e = .returned (.string ⟨l.toArray⟩) ∧ (Lib.IsBuilderF 92 5 B b (Lib.byteCells l) w' ∧ Below B w w') := Any.Builder_String_f Try.lays169 Try.Builder_Extra_169 B b l w h h0
open Go.RowKit in
/-- (*strings.Builder).String OF A BUILDER THAT HOLDS NO BYTE: the empty string; THE FORM '_f': a builder still. (LAID: no walk: one application.) -/
theorem Try.Builder_String_empty_f (B b : Nat) (w : World) (h : Lib.IsBuilderF 92 5 B b [] w) (hBw : B ≤ w.heap.size) :
  Calls Try.prog 63 #[.pointer (some ⟨b, 0, none⟩)] w fun e w' => e = .returned (.string ⟨#[]⟩) ∧ (Lib.IsBuilderF 92 5 B b [] w' ∧ Below B w w') := Any.Builder_String_empty_f Try.lays169 Try.Builder_Extra_169 B b w h hBw
open Go.RowKit in
/-- (*strings.Builder).String: "String returns the accumulated string.": WHATEVER THE BUILDER HOLDS; THE FORM '_f': OF A BUILDER THAT MAY HAVE BEEN READ BEFORE; AND IT IS A BUILDER STILL, holding the same bytes: it can be written on. (LAID: no walk: one application.) -/
theorem Try.Builder_String_any_f (B b : Nat) (l : List UInt8) (w : World) (h : Lib.IsBuilderF 92 5 B b (Lib.byteCells l) w) (hBw : B ≤ w.heap.size) :
  Calls Try.prog 63 #[.pointer (some ⟨b, 0, none⟩)] w fun e w' => e = .returned (.string ⟨l.toArray⟩) ∧ (Lib.IsBuilderF 92 5 B b (Lib.byteCells l) w' ∧ Below B w w') := Any.Builder_String_any_f Try.lays169 Try.Builder_Extra_169 B b l w h hBw
def Try.lays206_ren : Go.Shelf.Ren := ⟨fun | 206 => 85 | n => n, fun | 9 => 9 | 4 => 4 | 3 => 3 | n => n, fun | n => n⟩
theorem Try.lays206 : Go.Proofs.Lays.n206 Try.prog Try.lays206_ren := {
 mixed := by kernel_rfl
 f206 := Try.func85.trans (congrArg some (by kernel_rfl))
 t3 := Try.underlying3
 a3 := Try.isAgg3
 z3 := Try.sizeOf3
 v3 := Try.zeroValue3
 t4 := Try.underlying4
 a4 := Try.isAgg4
 z4 := Try.sizeOf4
 v4 := Try.zeroValue4
 t9 := Try.underlying9
 a9 := Try.isAgg9
 z9 := Try.sizeOf9
 v9 := Try.zeroValue9 }
open Go.RowKit Go.Lib in
/-- internal/stringslite.HasPrefix (what strings.HasPrefix calls). (LAID: no walk: one application.) -/
theorem Try.stringslite_HasPrefix (s p : ByteArray) (w : World) :
  Calls Try.prog 85 #[.string s, .string p] w fun e w' => e = .returned (.bool (Lib.hasPrefix s.data.toList p.data.toList)) ∧ w' = w := Any.stringslite_HasPrefix Try.lays206 s p w
def Try.lays99_ren : Go.Shelf.Ren := ⟨fun | 99 => 59 | 206 => 85 | n => n, fun | 9 => 9 | 4 => 4 | 3 => 3 | n => n, fun | n => n⟩
theorem Try.lays99 : Go.Proofs.Lays.n99 Try.prog Try.lays99_ren := {
 mixed := by kernel_rfl
 f99 := Try.func59.trans (congrArg some (by kernel_rfl))
 f206 := Try.func85.trans (congrArg some (by kernel_rfl))
 t3 := Try.underlying3
 a3 := Try.isAgg3
 z3 := Try.sizeOf3
 v3 := Try.zeroValue3
 t4 := Try.underlying4
 a4 := Try.isAgg4
 z4 := Try.sizeOf4
 v4 := Try.zeroValue4
 t9 := Try.underlying9
 a9 := Try.isAgg9
 z9 := Try.sizeOf9
 v9 := Try.zeroValue9 }
open Go.RowKit Go.Lib in
/-- strings.HasPrefix: "HasPrefix reports whether the string s begins with prefix.": IT RETURNS 'Lib.hasPrefix s prefix'; the world is as it was. (LAID: no walk: one application.) -/
theorem Try.strings_HasPrefix (s p : ByteArray) (w : World) :
  Calls Try.prog 59 #[.string s, .string p] w fun e w' => e = .returned (.bool (Lib.hasPrefix s.data.toList p.data.toList)) ∧ w' = w := Any.strings_HasPrefix Try.lays99 s p w
def Try.lays264_ren : Go.Shelf.Ren := ⟨fun | 264 => 56 | n => n, fun | 53 => 22 | 46 => 50 | n => n, fun | n => n⟩
theorem Try.lays264 : Go.Proofs.Lays.n264 Try.prog Try.lays264_ren := {
 mixed := by kernel_rfl
 f264 := Try.func56.trans (congrArg some (by kernel_rfl))
 t46 := Try.underlying50
 a46 := Try.isAgg50
 z46 := Try.sizeOf50
 v46 := Try.zeroValue50
 t53 := Try.underlying22
 a53 := Try.isAgg22
 z53 := Try.sizeOf22
 v53 := Try.zeroValue22 }
open Go.RowKit Go.Lib in
theorem Try.bits_Mul64 (x y : Nat) (hx : x < 18446744073709551616) (hy : y < 18446744073709551616) (w : World) :
  Calls Try.prog 56 #[.int .u64 x, .int .u64 y] w fun e w' => e = .returned (.tuple #[.int .u64 ((x * y / 18446744073709551616 : Nat) : Int), .int .u64 ((x * y % 18446744073709551616 : Nat) : Int)]) ∧ w' = w := Any.bits_Mul64 Try.lays264 x y hx hy w
def Try.lays212_ren : Go.Shelf.Ren := ⟨fun | 212 => 58 | 263 => 84 | 264 => 56 | n => n, fun | 46 => 50 | 51 => 116 | 146 => 117 | 53 => 22 | 148 => 81 | n => n, fun | n => n⟩
theorem Try.lays212 : Go.Proofs.Lays.n212 Try.prog Try.lays212_ren := {
 mixed := by kernel_rfl
 f212 := Try.func58.trans (congrArg some (by kernel_rfl))
 f263 := Try.func84.trans (congrArg some (by kernel_rfl))
 f264 := Try.func56.trans (congrArg some (by kernel_rfl))
 t46 := Try.underlying50
 a46 := Try.isAgg50
 z46 := Try.sizeOf50
 v46 := Try.zeroValue50
 t51 := Try.underlying116
 a51 := Try.isAgg116
 z51 := Try.sizeOf116
 v51 := Try.zeroValue116
 t53 := Try.underlying22
 a53 := Try.isAgg22
 z53 := Try.sizeOf22
 v53 := Try.zeroValue22
 t146 := Try.underlying117
 a146 := Try.isAgg117
 z146 := Try.sizeOf117
 v146 := Try.zeroValue117
 t148 := Try.underlying81
 a148 := Try.isAgg81
 z148 := Try.sizeOf81
 v148 := Try.zeroValue81 }
open Go.RowKit Go.Lib in
/-- math/bits.Mul: "Mul returns the full-width product of x and y": on a machine of 64 bits: Mul64's. (LAID: no walk: one application.) -/
theorem Try.bits_Mul (x y : Nat) (hx : x < 18446744073709551616) (hy : y < 18446744073709551616) (w : World) :
  Calls Try.prog 58 #[.int .u64 x, .int .u64 y] w fun e w' => e = .returned (.tuple #[.int .u64 ((x * y / 18446744073709551616 : Nat) : Int), .int .u64 ((x * y % 18446744073709551616 : Nat) : Int)]) ∧ w' = w := Any.bits_Mul Try.lays212 x y hx hy w
def Try.lays105_ren : Go.Shelf.Ren := ⟨fun | 105 => 34 | 212 => 58 | 99 => 59 | 165 => 60 | 166 => 61 | 170 => 62 | 169 => 63 | 263 => 84 | 264 => 56 | 206 => 85 | 240 => 86 | 241 => 87 | 276 => 90 | 277 => 91 | n => n, fun | 9 => 9 | 3 => 3 | 4 => 4 | 20 => 20 | 0 => 0 | 46 => 50 | 109 => 87 | 5 => 5 | 72 => 92 | 76 => 96 | 51 => 116 | 146 => 117 | 53 => 22 | 148 => 81 | 70 => 90 | 37 => 62 | 75 => 95 | 127 => 119 | 164 => 120 | 80 => 99 | n => n, fun | n => n⟩
theorem Try.lays105 : Go.Proofs.Lays.n105 Try.prog Try.lays105_ren := {
 mixed := by kernel_rfl
 f99 := Try.func59.trans (congrArg some (by kernel_rfl))
 f105 := Try.func34.trans (congrArg some (by kernel_rfl))
 f165 := Try.func60.trans (congrArg some (by kernel_rfl))
 f166 := Try.func61.trans (congrArg some (by kernel_rfl))
 f169 := Try.func63.trans (congrArg some (by kernel_rfl))
 f170 := Try.func62.trans (congrArg some (by kernel_rfl))
 f206 := Try.func85.trans (congrArg some (by kernel_rfl))
 f212 := Try.func58.trans (congrArg some (by kernel_rfl))
 f240 := Try.func86.trans (congrArg some (by kernel_rfl))
 f241 := Try.func87.trans (congrArg some (by kernel_rfl))
 f263 := Try.func84.trans (congrArg some (by kernel_rfl))
 f264 := Try.func56.trans (congrArg some (by kernel_rfl))
 f276 := Try.func90.trans (congrArg some (by kernel_rfl))
 f277 := Try.func91.trans (congrArg some (by kernel_rfl))
 t0 := Try.underlying0
 a0 := Try.isAgg0
 z0 := Try.sizeOf0
 v0 := Try.zeroValue0
 t3 := Try.underlying3
 a3 := Try.isAgg3
 z3 := Try.sizeOf3
 v3 := Try.zeroValue3
 t4 := Try.underlying4
 a4 := Try.isAgg4
 z4 := Try.sizeOf4
 v4 := Try.zeroValue4
 t5 := Try.underlying5
 a5 := Try.isAgg5
 z5 := Try.sizeOf5
 v5 := Try.zeroValue5
 t9 := Try.underlying9
 a9 := Try.isAgg9
 z9 := Try.sizeOf9
 v9 := Try.zeroValue9
 t20 := Try.underlying20
 a20 := Try.isAgg20
 z20 := Try.sizeOf20
 v20 := Try.zeroValue20
 t37 := Try.underlying62
 a37 := Try.isAgg62
 z37 := Try.sizeOf62
 v37 := Try.zeroValue62
 t46 := Try.underlying50
 a46 := Try.isAgg50
 z46 := Try.sizeOf50
 v46 := Try.zeroValue50
 t51 := Try.underlying116
 a51 := Try.isAgg116
 z51 := Try.sizeOf116
 v51 := Try.zeroValue116
 t53 := Try.underlying22
 a53 := Try.isAgg22
 z53 := Try.sizeOf22
 v53 := Try.zeroValue22
 t70 := Try.underlying90
 a70 := Try.isAgg90
 z70 := Try.sizeOf90
 v70 := Try.zeroValue90
 t72 := Try.underlying92
 a72 := Try.isAgg92
 z72 := Try.sizeOf92
 v72 := Try.zeroValue92
 t75 := Try.underlying95
 a75 := Try.isAgg95
 z75 := Try.sizeOf95
 v75 := Try.zeroValue95
 t76 := Try.underlying96
 a76 := Try.isAgg96
 z76 := Try.sizeOf96
 v76 := Try.zeroValue96
 t109 := Try.underlying87
 a109 := Try.isAgg87
 z109 := Try.sizeOf87
 v109 := Try.zeroValue87
 t127 := Try.underlying119
 a127 := Try.isAgg119
 z127 := Try.sizeOf119
 v127 := Try.zeroValue119
 t146 := Try.underlying117
 a146 := Try.isAgg117
 z146 := Try.sizeOf117
 v146 := Try.zeroValue117
 t148 := Try.underlying81
 a148 := Try.isAgg81
 z148 := Try.sizeOf81
 v148 := Try.zeroValue81
 t164 := Try.underlying120
 a164 := Try.isAgg120
 z164 := Try.sizeOf120
 v164 := Try.zeroValue120 }
theorem Try.Builder_Extra_105 : Builder.Extra Try.prog Try.lays105_ren := {
 sizeBuilder := by kernel_rfl
 liesBuilder := by kernel_rfl
 t5 := Try.underlying5
 a5 := Try.isAgg5
 z5 := Try.sizeOf5
 v5 := Try.zeroValue5
 infoByte := by kernel_rfl
 cellsByte := by kernel_rfl
 sizeByte := by kernel_rfl
 neB5 := by decide }
open Go.RowKit Go.Lib in
/-- THE MAIN CASE: at least two copies of a string that is not empty. (LAID: no walk: one application.) -/
theorem Try.strings_Repeat_main (s : ByteArray) (c : Nat) (w : World) (hc2 : 2 ≤ c) (hc : c ≤ 9223372036854775807) (hlen : s.size * c ≤ 140737488355328) (h0 : 0 < s.size) :
  Calls Try.prog 34 #[.string s, .int .i64 c] w fun e w' => e = .returned (.string ⟨(Lib.repeatL s.data.toList c).toArray⟩) ∧ Below w.heap.size w w' := Any.strings_Repeat_main Try.lays105 Try.Builder_Extra_105 s c w hc2 hc hlen h0
open Go.RowKit Go.Lib in
theorem Try.strings_Repeat_zero (s : ByteArray) (w : World) :
  Calls Try.prog 34 #[.string s, .int .i64 0] w fun e w' => e = .returned (.string ⟨#[]⟩) ∧ w' = w := Any.strings_Repeat_zero Try.lays105 s w
open Go.RowKit Go.Lib in
theorem Try.strings_Repeat_one (s : ByteArray) (w : World) :
  Calls Try.prog 34 #[.string s, .int .i64 1] w fun e w' => e = .returned (.string s) ∧ w' = w := Any.strings_Repeat_one Try.lays105 s w
open Go.RowKit Go.Lib in
/-- Copies of the empty string. (LAID: no walk: one application.) -/
theorem Try.strings_Repeat_empty (s : ByteArray) (c : Nat) (w : World) (hc2 : 2 ≤ c) (hc : c ≤ 9223372036854775807) (h0 : s.size = 0) :
  Calls Try.prog 34 #[.string s, .int .i64 c] w fun e w' => e = .returned (.string ⟨#[]⟩) ∧ w' = w := Any.strings_Repeat_empty Try.lays105 s c w hc2 hc h0
open Go.RowKit Go.Lib in
/-- count < 0: "It panics if count is negative". (LAID: no walk: one application.) -/
theorem Try.strings_Repeat_negative (s : ByteArray) (c : Int) (w : World) (hc : c < 0) :
  Calls Try.prog 34 #[.string s, .int .i64 c] w fun e w' => e = .panicked [{ v := repeatPanic Try.lays105_ren "strings: negative Repeat count", recovered := false }] ∧ w' = w := Any.strings_Repeat_negative Try.lays105 s c w hc
open Go.RowKit Go.Lib in
/-- len(s) * count is no int: ".. or if the result of (len(s) * count) overflows". (LAID: no walk: one application.) -/
theorem Try.strings_Repeat_overflow (s : ByteArray) (c : Nat) (w : World) (hc : c ≤ 9223372036854775807) (hs : s.size ≤ 9223372036854775807) (hbig : 9223372036854775807 < s.size * c) :
  Calls Try.prog 34 #[.string s, .int .i64 c] w fun e w' => e = .panicked [{ v := repeatPanic Try.lays105_ren "strings: Repeat output length overflow", recovered := false }] ∧ w' = w := Any.strings_Repeat_overflow Try.lays105 s c w hc hs hbig
open Go.RowKit Go.Lib in
/-- **strings.Repeat: count ≥ 0, the result within one allocation: count copies of s.** (LAID: no walk: one application.) -/
theorem Try.strings_Repeat (s : ByteArray) (c : Nat) (w : World) (hc : c ≤ 9223372036854775807) (hlen : s.size * c ≤ 140737488355328) :
  Calls Try.prog 34 #[.string s, .int .i64 c] w fun e w' => e = .returned (.string ⟨(Lib.repeatL s.data.toList c).toArray⟩) ∧ Below w.heap.size w w' := Any.strings_Repeat Try.lays105 Try.Builder_Extra_105 s c w hc hlen
end Go.Proofs

namespace Go.Proofs.Yc
open Go Go.RowKit Go.Proofs.Num
open List renaming set → Z0, take → Z1, drop → Z2
open Go renaming wp_seq_k → Z4
open Go.Proofs.Num renaming putT → Z7, wp_region_seq → Z8, wpL_nil → Z9, no_panic → Z10, wpL_chunk → Z11, wpL_move → Z12, wpL_assign → Z13, wpV_nil → Z14, wpV_bin → Z15, wpV_move → Z16, wpV_callf → Z20
attribute [local irreducible] wpV wpN wpList
open Go.Proofs.Ya
theorem rightP_base : rightP baseP = true := by decide +kernel
theorem affX_base : affX baseP = baseX := by
 show fmul baseX (finv 1) = baseX
 rw [finv_one]
 decide +kernel
theorem affY_base : affY baseP = baseY := by
 show fmul baseY (finv 1) = baseY
 rw [finv_one]
 decide +kernel
theorem text_base : textQ baseX baseY = [88] ++ Lib.repeatL [102] 31 := by decide +kernel
theorem bytes_base {w : World} : Calls Try.prog 13 #[.agg (fel baseP.x ++ fel baseP.y ++ fel baseP.z ++ fel baseP.t : List Value).toArray] w fun e w' => e = .returned (.tuple #[.string (bs (textQ baseX baseY)), .int .i64 0]) ∧ Below w.heap.size w w' := by
 have h9 := Bytes_ok (w := w) baseP_ok rightP_base
 rw [affX_base, affY_base] at h9
 exact h9
theorem repeat_c {w : World} : Calls Try.prog 34 #[.string (bs [102]), .int .i64 31] w fun e w' => e = .returned (.string (bs (Lib.repeatL [102] 31))) ∧ Below w.heap.size w w' :=
 Try.strings_Repeat (bs [102]) 31 w (by decide) (by decide)
set_option maxHeartbeats 1000000 in
theorem alive06_c  {w : World}  :
  Calls Try.prog 11 #[] w fun e w' => e = .returned (.bool true) ∧ Below w.heap.size w w' := by
 go_enter Try.func11, Try.ntmps11
 have M := Mem.start w
 refine Z4 (fun K1 hK1 => ?_)
 refine Z8 ?_
 refine Z13 (v := .bool false) (by rfl) (by rfl) (by rfl) ?_
 simp only [Z7,Z0]
 refine Z9 (Z10 ?_)
 refine hK1 _ _ ?_
 refine Z4 (fun K3 hK3 => ?_)
 refine Z8 ?_
 refine Z11 5 (by rfl) (fun Lk hLk => ?_)
 simp only [Z1,Z2]
 refine Z20 (v := .agg (fel baseP.x ++ fel baseP.y ++ fel baseP.z ++ fel baseP.t : List Value).toArray) (args := #[]) (by rfl) rfl Try.func16 (by kernel_rfl) (by kernel_rfl) rfl (fun W hW => Base_c) ?_
 simp only [Z7,Z0]
 refine Z20 (v := .tuple #[.string (bs (textQ baseX baseY)), .int .i64 0]) (args := #[.agg (fel baseP.x ++ fel baseP.y ++ fel baseP.z ++ fel baseP.t : List Value).toArray]) (by rfl) rfl Try.func13 (by kernel_rfl) (by kernel_rfl) rfl (fun W hW => bytes_base) ?_
 simp only [Z7,Z0]
 refine Z16 (v := .tuple #[.string (bs (textQ baseX baseY)), .int .i64 0]) (by rfl) rfl rfl ?_
 simp only [Z7,Z0]
 refine wpV_extract (v := .string (bs (textQ baseX baseY))) (by rfl) rfl rfl rfl ?_
 simp only [Z7,Z0]
 refine wpV_extract (v := .int .i64 0) (by rfl) rfl rfl rfl ?_
 simp only [Z7,Z0]
 refine Z14 (hLk _ (fun w5 Sw5 => ?_))
 clear hLk Lk
 simp only [Z1,Z2]
 replace M := M.sees Sw5
 refine Z13 (v := .string (bs (textQ baseX baseY))) (by rfl) (by rfl) (by rfl) ?_
 simp only [Z7,Z0]
 refine Z13 (v := .int .i64 0) (by rfl) (by rfl) (by rfl) ?_
 simp only [Z7,Z0]
 refine Z9 (Z10 ?_)
 refine hK3 _ _ ?_
 refine Z4 (fun K6 hK6 => ?_)
 refine Z8 ?_
 refine Z12 (v := .int .i64 0) (by rfl) (by rfl) (by rfl) ?_
 simp only [Z7,Z0]
 refine Z11 7 (by rfl) (fun Lk hLk => ?_)
 simp only [Z1,Z2]
 refine Z15 (v := .bool true) (by rfl) rfl rfl rfl (fun W => run_eql _ _ _ _ W) ?_
 simp only [Z7,Z0]
 refine Z16 (v := .bool true) (by rfl) rfl rfl ?_
 simp only [Z7,Z0]
 refine Z16 (v := .string (bs (textQ baseX baseY))) (by rfl) rfl rfl ?_
 simp only [Z7,Z0]
 refine Z20 (v := .string (bs (Lib.repeatL [102] 31))) (args := #[.string (bs ([102])), .int .i64 31]) (by rfl) rfl Try.func34 (by kernel_rfl) (by kernel_rfl) rfl (fun W hW => repeat_c) ?_
 simp only [Z7,Z0]
 refine wpV_binS (v := .string (bs (([88]) ++ (Lib.repeatL [102] 31)))) (by rfl) rfl rfl rfl (run_add_bs _ _ _ (by decide)) ?_
 simp only [Z7,Z0]
 refine wpV_binS (v := .bool true) (by rfl) rfl rfl rfl (fun W => (run_eql_bs _ _ _ W).trans (by rw [(decide_eq_true text_base)])) ?_
 simp only [Z7,Z0]
 refine wpV_pick (v := .bool true) (by rfl) rfl rfl rfl ?_
 simp only [Z7,Z0]
 refine Z14 (hLk _ (fun w8 Sw8 => ?_))
 clear hLk Lk
 simp only [Z1,Z2]
 replace M := M.sees Sw8
 refine Z13 (v := .bool true) (by rfl) (by rfl) (by rfl) ?_
 simp only [Z7,Z0]
 refine Z9 (Z10 ?_)
 refine hK6 _ _ ?_
 refine wp_ret ?_
 repeat (first | with_reducible refine then_ret ?_ | with_reducible refine inblock_ret ?_)
 refine bodyPost_ret (v := .bool true) (res1 rfl (.tmp (by rfl))) rfl ?_
 have BE := M.below
 exact ⟨rfl, BE⟩
end Go.Proofs.Yc

namespace Go.Proofs.Ya
open Go Go.RowKit Go.Shelf Go.Proofs.Num
open List renaming set → Z0, take → Z1, drop → Z2
open Go renaming undef → Z3, wp_seq_k → Z4, wp_cond_true → Z5, wp_cond_false → Z6
open Go.Proofs.Num renaming putT → Z7, wp_region_seq → Z8, wpL_nil → Z9, no_panic → Z10, wpL_chunk → Z11, wpL_move → Z12, wpL_assign → Z13, wpV_nil → Z14, wpV_bin → Z15, wpV_move → Z16, wpV_callf → Z20
set_option maxHeartbeats 2000000 in
theorem read_c {l : List UInt8} {w : World} (hl : l.length ≤ 1000) :
  Calls Try.prog 65 #[.string (bs l)] w fun e w' => ∃ v, e = .returned v ∧ NewRow w ((l.length + 1) / 2) (dl ((l.length + 1) / 2) (leN l)) v w' ∧ Below w.heap.size w w' := by
 go_enter Try.func65, Try.ntmps65
 have BE := Below.refl w.heap.size w
 refine Z4 (fun K1 hK1 => ?_)
 refine wp_region_plain 0 (by kernel_rfl) (fun Lk hLk => ?_)
 simp only [Z1,Z2]
 refine Z14 (hLk.out _ ?_)
 clear hLk Lk
 simp only [Z1,Z2]
 refine wpN_nil (fun w3 Sw3 hbs => ?_)
 clear hbs
 replace BE := BE.trans (Sw3.2.2.mono BE.size)
 refine Z13 (v := (.slice none 0 0)) (by rfl) (by rfl) (by rfl) ?_
 simp only [Z7,Z0]
 refine Z9 (Z10 ?_)
 refine hK1 _ _ ?_
 refine Z4 (fun K4 hK4 => ?_)
 refine Z8 ?_
 refine wpL_row0 (by rfl) (by rfl) Try.underlying100 info3 (fun g6 w7 Sw7 Hg6 Bg6 => ?_)
 have Gg6 : w.heap.size ≤ g6 := Nat.le_trans BE.size Hg6
 replace BE := BE.trans (Sw7.2.2.mono BE.size)
 have Tg6 := blk_there Bg6 (n := 0) (by rfl)
 have Rg6_0 := blk_range Bg6 (l := []) rfl
 rw [← dl_none] at Rg6_0
 have Lg6 := Bg6.lt
 clear Bg6
 simp only [Z7,Z0]
 refine Z13 (v := .slice (some ⟨g6, 0, none⟩) 0 0) (by rfl) (by rfl) (by rfl) ?_
 simp only [Z7,Z0]
 refine Z9 (Z10 ?_)
 refine hK4 _ _ ?_
 refine Z4 (fun K8 hK8 => ?_)
 refine Z4 (fun K9 hK9 => ?_)
 refine wp_region_plain 0 (by kernel_rfl) (fun Lk hLk => ?_)
 simp only [Z1,Z2]
 refine Z14 (hLk.out _ ?_)
 clear hLk Lk
 simp only [Z1,Z2]
 refine wpN_nil (fun w11 Sw11 hbs => ?_)
 clear hbs
 replace Rg6_0 := range_sees Rg6_0 Lg6 Sw11
 replace Tg6 := there_sees Tg6 Lg6 Sw11
 replace Lg6 := Nat.lt_of_lt_of_le Lg6 Sw11.2.2.size
 replace BE := BE.trans (Sw11.2.2.mono BE.size)
 refine Z13 (v := .int .i64 0) (by rfl) (by rfl) (by rfl) ?_
 simp only [Z7,Z0]
 refine Z9 (Z10 ?_)
 refine hK9 _ _ ?_
 refine wp_block ?_
 refine wp_loop_ghost (fun n9 a9 W9 => ∃ (k : Nat) (gq : Nat) (gqc : Nat) (u12 : Nat → Value), n9 = l.length + 1 - 2 * k ∧ a9 = { tmps := #[.string (bs l), Z3, (.slice none 0 0), .slice (some ⟨gq, 0, none⟩) k gqc, .int .i64 ((2 * k : Nat) : Int), u12 5, .slice (some ⟨g6, 0, none⟩) 0 0, u12 7, u12 8, u12 9, u12 10, u12 11, u12 12, u12 13, u12 14, u12 15, u12 16, u12 17, u12 18, u12 19, u12 20, u12 21, u12 22, u12 23, u12 24, u12 25, u12 26, u12 27, u12 28, u12 29, u12 30, u12 31, u12 32, u12 33, Z3], defers := [] } ∧ Below w.heap.size w W9 ∧ World.rangeAt W9 gq 0 (dl k (leN l)) ∧ World.there W9 gq 0 gqc ∧ gq < W9.heap.size ∧ k ≤ gqc ∧ w.heap.size ≤ gq ∧ (2 * k ≤ l.length + 1)) (l.length + 1 - 2 * (0)) ?_ (fun n9 a9 W9 hI => ?_)
 ·
  exact ⟨0, g6, 0, (fun q9 => (#[Z3, Z3, Z3, Z3, Z3, Z3, Z3, Z3, Z3, Z3, Z3, Z3, Z3, Z3, Z3, Z3, Z3, Z3, Z3, Z3, Z3, Z3, Z3, Z3, Z3, Z3, Z3, Z3, Z3, Z3, Z3, Z3, Z3, Z3] : Array Value).getD q9 Z3), rfl, rfl, BE, (show World.rangeAt _ _ _ [] from Rg6_0), Tg6, Lg6, (Nat.le_refl _), Gg6, (by omega)⟩
 clear BE Rg6_0 Tg6 Lg6
 obtain ⟨k, gq, gqc, u12, rfl, rfl, BE, Rgq_0, Tgq, Lgq, Cgq, Ggq, hk⟩ := hI
 obtain ⟨w13, rfl⟩ : ∃ W8, W8 = W9 := ⟨_, rfl⟩
 have hb1 := byteN_lt l (2 * k)
 have hb2 := byteN_lt l (2 * k + 1)
 have hrd := read_dig l k
 refine Z4 (fun K14 hK14 => ?_)
 refine Z4 (fun K15 hK15 => ?_)
 refine wp_region_plain 4 (by kernel_rfl) (fun Lk hLk => ?_)
 simp only [Z1,Z2]
 refine Z16 (v := .int .i64 ((2 * k : Nat) : Int)) (by rfl) rfl rfl ?_
 simp only [Z7,Z0]
 refine Z16 (v := .string (bs l)) (by rfl) rfl rfl ?_
 simp only [Z7,Z0]
 refine wpV_lenS (by rfl) rfl rfl rfl Try.underlying9 ?_
 simp only [Z7,Z0]
 refine Z15 (v := .bool (decide (2 * k < l.length))) (by rfl) rfl rfl rfl (fun W => run_lssN (2 * k) l.length _ _ W) ?_
 simp only [Z7,Z0]
 refine Z14 (hLk.out _ ?_)
 clear hLk Lk
 simp only [Z1,Z2]
 iterate 4 refine wpN_skip (by rfl) ?_
 refine wpN_nil (fun w17 Sw17 hbs => ?_)
 clear hbs
 replace Rgq_0 := range_sees Rgq_0 Lgq Sw17
 replace Tgq := there_sees Tgq Lgq Sw17
 replace Lgq := Nat.lt_of_lt_of_le Lgq Sw17.2.2.size
 replace BE := BE.trans (Sw17.2.2.mono BE.size)
 refine Z9 (Z10 ?_)
 refine hK15 _ _ ?_
 cases hc18 : (decide (2 * k < l.length))
 ·
  have ek : k = ((l.length + 1) / 2) := by have := of_decide_eq_false hc18; omega
  subst ek
  refine Z6 rfl ?_
  refine wp_exit ?_
  refine hK8 _ _ ?_
  refine Z4 (fun K19 hK19 => ?_)
  refine wp_region_plain 1 (by kernel_rfl) (fun Lk hLk => ?_)
  simp only [Z1,Z2]
  refine Z16 (v := .slice (some ⟨gq, 0, none⟩) ((l.length + 1) / 2) gqc) (by rfl) rfl rfl ?_
  simp only [Z7,Z0]
  refine Z14 (hLk.out _ ?_)
  clear hLk Lk
  simp only [Z1,Z2]
  iterate 1 refine wpN_skip (by rfl) ?_
  refine wpN_nil (fun w21 Sw21 hbs => ?_)
  clear hbs
  replace Rgq_0 := range_sees Rgq_0 Lgq Sw21
  replace Tgq := there_sees Tgq Lgq Sw21
  replace Lgq := Nat.lt_of_lt_of_le Lgq Sw21.2.2.size
  replace BE := BE.trans (Sw21.2.2.mono BE.size)
  refine Z13 (v := .slice (some ⟨gq, 0, none⟩) ((l.length + 1) / 2) gqc) (by rfl) (by rfl) (by rfl) ?_
  simp only [Z7,Z0]
  refine Z9 (Z10 ?_)
  refine hK19 _ _ ?_
  refine wp_ret ?_
  repeat (first | with_reducible refine then_ret ?_ | with_reducible refine inblock_ret ?_)
  refine bodyPost_ret (v := .slice (some ⟨gq, 0, none⟩) ((l.length + 1) / 2) gqc) (res1 rfl (.tmp (by rfl))) rfl ?_
  exact ⟨_, rfl, ⟨gq, gqc, rfl, Cgq, Ggq, Lgq, (range_dl_take (m := ((l.length + 1) / 2)) Rgq_0 (by omega))⟩, BE⟩
 ·
  have h2k : 2 * k < l.length := of_decide_eq_true hc18
  refine Z5 rfl ?_
  refine wp_skip ?_
  refine hK14 _ _ ?_
  refine Z4 (fun K22 hK22 => ?_)
  refine wp_block ?_
  refine Z4 (fun K23 hK23 => ?_)
  refine wp_region_plain 4 (by kernel_rfl) (fun Lk hLk => ?_)
  simp only [Z1,Z2]
  refine Z16 (v := .string (bs l)) (by rfl) rfl rfl ?_
  simp only [Z7,Z0]
  refine Z16 (v := .int .i64 ((2 * k : Nat) : Int)) (by rfl) rfl rfl ?_
  simp only [Z7,Z0]
  refine wpV_indexb (n := 2 * k) (by omega) (by rfl) rfl rfl rfl Try.underlying9 ?_
  simp only [Z7,Z0]
  refine wpV_conv (d := .bool) (e := ((byteN l (2 * k) : Nat) : Int)) (by rfl) rfl rfl (run_conv_int Try.underlying5 Try.underlying3 (by have := (byteN_lt l (2 * k)); simp only [IntKind.wrap_i64]; omega)) ?_
  simp only [Z7,Z0]
  refine Z14 (hLk.out _ ?_)
  clear hLk Lk
  simp only [Z1,Z2]
  iterate 4 refine wpN_skip (by rfl) ?_
  refine wpN_nil (fun w25 Sw25 hbs => ?_)
  clear hbs
  replace Rgq_0 := range_sees Rgq_0 Lgq Sw25
  replace Tgq := there_sees Tgq Lgq Sw25
  replace Lgq := Nat.lt_of_lt_of_le Lgq Sw25.2.2.size
  replace BE := BE.trans (Sw25.2.2.mono BE.size)
  refine Z13 (v := .int .i64 ((byteN l (2 * k) : Nat) : Int)) (by rfl) (by rfl) (by rfl) ?_
  simp only [Z7,Z0]
  refine Z9 (Z10 ?_)
  refine hK23 _ _ ?_
  refine Z4 (fun K26 hK26 => ?_)
  refine Z4 (fun K27 hK27 => ?_)
  refine wp_region_plain 5 (by kernel_rfl) (fun Lk hLk => ?_)
  simp only [Z1,Z2]
  refine Z16 (v := .int .i64 ((2 * k : Nat) : Int)) (by rfl) rfl rfl ?_
  simp only [Z7,Z0]
  refine Z15 (v := .int .i64 ((2 * k + 1 : Nat) : Int)) (by rfl) rfl rfl rfl (fun W => run_add (by simp only [IntKind.wrap_i64]; omega) W) ?_
  simp only [Z7,Z0]
  refine Z16 (v := .string (bs l)) (by rfl) rfl rfl ?_
  simp only [Z7,Z0]
  refine wpV_lenS (by rfl) rfl rfl rfl Try.underlying9 ?_
  simp only [Z7,Z0]
  refine Z15 (v := .bool (decide (2 * k + 1 < l.length))) (by rfl) rfl rfl rfl (fun W => run_lssN (2 * k + 1) l.length _ _ W) ?_
  simp only [Z7,Z0]
  refine Z14 (hLk.out _ ?_)
  clear hLk Lk
  simp only [Z1,Z2]
  iterate 5 refine wpN_skip (by rfl) ?_
  refine wpN_nil (fun w29 Sw29 hbs => ?_)
  clear hbs
  replace Rgq_0 := range_sees Rgq_0 Lgq Sw29
  replace Tgq := there_sees Tgq Lgq Sw29
  replace Lgq := Nat.lt_of_lt_of_le Lgq Sw29.2.2.size
  replace BE := BE.trans (Sw29.2.2.mono BE.size)
  refine Z9 (Z10 ?_)
  refine hK27 _ _ ?_
  cases hc30 : (decide (2 * k + 1 < l.length))
  ·
   have h2k1 : ¬ 2 * k + 1 < l.length := of_decide_eq_false hc30
   have hdig : byteN l (2 * k) = digN (leN l) k := by rw [← hrd, byteN_over (i := 2 * k + 1) (by omega)]; omega
   refine Z6 rfl ?_
   refine wp_skip ?_
   refine hK26 _ _ ?_
   refine Z8 ?_
   refine Z12 (v := .slice (some ⟨gq, 0, none⟩) k gqc) (by rfl) (by rfl) (by rfl) ?_
   simp only [Z7,Z0]
   refine Z12 (v := .int .i64 ((byteN l (2 * k) : Nat) : Int)) (by rfl) (by rfl) (by rfl) ?_
   simp only [Z7,Z0]
   refine wpL_row1 (z := .int .i64 0) (bytes := 8) (n := ((byteN l (2 * k) : Nat) : Int)) (by rfl) (by rfl) (by rfl) Try.underlying100 (by kernel_rfl) rfl (fun g32 w33 Sw33 Hg32 Bg32 => ?_)
   have Ngq_g32 : gq ≠ g32 := Nat.ne_of_lt (Nat.lt_of_lt_of_le Lgq Hg32)
   have Gg32 : w.heap.size ≤ g32 := Nat.le_trans BE.size Hg32
   replace Rgq_0 := range_sees Rgq_0 Lgq Sw33
   replace Tgq := there_sees Tgq Lgq Sw33
   replace Lgq := Nat.lt_of_lt_of_le Lgq Sw33.2.2.size
   replace BE := BE.trans (Sw33.2.2.mono BE.size)
   have Tg32 := blk_there Bg32 (n := 1) (by rfl)
   have Rg32_0 := blk_range Bg32 (l := [.int .i64 ((byteN l (2 * k) : Nat) : Int)]) rfl
   replace Rg32_0 : World.rangeAt w33 g32 0 (dl 1 (byteN l (2 * k))) := by rw [dl_one (v := byteN l (2 * k)) (by omega)]; exact Rg32_0
   have Lg32 := Bg32.lt
   clear Bg32
   simp only [Z7,Z0]
   refine wpL_append (olds := dl k (leN l)) (news := dl 1 (byteN l (2 * k))) (z := .int .i64 0) (bytes := 8) (by rfl) (by rfl) (by rfl) (by rfl) Try.underlying100 (by kernel_rfl) rfl rfl (dl_len _ _) (dl_len _ _) Rgq_0 Tgq Lgq Rg32_0 (nl_one _ _) (by omega) (by unfold maxLen; omega) (fun g34 g34c w35 Sw35 Qg34 Cg34 Rg34_0 Tg34 Lg34 => ?_)
   rw [hdig, dl_app1] at Rg34_0
   have Gg34 : w.heap.size ≤ g34 := Qg34.elim (fun q => q ▸ Ggq) (fun q => Nat.le_trans BE.size q)
   replace BE := Sw35.below BE (Nat.le_refl _) Ggq
   simp only [Z7,Z0]
   refine Z13 (v := .slice (some ⟨g34, 0, none⟩) (k + 1) g34c) (by rfl) (by rfl) (by rfl) ?_
   simp only [Z7,Z0]
   refine Z9 (Z10 ?_)
   refine hK22 _ _ ?_
   refine wp_region_plain 2 (by kernel_rfl) (fun Lk hLk => ?_)
   simp only [Z1,Z2]
   refine Z16 (v := .int .i64 ((2 * k : Nat) : Int)) (by rfl) rfl rfl ?_
   simp only [Z7,Z0]
   refine Z15 (v := .int .i64 ((2 * k + 2 : Nat) : Int)) (by rfl) rfl rfl rfl (fun W => run_add (by simp only [IntKind.wrap_i64]; omega) W) ?_
   simp only [Z7,Z0]
   refine Z14 (hLk.out _ ?_)
   clear hLk Lk
   simp only [Z1,Z2]
   iterate 2 refine wpN_skip (by rfl) ?_
   refine wpN_nil (fun w37 Sw37 hbs => ?_)
   clear hbs
   replace Rg34_0 := range_sees Rg34_0 Lg34 Sw37
   replace Tg34 := there_sees Tg34 Lg34 Sw37
   replace Lg34 := Nat.lt_of_lt_of_le Lg34 Sw37.2.2.size
   replace BE := BE.trans (Sw37.2.2.mono BE.size)
   refine Z13 (v := .int .i64 ((2 * k + 2 : Nat) : Int)) (by rfl) (by rfl) (by rfl) ?_
   simp only [Z7,Z0]
   refine Z9 (Z10 ?_)
   refine Exists.intro _ ⟨?_, (k + 1), g34, g34c, (fun q9 => (#[Z3, Z3, Z3, Z3, Z3, .int .i64 ((byteN l (2 * k) : Nat) : Int), Z3, .int .i64 ((2 * k : Nat) : Int), .string (bs l), .int .i64 ((l.length : Nat) : Int), .bool true, .int .i64 ((2 * k : Nat) : Int), .int .i64 ((2 * k + 2 : Nat) : Int), .string (bs l), .int .i64 ((2 * k : Nat) : Int), .int .u8 ((byteN l (2 * k) : Nat) : Int), .int .i64 ((byteN l (2 * k) : Nat) : Int), .int .i64 ((2 * k : Nat) : Int), .int .i64 ((2 * k + 1 : Nat) : Int), .string (bs l), .int .i64 ((l.length : Nat) : Int), .bool false, u12 22, u12 23, u12 24, u12 25, u12 26, u12 27, u12 28, u12 29, .slice (some ⟨gq, 0, none⟩) k gqc, .int .i64 ((byteN l (2 * k) : Nat) : Int), .slice (some ⟨g32, 0, none⟩) 1 1, .slice (some ⟨g34, 0, none⟩) (k + 1) g34c] : Array Value).getD q9 Z3), rfl, rfl, BE, Rg34_0, Tg34, Lg34, Cg34, Gg34, (by omega)⟩
   omega
  ·
   have h2k1 : 2 * k + 1 < l.length := of_decide_eq_true hc30
   have hdig : byteN l (2 * k) + 256 * (byteN l (2 * k + 1)) = digN (leN l) k := hrd
   refine Z5 rfl ?_
   refine wp_region_plain 8 (by kernel_rfl) (fun Lk hLk => ?_)
   simp only [Z1,Z2]
   refine Z16 (v := .int .i64 ((byteN l (2 * k) : Nat) : Int)) (by rfl) rfl rfl ?_
   simp only [Z7,Z0]
   refine Z16 (v := .string (bs l)) (by rfl) rfl rfl ?_
   simp only [Z7,Z0]
   refine Z16 (v := .int .i64 ((2 * k : Nat) : Int)) (by rfl) rfl rfl ?_
   simp only [Z7,Z0]
   refine Z15 (v := .int .i64 ((2 * k + 1 : Nat) : Int)) (by rfl) rfl rfl rfl (fun W => run_add (by simp only [IntKind.wrap_i64]; omega) W) ?_
   simp only [Z7,Z0]
   refine wpV_indexb (n := 2 * k + 1) (by omega) (by rfl) rfl rfl rfl Try.underlying9 ?_
   simp only [Z7,Z0]
   refine wpV_conv (d := .bool) (e := ((byteN l (2 * k + 1) : Nat) : Int)) (by rfl) rfl rfl (run_conv_int Try.underlying5 Try.underlying3 (by have := (byteN_lt l (2 * k + 1)); simp only [IntKind.wrap_i64]; omega)) ?_
   simp only [Z7,Z0]
   refine Z15 (v := .int .i64 ((256 * (byteN l (2 * k + 1)) : Nat) : Int)) (by rfl) rfl rfl rfl (fun W => run_mul (by simp only [IntKind.wrap_i64]; omega) W) ?_
   simp only [Z7,Z0]
   refine Z15 (v := .int .i64 ((byteN l (2 * k) + 256 * (byteN l (2 * k + 1)) : Nat) : Int)) (by rfl) rfl rfl rfl (fun W => run_add (by simp only [IntKind.wrap_i64]; omega) W) ?_
   simp only [Z7,Z0]
   refine Z14 (hLk.out _ ?_)
   clear hLk Lk
   simp only [Z1,Z2]
   iterate 8 refine wpN_skip (by rfl) ?_
   refine wpN_nil (fun w39 Sw39 hbs => ?_)
   clear hbs
   replace Rgq_0 := range_sees Rgq_0 Lgq Sw39
   replace Tgq := there_sees Tgq Lgq Sw39
   replace Lgq := Nat.lt_of_lt_of_le Lgq Sw39.2.2.size
   replace BE := BE.trans (Sw39.2.2.mono BE.size)
   refine Z13 (v := .int .i64 ((byteN l (2 * k) + 256 * (byteN l (2 * k + 1)) : Nat) : Int)) (by rfl) (by rfl) (by rfl) ?_
   simp only [Z7,Z0]
   refine Z9 (Z10 ?_)
   refine hK26 _ _ ?_
   refine Z8 ?_
   refine Z12 (v := .slice (some ⟨gq, 0, none⟩) k gqc) (by rfl) (by rfl) (by rfl) ?_
   simp only [Z7,Z0]
   refine Z12 (v := .int .i64 ((byteN l (2 * k) + 256 * (byteN l (2 * k + 1)) : Nat) : Int)) (by rfl) (by rfl) (by rfl) ?_
   simp only [Z7,Z0]
   refine wpL_row1 (z := .int .i64 0) (bytes := 8) (n := ((byteN l (2 * k) + 256 * (byteN l (2 * k + 1)) : Nat) : Int)) (by rfl) (by rfl) (by rfl) Try.underlying100 (by kernel_rfl) rfl (fun g41 w42 Sw42 Hg41 Bg41 => ?_)
   have Ngq_g41 : gq ≠ g41 := Nat.ne_of_lt (Nat.lt_of_lt_of_le Lgq Hg41)
   have Gg41 : w.heap.size ≤ g41 := Nat.le_trans BE.size Hg41
   replace Rgq_0 := range_sees Rgq_0 Lgq Sw42
   replace Tgq := there_sees Tgq Lgq Sw42
   replace Lgq := Nat.lt_of_lt_of_le Lgq Sw42.2.2.size
   replace BE := BE.trans (Sw42.2.2.mono BE.size)
   have Tg41 := blk_there Bg41 (n := 1) (by rfl)
   have Rg41_0 := blk_range Bg41 (l := [.int .i64 ((byteN l (2 * k) + 256 * (byteN l (2 * k + 1)) : Nat) : Int)]) rfl
   replace Rg41_0 : World.rangeAt w42 g41 0 (dl 1 (byteN l (2 * k) + 256 * (byteN l (2 * k + 1)))) := by rw [dl_one (v := byteN l (2 * k) + 256 * (byteN l (2 * k + 1))) (by omega)]; exact Rg41_0
   have Lg41 := Bg41.lt
   clear Bg41
   simp only [Z7,Z0]
   refine wpL_append (olds := dl k (leN l)) (news := dl 1 (byteN l (2 * k) + 256 * (byteN l (2 * k + 1)))) (z := .int .i64 0) (bytes := 8) (by rfl) (by rfl) (by rfl) (by rfl) Try.underlying100 (by kernel_rfl) rfl rfl (dl_len _ _) (dl_len _ _) Rgq_0 Tgq Lgq Rg41_0 (nl_one _ _) (by omega) (by unfold maxLen; omega) (fun g43 g43c w44 Sw44 Qg43 Cg43 Rg43_0 Tg43 Lg43 => ?_)
   rw [hdig, dl_app1] at Rg43_0
   have Gg43 : w.heap.size ≤ g43 := Qg43.elim (fun q => q ▸ Ggq) (fun q => Nat.le_trans BE.size q)
   replace BE := Sw44.below BE (Nat.le_refl _) Ggq
   simp only [Z7,Z0]
   refine Z13 (v := .slice (some ⟨g43, 0, none⟩) (k + 1) g43c) (by rfl) (by rfl) (by rfl) ?_
   simp only [Z7,Z0]
   refine Z9 (Z10 ?_)
   refine hK22 _ _ ?_
   refine wp_region_plain 2 (by kernel_rfl) (fun Lk hLk => ?_)
   simp only [Z1,Z2]
   refine Z16 (v := .int .i64 ((2 * k : Nat) : Int)) (by rfl) rfl rfl ?_
   simp only [Z7,Z0]
   refine Z15 (v := .int .i64 ((2 * k + 2 : Nat) : Int)) (by rfl) rfl rfl rfl (fun W => run_add (by simp only [IntKind.wrap_i64]; omega) W) ?_
   simp only [Z7,Z0]
   refine Z14 (hLk.out _ ?_)
   clear hLk Lk
   simp only [Z1,Z2]
   iterate 2 refine wpN_skip (by rfl) ?_
   refine wpN_nil (fun w46 Sw46 hbs => ?_)
   clear hbs
   replace Rg43_0 := range_sees Rg43_0 Lg43 Sw46
   replace Tg43 := there_sees Tg43 Lg43 Sw46
   replace Lg43 := Nat.lt_of_lt_of_le Lg43 Sw46.2.2.size
   replace BE := BE.trans (Sw46.2.2.mono BE.size)
   refine Z13 (v := .int .i64 ((2 * k + 2 : Nat) : Int)) (by rfl) (by rfl) (by rfl) ?_
   simp only [Z7,Z0]
   refine Z9 (Z10 ?_)
   refine Exists.intro _ ⟨?_, (k + 1), g43, g43c, (fun q9 => (#[Z3, Z3, Z3, Z3, Z3, .int .i64 ((byteN l (2 * k) + 256 * (byteN l (2 * k + 1)) : Nat) : Int), Z3, .int .i64 ((2 * k : Nat) : Int), .string (bs l), .int .i64 ((l.length : Nat) : Int), .bool true, .int .i64 ((2 * k : Nat) : Int), .int .i64 ((2 * k + 2 : Nat) : Int), .string (bs l), .int .i64 ((2 * k : Nat) : Int), .int .u8 ((byteN l (2 * k) : Nat) : Int), .int .i64 ((byteN l (2 * k) : Nat) : Int), .int .i64 ((2 * k : Nat) : Int), .int .i64 ((2 * k + 1 : Nat) : Int), .string (bs l), .int .i64 ((l.length : Nat) : Int), .bool true, .int .i64 ((byteN l (2 * k) : Nat) : Int), .string (bs l), .int .i64 ((2 * k : Nat) : Int), .int .i64 ((2 * k + 1 : Nat) : Int), .int .u8 ((byteN l (2 * k + 1) : Nat) : Int), .int .i64 ((byteN l (2 * k + 1) : Nat) : Int), .int .i64 ((256 * (byteN l (2 * k + 1)) : Nat) : Int), .int .i64 ((byteN l (2 * k) + 256 * (byteN l (2 * k + 1)) : Nat) : Int), .slice (some ⟨gq, 0, none⟩) k gqc, .int .i64 ((byteN l (2 * k) + 256 * (byteN l (2 * k + 1)) : Nat) : Int), .slice (some ⟨g41, 0, none⟩) 1 1, .slice (some ⟨g43, 0, none⟩) (k + 1) g43c] : Array Value).getD q9 Z3), rfl, rfl, BE, Rg43_0, Tg43, Lg43, Cg43, Gg43, (by omega)⟩
   omega
set_option maxHeartbeats 2000000 in
theorem rparse04_c {l : List UInt8} {w : World} (hl : l.length ≤ 32) :
  Calls Try.prog 35 #[.string (bs l)] w fun e w' => e = .returned (.tuple #[fe (leN l), .bool (decide (leN l < pF))]) ∧ Below w.heap.size w w' := by
 have hlt : leN l < 2 ^ 256 := Nat.lt_of_lt_of_le (read_lt (n := 16) (by omega)) (by decide)
 have h16 : dlen (leN l) ≤ 16 := (dlen_le _ _).2 (read_lt (by omega))
 go_enter Try.func35, Try.ntmps35
 have BE := Below.refl w.heap.size w
 refine Z4 (fun K1 hK1 => ?_)
 refine wp_region_plain 1 (by kernel_rfl) (fun Lk hLk => ?_)
 simp only [Z1,Z2]
 refine wpV_alloc (by rfl) ?_
 refine Z14 (hLk.out _ ?_)
 clear hLk Lk
 simp only [Z1,Z2]
 refine wpN_new (t := 24) (cs := ([.int .u64 0, .int .u64 0, .int .u64 0, .int .u64 0]).toArray) (by rfl) (fun W => ?_) (fun g3 Hg3 ng3 => ?_)
 ·
  go_simp
 simp only [Z7,Z0]
 refine wpN_nil (fun w4 Sw4 hbs => ?_)
 have Bg3 : Blk w4 g3 24 ([.int .u64 0, .int .u64 0, .int .u64 0, .int .u64 0]).toArray := hbs _ (List.mem_cons_self ..)
 clear hbs
 have Gg3 : w.heap.size ≤ g3 := Nat.le_trans BE.size Hg3
 replace BE := BE.trans (Sw4.2.2.mono BE.size)
 have Tg3 := blk_there Bg3 (n := 4) (by simp [flen])
 have Rg3_0 := blk_range Bg3 (l := [.int .u64 0, .int .u64 0, .int .u64 0, .int .u64 0]) rfl
 have Lg3 := Bg3.lt
 clear ng3 Bg3
 refine Z13 (v := .bool false) (by rfl) (by rfl) (by rfl) ?_
 simp only [Z7,Z0]
 refine Z9 (Z10 ?_)
 refine hK1 _ _ ?_
 refine Z4 (fun K5 hK5 => ?_)
 refine Z8 ?_
 refine Z12 (v := .string (bs l)) (by rfl) (by rfl) (by rfl) ?_
 simp only [Z7,Z0]
 refine wpL_callE (f := 65) (args := #[.string (bs l)]) (R := NewRow w4 ((l.length + 1) / 2) (dl ((l.length + 1) / 2) (leN l))) (by rfl) (by rfl) rfl Try.func65 (by kernel_rfl) (by kernel_rfl) (read_c (by omega)) (fun v9 w8 hv9 Sw8 => ?_)
 obtain ⟨g7, g7c, rfl, Cg7, Hg7, Lg7, Rg7_0⟩ := hv9
 have Ng3_g7 : g3 ≠ g7 := Nat.ne_of_lt (Nat.lt_of_lt_of_le Lg3 Hg7)
 have Gg7 : w.heap.size ≤ g7 := Nat.le_trans BE.size Hg7
 replace Rg3_0 := range_sees Rg3_0 Lg3 Sw8
 replace Tg3 := there_sees Tg3 Lg3 Sw8
 replace Lg3 := Nat.lt_of_lt_of_le Lg3 Sw8.2.2.size
 replace BE := BE.trans (Sw8.2.2.mono BE.size)
 simp only [Z7,Z0]
 refine Z11 1 (by rfl) (fun Lk hLk => ?_)
 simp only [Z1,Z2]
 refine Z20 (v := .slice (some ⟨g7, 0, none⟩) (dlen (leN l)) g7c) (args := #[.slice (some ⟨g7, 0, none⟩) ((l.length + 1) / 2) g7c]) (by rfl) rfl Try.func64 (by kernel_rfl) (by kernel_rfl) rfl (fun W hW => trim_c (x := (leN l)) (by omega) (read_lt (by omega)) Cg7 (Nat.lt_of_lt_of_le Lg7 hW.2.2.size) (range_sees Rg7_0 Lg7 hW)) ?_
 simp only [Z7,Z0]
 refine Z14 (hLk _ (fun w9 Sw9 => ?_))
 clear hLk Lk
 simp only [Z1,Z2]
 replace Rg3_0 := range_sees Rg3_0 Lg3 Sw9
 replace Tg3 := there_sees Tg3 Lg3 Sw9
 replace Rg7_0 := range_sees Rg7_0 Lg7 Sw9
 replace Lg3 := Nat.lt_of_lt_of_le Lg3 Sw9.2.2.size
 replace Lg7 := Nat.lt_of_lt_of_le Lg7 Sw9.2.2.size
 replace BE := BE.trans (Sw9.2.2.mono BE.size)
 refine Z13 (v := .slice (some ⟨g7, 0, none⟩) (dlen (leN l)) g7c) (by rfl) (by rfl) (by rfl) ?_
 simp only [Z7,Z0]
 refine Z9 (Z10 ?_)
 refine hK5 _ _ ?_
 refine Z4 (fun K10 hK10 => ?_)
 refine Z8 ?_
 refine Z12 (v := .slice (some ⟨g7, 0, none⟩) (dlen (leN l)) g7c) (by rfl) (by rfl) (by rfl) ?_
 simp only [Z7,Z0]
 refine Z11 1 (by rfl) (fun Lk hLk => ?_)
 simp only [Z1,Z2]
 refine Z20 (v := fe (leN l)) (args := #[.slice (some ⟨g7, 0, none⟩) (dlen (leN l)) g7c]) (by rfl) rfl Try.func66 (by kernel_rfl) (by kernel_rfl) rfl (fun W hW => words_c (n := dlen (leN l)) (x := (leN l)) (by omega) (dlen_lt _) (Nat.le_trans ((dlen_le _ _).2 (read_lt (by omega))) Cg7) (Nat.lt_of_lt_of_le Lg7 hW.2.2.size) (range_sees (range_dl_take (m := dlen (leN l)) Rg7_0 ((dlen_le _ _).2 (read_lt (by omega)))) Lg7 hW)) ?_
 simp only [Z7,Z0]
 refine Z14 (hLk _ (fun w12 Sw12 => ?_))
 clear hLk Lk
 simp only [Z1,Z2]
 replace Rg3_0 := range_sees Rg3_0 Lg3 Sw12
 replace Tg3 := there_sees Tg3 Lg3 Sw12
 replace Rg7_0 := range_sees Rg7_0 Lg7 Sw12
 replace Lg3 := Nat.lt_of_lt_of_le Lg3 Sw12.2.2.size
 replace Lg7 := Nat.lt_of_lt_of_le Lg7 Sw12.2.2.size
 replace BE := BE.trans (Sw12.2.2.mono BE.size)
 refine Z12 (v := .slice (some ⟨g7, 0, none⟩) (dlen (leN l)) g7c) (by rfl) (by rfl) (by rfl) ?_
 simp only [Z7,Z0]
 refine wpL_callE (f := 68) (args := #[]) (R := NewRow w12 16 (dl 16 pF)) (by rfl) (by rfl) rfl Try.func68 (by kernel_rfl) (by kernel_rfl) (prime04_c) (fun v9 w14 hv9 Sw14 => ?_)
 obtain ⟨g13, g13c, rfl, Cg13, Hg13, Lg13, Rg13_0⟩ := hv9
 have Ng3_g13 : g3 ≠ g13 := Nat.ne_of_lt (Nat.lt_of_lt_of_le Lg3 Hg13)
 have Ng7_g13 : g7 ≠ g13 := Nat.ne_of_lt (Nat.lt_of_lt_of_le Lg7 Hg13)
 have Gg13 : w.heap.size ≤ g13 := Nat.le_trans BE.size Hg13
 replace Rg3_0 := range_sees Rg3_0 Lg3 Sw14
 replace Tg3 := there_sees Tg3 Lg3 Sw14
 replace Rg7_0 := range_sees Rg7_0 Lg7 Sw14
 replace Lg3 := Nat.lt_of_lt_of_le Lg3 Sw14.2.2.size
 replace Lg7 := Nat.lt_of_lt_of_le Lg7 Sw14.2.2.size
 replace BE := BE.trans (Sw14.2.2.mono BE.size)
 simp only [Z7,Z0]
 refine Z11 1 (by rfl) (fun Lk hLk => ?_)
 simp only [Z1,Z2]
 refine Z20 (v := .bool (decide ((leN l) < pF))) (args := #[.slice (some ⟨g7, 0, none⟩) (dlen (leN l)) g7c, .slice (some ⟨g13, 0, none⟩) 16 g13c]) (by rfl) rfl Try.func67 (by kernel_rfl) (by kernel_rfl) rfl (fun W hW => less_c (n := dlen (leN l)) (x := (leN l)) (m := 16) (y := pF) (by omega) rfl dlen_pF.symm (Nat.le_trans ((dlen_le _ _).2 (read_lt (by omega))) Cg7) (Nat.lt_of_lt_of_le Lg7 hW.2.2.size) (range_sees (range_dl_take (m := dlen (leN l)) Rg7_0 ((dlen_le _ _).2 (read_lt (by omega)))) Lg7 hW) Cg13 (Nat.lt_of_lt_of_le Lg13 hW.2.2.size) (range_sees Rg13_0 Lg13 hW)) ?_
 simp only [Z7,Z0]
 refine Z14 (hLk _ (fun w15 Sw15 => ?_))
 clear hLk Lk
 simp only [Z1,Z2]
 replace Rg3_0 := range_sees Rg3_0 Lg3 Sw15
 replace Tg3 := there_sees Tg3 Lg3 Sw15
 replace Rg7_0 := range_sees Rg7_0 Lg7 Sw15
 replace Rg13_0 := range_sees Rg13_0 Lg13 Sw15
 replace Lg3 := Nat.lt_of_lt_of_le Lg3 Sw15.2.2.size
 replace Lg7 := Nat.lt_of_lt_of_le Lg7 Sw15.2.2.size
 replace Lg13 := Nat.lt_of_lt_of_le Lg13 Sw15.2.2.size
 replace BE := BE.trans (Sw15.2.2.mono BE.size)
 refine wpL_store (g := g3) (off := 0) (n := 4) (cs := fel (leN l)) (by rfl) (by rfl) (by rfl) (by rfl) (by rfl) Tg3 (by simp [flen]) info24 (fel_one _) (fun w16 Pw16 RR TT => ?_)
 replace Rg7_0 := Pw16.range Rg7_0 (.inl (Ne.symm Ng3_g7))
 replace Rg13_0 := Pw16.range Rg13_0 (.inl (Ne.symm Ng3_g13))
 replace Rg3_0 := RR
 clear RR
 replace Tg3 := TT
 replace Lg3 := Pw16.lt Lg3
 replace Lg7 := Pw16.lt Lg7
 replace Lg13 := Pw16.lt Lg13
 replace BE := Pw16.below BE Gg3
 refine Z13 (v := .bool (decide ((leN l) < pF))) (by rfl) (by rfl) (by rfl) ?_
 simp only [Z7,Z0]
 refine Z9 (Z10 ?_)
 refine hK10 _ _ ?_
 refine wp_ret ?_
 repeat (first | with_reducible refine then_ret ?_ | with_reducible refine inblock_ret ?_)
 refine bodyPost_ret (v := .tuple #[fe (leN l), .bool (decide ((leN l) < pF))]) (res2 rfl (.cell (by rfl) (run_loadVar_mid _ _ _ _ (fel (leN l)) _ Rg3_0 Try.underlying24 rfl info24)) (.tmp (by rfl))) rfl ?_
 exact ⟨rfl, BE⟩
end Go.Proofs.Ya

namespace Go.Proofs.Yc
open Go Go.RowKit Go.Proofs.Num

attribute [local irreducible] wpV wpN wpList
open Go.Proofs.Ya
theorem bcells_one9 {v : Nat} (h : v < 256) : bcells [UInt8.ofNat v] = [.int .u8 ((v : Nat) : Int)] := by
 have h9 : (UInt8.ofNat v).toNat = v := by
  rw [UInt8.toNat_ofNat']
  exact Nat.mod_eq_of_lt h
 show [Value.int .u8 (((UInt8.ofNat v).toNat : Nat) : Int)] = _
 rw [h9]
theorem rem_limb0 {P : Program} {T : TypeId} (x : Nat) (W : World) : (binOp .rem T (.int .u64 (limb x 0)) (.int .u64 2)).run P W = .ok (.int .u64 ((x % 2 : Nat) : Int)) W := by
 have h := nr_rem64 (P := P) (T := T) (x := limbN x 0) (y := 2) (by decide) W
 rw [show limbN x 0 % 2 = x % 2 by unfold limbN; rw [Nat.mul_zero, Nat.pow_zero, Nat.div_one]; omega] at h
 exact h
end Go.Proofs.Yc

