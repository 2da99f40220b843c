/-
  DERIVED: THE SHELF's CONTRACTS AT THIS DUMP, IN PLAIN WORDS (tools/lay-plain.mjs out of 'TryShelf.lean', which tools/lay-shelf.mjs wrote): THE SAME DECLARATIONS UNDER THE SAME NAMES: 'import', 'namespace', 'open', 'def', 'theorem' AND NOTHING ELSE: no command of the shelf's: FOR A HAND-IN. Each laying: the table of numbers ('.._ren') and one theorem, a field a fact of the dump's own or the kernel's comparison; each contract: ONE APPLICATION.
-/
import Derived.Shelf.Strings.Builder1
import Derived.Shelf.Strings.Builder2
import Derived.Shelf.Strings.BuilderF
import Derived.Shelf.Strings.Prefix
import Derived.Shelf.Bits.Mul64
import Derived.Shelf.Strings.Repeat
import Derived.Test.YtdcmmnindlhghaaProg
import Derived.WalkKit
import Derived.WalkSpells
import Derived.Laws.Pointers
import Derived.RowKit3
import Derived.Below
import Derived.Outline
import Derived.LoopN
import Derived.Lib.Hide
import Derived.Handy
import Derived.Laws.Bits64b
import Derived.Test.YtdcmmnindlhghaaPtK
import Derived.Test.YtdcmmnindlhghaaPtN
import Derived.Test.YtdcmmnindlhghaaPtE
import Derived.Test.YtdcmmnindlhghaaEqS
set_option linter.unusedSimpArgs false
set_option linter.unusedVariables false
namespace Go.Proofs
open Go.Shelf
def Try.lays170_ren : Go.Shelf.Ren := ⟨fun | 170 => 62 | n => n, fun | 70 => 90 | 3 => 3 | 0 => 0 | 72 => 92 | 37 => 62 | 5 => 5 | n => n, fun | n => n⟩
theorem Try.lays170 : Go.Proofs.Lays.n170 Try.prog Try.lays170_ren := {
 mixed := by kernel_rfl
 f170 := Try.func62.trans (congrArg some (by kernel_rfl))
 t0 := Try.underlying0
 a0 := Try.isAgg0
 z0 := Try.sizeOf0
 v0 := Try.zeroValue0
 t3 := Try.underlying3
 a3 := Try.isAgg3
 z3 := Try.sizeOf3
 v3 := Try.zeroValue3
 t37 := Try.underlying62
 a37 := Try.isAgg62
 z37 := Try.sizeOf62
 v37 := Try.zeroValue62
 t70 := Try.underlying90
 a70 := Try.isAgg90
 z70 := Try.sizeOf90
 v70 := Try.zeroValue90
 t72 := Try.underlying92
 a72 := Try.isAgg92
 z72 := Try.sizeOf92
 v72 := Try.zeroValue92 }
open Go.RowKit in
/-- (*strings.Builder).Len: "Len returns the number of accumulated bytes; b.Len() == len(b.String()).": the world is as it was. (LAID: no walk: one application.) -/
theorem Try.Builder_Len (B b : Nat) (bs : List Value) (w : World) (h : Lib.IsBuilder 92 5 B b bs w) :
  Calls Try.prog 62 #[.pointer (some ⟨b, 0, none⟩)] w fun e w' => e = .returned (.int .i64 bs.length) ∧ w' = w := Any.Builder_Len Try.lays170 B b bs w h
def Try.lays169_ren : Go.Shelf.Ren := ⟨fun | 169 => 63 | n => n, fun | 70 => 90 | 9 => 9 | 0 => 0 | 72 => 92 | 37 => 62 | 127 => 119 | 3 => 3 | 5 => 5 | n => n, fun | n => n⟩
theorem Try.lays169 : Go.Proofs.Lays.n169 Try.prog Try.lays169_ren := {
 mixed := by kernel_rfl
 f169 := Try.func63.trans (congrArg some (by kernel_rfl))
 t0 := Try.underlying0
 a0 := Try.isAgg0
 z0 := Try.sizeOf0
 v0 := Try.zeroValue0
 t3 := Try.underlying3
 a3 := Try.isAgg3
 z3 := Try.sizeOf3
 v3 := Try.zeroValue3
 t9 := Try.underlying9
 a9 := Try.isAgg9
 z9 := Try.sizeOf9
 v9 := Try.zeroValue9
 t37 := Try.underlying62
 a37 := Try.isAgg62
 z37 := Try.sizeOf62
 v37 := Try.zeroValue62
 t70 := Try.underlying90
 a70 := Try.isAgg90
 z70 := Try.sizeOf90
 v70 := Try.zeroValue90
 t72 := Try.underlying92
 a72 := Try.isAgg92
 z72 := Try.sizeOf92
 v72 := Try.zeroValue92
 t127 := Try.underlying119
 a127 := Try.isAgg119
 z127 := Try.sizeOf119
 v127 := Try.zeroValue119 }
theorem Try.Builder_Extra_169 : Builder.Extra Try.prog Try.lays169_ren := {
 sizeBuilder := by kernel_rfl
 liesBuilder := by kernel_rfl
 t5 := Try.underlying5
 a5 := Try.isAgg5
 z5 := Try.sizeOf5
 v5 := Try.zeroValue5
 infoByte := by kernel_rfl
 cellsByte := by kernel_rfl
 sizeByte := by kernel_rfl
 neB5 := by decide }
open Go.RowKit in
/-- (*strings.Builder).String: "String returns the accumulated string.": OF A BUILDER THAT HOLDS AT LEAST ONE BYTE. ✋ THE MODEL FREEZES THOSE BYTES IN THE BUFFER (unsafe.String): a later write INTO them ends the model's run without an answer; a later append BEHIND them goes on. The statement's order of evaluation is drawn: one draw. (LAID: no walk: one application.) -/
theorem Try.Builder_String (B b : Nat) (l : List UInt8) (w : World) (h : Lib.IsBuilder 92 5 B b (Lib.byteCells l) w) (h0 : l ≠ []) :
  Calls Try.prog 63 #[.pointer (some ⟨b, 0, none⟩)] w fun e w' => e = .returned (.string ⟨l.toArray⟩) ∧ Below B w w' := Any.Builder_String Try.lays169 Try.Builder_Extra_169 B b l w h h0
open Go.RowKit in
/-- (*strings.Builder).String OF A BUILDER THAT HOLDS NO BYTE: the empty string. (Its buffer is nil, or a row of which it has taken nothing yet; where that row has NO capacity the model lays one new block for unsafe.SliceData's 'some address'.) One draw. (LAID: no walk: one application.) -/
theorem Try.Builder_String_empty (B b : Nat) (w : World) (h : Lib.IsBuilder 92 5 B b [] w) (hBw : B ≤ w.heap.size) :
  Calls Try.prog 63 #[.pointer (some ⟨b, 0, none⟩)] w fun e w' => e = .returned (.string ⟨#[]⟩) ∧ Below B w w' := Any.Builder_String_empty Try.lays169 Try.Builder_Extra_169 B b w h hBw
open Go.RowKit in
/-- (*strings.Builder).String: "String returns the accumulated string.": WHATEVER THE BUILDER HOLDS. (LAID: no walk: one application.) -/
theorem Try.Builder_String_any (B b : Nat) (l : List UInt8) (w : World) (h : Lib.IsBuilder 92 5 B b (Lib.byteCells l) w) (hBw : B ≤ w.heap.size) :
  Calls Try.prog 63 #[.pointer (some ⟨b, 0, none⟩)] w fun e w' => e = .returned (.string ⟨l.toArray⟩) ∧ Below B w w' := Any.Builder_String_any Try.lays169 Try.Builder_Extra_169 B b l w h hBw
def Try.lays241_ren : Go.Shelf.Ren := ⟨fun | 241 => 87 | 277 => 91 | n => n, fun | 70 => 90 | 3 => 3 | 0 => 0 | 72 => 92 | 37 => 62 | 5 => 5 | n => n, fun | n => n⟩
theorem Try.lays241 : Go.Proofs.Lays.n241 Try.prog Try.lays241_ren := {
 mixed := by kernel_rfl
 f241 := Try.func87.trans (congrArg some (by kernel_rfl))
 f277 := Try.func91.trans (congrArg some (by kernel_rfl))
 t0 := Try.underlying0
 a0 := Try.isAgg0
 z0 := Try.sizeOf0
 v0 := Try.zeroValue0
 t3 := Try.underlying3
 a3 := Try.isAgg3
 z3 := Try.sizeOf3
 v3 := Try.zeroValue3
 t37 := Try.underlying62
 a37 := Try.isAgg62
 z37 := Try.sizeOf62
 v37 := Try.zeroValue62
 t70 := Try.underlying90
 a70 := Try.isAgg90
 z70 := Try.sizeOf90
 v70 := Try.zeroValue90
 t72 := Try.underlying92
 a72 := Try.isAgg92
 z72 := Try.sizeOf92
 v72 := Try.zeroValue92 }
theorem Try.Builder_Extra_241 : Builder.Extra Try.prog Try.lays241_ren := {
 sizeBuilder := by kernel_rfl
 liesBuilder := by kernel_rfl
 t5 := Try.underlying5
 a5 := Try.isAgg5
 z5 := Try.sizeOf5
 v5 := Try.zeroValue5
 infoByte := by kernel_rfl
 cellsByte := by kernel_rfl
 sizeByte := by kernel_rfl
 neB5 := by decide }
open Go.RowKit in
/-- (*strings.Builder).grow (no doc but "grow copies the buffer to a new, larger buffer so that there are at least n bytes of capacity beyond len(b.buf)."): AT A BUILDER WITHOUT A BUFFER: a new row of whatever bytes for its buffer, none of them its own yet. Three draws. (LAID: no walk: one application.) -/
theorem Try.Builder_grow_fresh (B b n : Nat) (w : World) (hB : B ≤ b) (hbk : w.heap[b]? = some (.cells #[.pointer (some ⟨b, 0, none⟩), .slice none 0 0] 92 (0, 0))) (hBw : B ≤ w.heap.size) (hn : n ≤ 281474976710656) :
  Calls Try.prog 87 #[.pointer (some ⟨b, 0, none⟩), .int .i64 n] w fun e w' => e = .returned (.tuple #[]) ∧ (Lib.BuilderAt 92 5 B b (.pointer (some ⟨b, 0, none⟩)) [] w' ∧ Below B w w') := Any.Builder_grow_fresh Try.lays241 Try.Builder_Extra_241 B b n w hB hbk hBw hn
def Try.lays165_ren : Go.Shelf.Ren := ⟨fun | 165 => 60 | 240 => 86 | 241 => 87 | 276 => 90 | 277 => 91 | n => n, fun | 70 => 90 | 3 => 3 | 0 => 0 | 4 => 4 | 9 => 9 | 20 => 20 | 72 => 92 | 37 => 62 | 164 => 120 | 5 => 5 | n => n, fun | n => n⟩
theorem Try.lays165 : Go.Proofs.Lays.n165 Try.prog Try.lays165_ren := {
 mixed := by kernel_rfl
 f165 := Try.func60.trans (congrArg some (by kernel_rfl))
 f240 := Try.func86.trans (congrArg some (by kernel_rfl))
 f241 := Try.func87.trans (congrArg some (by kernel_rfl))
 f276 := Try.func90.trans (congrArg some (by kernel_rfl))
 f277 := Try.func91.trans (congrArg some (by kernel_rfl))
 t0 := Try.underlying0
 a0 := Try.isAgg0
 z0 := Try.sizeOf0
 v0 := Try.zeroValue0
 t3 := Try.underlying3
 a3 := Try.isAgg3
 z3 := Try.sizeOf3
 v3 := Try.zeroValue3
 t4 := Try.underlying4
 a4 := Try.isAgg4
 z4 := Try.sizeOf4
 v4 := Try.zeroValue4
 t9 := Try.underlying9
 a9 := Try.isAgg9
 z9 := Try.sizeOf9
 v9 := Try.zeroValue9
 t20 := Try.underlying20
 a20 := Try.isAgg20
 z20 := Try.sizeOf20
 v20 := Try.zeroValue20
 t37 := Try.underlying62
 a37 := Try.isAgg62
 z37 := Try.sizeOf62
 v37 := Try.zeroValue62
 t70 := Try.underlying90
 a70 := Try.isAgg90
 z70 := Try.sizeOf90
 v70 := Try.zeroValue90
 t72 := Try.underlying92
 a72 := Try.isAgg92
 z72 := Try.sizeOf92
 v72 := Try.zeroValue92
 t164 := Try.underlying120
 a164 := Try.isAgg120
 z164 := Try.sizeOf120
 v164 := Try.zeroValue120 }
theorem Try.Builder_Extra_165 : Builder.Extra Try.prog Try.lays165_ren := {
 sizeBuilder := by kernel_rfl
 liesBuilder := by kernel_rfl
 t5 := Try.underlying5
 a5 := Try.isAgg5
 z5 := Try.sizeOf5
 v5 := Try.zeroValue5
 infoByte := by kernel_rfl
 cellsByte := by kernel_rfl
 sizeByte := by kernel_rfl
 neB5 := by decide }
open Go.RowKit in
/-- (*strings.Builder).Grow AT A BUILDER THAT HAS NOT BEEN WRITTEN ('var b strings.Builder; b.Grow(n)'): "Grow grows b's capacity, if necessary, to guarantee space for another n bytes.": it holds no byte behind it as before it. (LAID: no walk: one application.) -/
theorem Try.Builder_Grow_fresh (B b n : Nat) (w : World) (hB : B ≤ b) (hbk : w.heap[b]? = some (.cells #[.pointer none, .slice none 0 0] 92 (0, 0))) (hBw : B ≤ w.heap.size) (hn : n ≤ 281474976710656) :
  Calls Try.prog 60 #[.pointer (some ⟨b, 0, none⟩), .int .i64 n] w fun e w' => e = .returned (.tuple #[]) ∧ (Lib.BuilderAt 92 5 B b (.pointer (some ⟨b, 0, none⟩)) [] w' ∧ Below B w w') := Any.Builder_Grow_fresh Try.lays165 Try.Builder_Extra_165 B b n w hB hbk hBw hn
open Go.RowKit in
/-- (*strings.Builder).Len: "Len returns the number of accumulated bytes; b.Len() == len(b.String()).": the world is as it was. (THE FORM '_f': 'Lib.IsBuilderF'.) (LAID: no walk: one application.) -/
theorem Try.Builder_Len_f (B b : Nat) (bs : List Value) (w : World) (h : Lib.IsBuilderF 92 5 B b bs w) :
  Calls Try.prog 62 #[.pointer (some ⟨b, 0, none⟩)] w fun e w' => e = .returned (.int .i64 bs.length) ∧ w' = w := Any.Builder_Len_f Try.lays170 B b bs w h
open Go.RowKit in
/-- (*strings.Builder).String: "String returns the accumulated string.": OF A BUILDER THAT HOLDS AT LEAST ONE BYTE. ✋ THE MODEL FREEZES THOSE BYTES IN THE BUFFER (unsafe.String): a later write INTO them ends the model's run without an answer; a later append BEHIND them goes on. The statement's order of evaluation is drawn: one draw. THE FORM '_f': IT SAYS BESIDES THAT THE BUILDER IS A BUILDER STILL ('Lib.IsBuilderF', the same bytes): SO IT CAN BE WRITTEN ON: 'b.WriteString(b.String()[:k])'. (LAID: no walk: one application.) -/
theorem Try.Builder_String_f (B b : Nat) (l : List UInt8) (w : World) (h : Lib.IsBuilderF 92 5 B b (Lib.byteCells l) w) (h0 : l ≠ []) :
  Calls Try.prog 63 #[.pointer (some ⟨b, 0, none⟩)] w fun e w' => e = .returned (.string ⟨l.toArray⟩) ∧ (Lib.IsBuilderF 92 5 B b (Lib.byteCells l) w' ∧ Below B w w') := Any.Builder_String_f Try.lays169 Try.Builder_Extra_169 B b l w h h0
open Go.RowKit in
/-- (*strings.Builder).String OF A BUILDER THAT HOLDS NO BYTE: the empty string; THE FORM '_f': a builder still. (LAID: no walk: one application.) -/
theorem Try.Builder_String_empty_f (B b : Nat) (w : World) (h : Lib.IsBuilderF 92 5 B b [] w) (hBw : B ≤ w.heap.size) :
  Calls Try.prog 63 #[.pointer (some ⟨b, 0, none⟩)] w fun e w' => e = .returned (.string ⟨#[]⟩) ∧ (Lib.IsBuilderF 92 5 B b [] w' ∧ Below B w w') := Any.Builder_String_empty_f Try.lays169 Try.Builder_Extra_169 B b w h hBw
open Go.RowKit in
/-- (*strings.Builder).String: "String returns the accumulated string.": WHATEVER THE BUILDER HOLDS; THE FORM '_f': OF A BUILDER THAT MAY HAVE BEEN READ BEFORE; AND IT IS A BUILDER STILL, holding the same bytes: it can be written on. (LAID: no walk: one application.) -/
theorem Try.Builder_String_any_f (B b : Nat) (l : List UInt8) (w : World) (h : Lib.IsBuilderF 92 5 B b (Lib.byteCells l) w) (hBw : B ≤ w.heap.size) :
  Calls Try.prog 63 #[.pointer (some ⟨b, 0, none⟩)] w fun e w' => e = .returned (.string ⟨l.toArray⟩) ∧ (Lib.IsBuilderF 92 5 B b (Lib.byteCells l) w' ∧ Below B w w') := Any.Builder_String_any_f Try.lays169 Try.Builder_Extra_169 B b l w h hBw
def Try.lays206_ren : Go.Shelf.Ren := ⟨fun | 206 => 85 | n => n, fun | 9 => 9 | 4 => 4 | 3 => 3 | n => n, fun | n => n⟩
theorem Try.lays206 : Go.Proofs.Lays.n206 Try.prog Try.lays206_ren := {
 mixed := by kernel_rfl
 f206 := Try.func85.trans (congrArg some (by kernel_rfl))
 t3 := Try.underlying3
 a3 := Try.isAgg3
 z3 := Try.sizeOf3
 v3 := Try.zeroValue3
 t4 := Try.underlying4
 a4 := Try.isAgg4
 z4 := Try.sizeOf4
 v4 := Try.zeroValue4
 t9 := Try.underlying9
 a9 := Try.isAgg9
 z9 := Try.sizeOf9
 v9 := Try.zeroValue9 }
open Go.RowKit Go.Lib in
/-- internal/stringslite.HasPrefix (what strings.HasPrefix calls). (LAID: no walk: one application.) -/
theorem Try.stringslite_HasPrefix (s p : ByteArray) (w : World) :
  Calls Try.prog 85 #[.string s, .string p] w fun e w' => e = .returned (.bool (Lib.hasPrefix s.data.toList p.data.toList)) ∧ w' = w := Any.stringslite_HasPrefix Try.lays206 s p w
def Try.lays99_ren : Go.Shelf.Ren := ⟨fun | 99 => 59 | 206 => 85 | n => n, fun | 9 => 9 | 4 => 4 | 3 => 3 | n => n, fun | n => n⟩
theorem Try.lays99 : Go.Proofs.Lays.n99 Try.prog Try.lays99_ren := {
 mixed := by kernel_rfl
 f99 := Try.func59.trans (congrArg some (by kernel_rfl))
 f206 := Try.func85.trans (congrArg some (by kernel_rfl))
 t3 := Try.underlying3
 a3 := Try.isAgg3
 z3 := Try.sizeOf3
 v3 := Try.zeroValue3
 t4 := Try.underlying4
 a4 := Try.isAgg4
 z4 := Try.sizeOf4
 v4 := Try.zeroValue4
 t9 := Try.underlying9
 a9 := Try.isAgg9
 z9 := Try.sizeOf9
 v9 := Try.zeroValue9 }
open Go.RowKit Go.Lib in
/-- strings.HasPrefix: "HasPrefix reports whether the string s begins with prefix.": IT RETURNS 'Lib.hasPrefix s prefix'; the world is as it was. (LAID: no walk: one application.) -/
theorem Try.strings_HasPrefix (s p : ByteArray) (w : World) :
  Calls Try.prog 59 #[.string s, .string p] w fun e w' => e = .returned (.bool (Lib.hasPrefix s.data.toList p.data.toList)) ∧ w' = w := Any.strings_HasPrefix Try.lays99 s p w
def Try.lays264_ren : Go.Shelf.Ren := ⟨fun | 264 => 56 | n => n, fun | 53 => 22 | 46 => 50 | n => n, fun | n => n⟩
theorem Try.lays264 : Go.Proofs.Lays.n264 Try.prog Try.lays264_ren := {
 mixed := by kernel_rfl
 f264 := Try.func56.trans (congrArg some (by kernel_rfl))
 t46 := Try.underlying50
 a46 := Try.isAgg50
 z46 := Try.sizeOf50
 v46 := Try.zeroValue50
 t53 := Try.underlying22
 a53 := Try.isAgg22
 z53 := Try.sizeOf22
 v53 := Try.zeroValue22 }
open Go.RowKit Go.Lib in
theorem Try.bits_Mul64 (x y : Nat) (hx : x < 18446744073709551616) (hy : y < 18446744073709551616) (w : World) :
  Calls Try.prog 56 #[.int .u64 x, .int .u64 y] w fun e w' => e = .returned (.tuple #[.int .u64 ((x * y / 18446744073709551616 : Nat) : Int), .int .u64 ((x * y % 18446744073709551616 : Nat) : Int)]) ∧ w' = w := Any.bits_Mul64 Try.lays264 x y hx hy w
def Try.lays212_ren : Go.Shelf.Ren := ⟨fun | 212 => 58 | 263 => 84 | 264 => 56 | n => n, fun | 46 => 50 | 51 => 116 | 146 => 117 | 53 => 22 | 148 => 81 | n => n, fun | n => n⟩
theorem Try.lays212 : Go.Proofs.Lays.n212 Try.prog Try.lays212_ren := {
 mixed := by kernel_rfl
 f212 := Try.func58.trans (congrArg some (by kernel_rfl))
 f263 := Try.func84.trans (congrArg some (by kernel_rfl))
 f264 := Try.func56.trans (congrArg some (by kernel_rfl))
 t46 := Try.underlying50
 a46 := Try.isAgg50
 z46 := Try.sizeOf50
 v46 := Try.zeroValue50
 t51 := Try.underlying116
 a51 := Try.isAgg116
 z51 := Try.sizeOf116
 v51 := Try.zeroValue116
 t53 := Try.underlying22
 a53 := Try.isAgg22
 z53 := Try.sizeOf22
 v53 := Try.zeroValue22
 t146 := Try.underlying117
 a146 := Try.isAgg117
 z146 := Try.sizeOf117
 v146 := Try.zeroValue117
 t148 := Try.underlying81
 a148 := Try.isAgg81
 z148 := Try.sizeOf81
 v148 := Try.zeroValue81 }
open Go.RowKit Go.Lib in
/-- math/bits.Mul: "Mul returns the full-width product of x and y": on a machine of 64 bits: Mul64's. (LAID: no walk: one application.) -/
theorem Try.bits_Mul (x y : Nat) (hx : x < 18446744073709551616) (hy : y < 18446744073709551616) (w : World) :
  Calls Try.prog 58 #[.int .u64 x, .int .u64 y] w fun e w' => e = .returned (.tuple #[.int .u64 ((x * y / 18446744073709551616 : Nat) : Int), .int .u64 ((x * y % 18446744073709551616 : Nat) : Int)]) ∧ w' = w := Any.bits_Mul Try.lays212 x y hx hy w
def Try.lays105_ren : Go.Shelf.Ren := ⟨fun | 105 => 34 | 212 => 58 | 99 => 59 | 165 => 60 | 166 => 61 | 170 => 62 | 169 => 63 | 263 => 84 | 264 => 56 | 206 => 85 | 240 => 86 | 241 => 87 | 276 => 90 | 277 => 91 | n => n, fun | 9 => 9 | 3 => 3 | 4 => 4 | 20 => 20 | 0 => 0 | 46 => 50 | 109 => 87 | 5 => 5 | 72 => 92 | 76 => 96 | 51 => 116 | 146 => 117 | 53 => 22 | 148 => 81 | 70 => 90 | 37 => 62 | 75 => 95 | 127 => 119 | 164 => 120 | 80 => 99 | n => n, fun | n => n⟩
theorem Try.lays105 : Go.Proofs.Lays.n105 Try.prog Try.lays105_ren := {
 mixed := by kernel_rfl
 f99 := Try.func59.trans (congrArg some (by kernel_rfl))
 f105 := Try.func34.trans (congrArg some (by kernel_rfl))
 f165 := Try.func60.trans (congrArg some (by kernel_rfl))
 f166 := Try.func61.trans (congrArg some (by kernel_rfl))
 f169 := Try.func63.trans (congrArg some (by kernel_rfl))
 f170 := Try.func62.trans (congrArg some (by kernel_rfl))
 f206 := Try.func85.trans (congrArg some (by kernel_rfl))
 f212 := Try.func58.trans (congrArg some (by kernel_rfl))
 f240 := Try.func86.trans (congrArg some (by kernel_rfl))
 f241 := Try.func87.trans (congrArg some (by kernel_rfl))
 f263 := Try.func84.trans (congrArg some (by kernel_rfl))
 f264 := Try.func56.trans (congrArg some (by kernel_rfl))
 f276 := Try.func90.trans (congrArg some (by kernel_rfl))
 f277 := Try.func91.trans (congrArg some (by kernel_rfl))
 t0 := Try.underlying0
 a0 := Try.isAgg0
 z0 := Try.sizeOf0
 v0 := Try.zeroValue0
 t3 := Try.underlying3
 a3 := Try.isAgg3
 z3 := Try.sizeOf3
 v3 := Try.zeroValue3
 t4 := Try.underlying4
 a4 := Try.isAgg4
 z4 := Try.sizeOf4
 v4 := Try.zeroValue4
 t5 := Try.underlying5
 a5 := Try.isAgg5
 z5 := Try.sizeOf5
 v5 := Try.zeroValue5
 t9 := Try.underlying9
 a9 := Try.isAgg9
 z9 := Try.sizeOf9
 v9 := Try.zeroValue9
 t20 := Try.underlying20
 a20 := Try.isAgg20
 z20 := Try.sizeOf20
 v20 := Try.zeroValue20
 t37 := Try.underlying62
 a37 := Try.isAgg62
 z37 := Try.sizeOf62
 v37 := Try.zeroValue62
 t46 := Try.underlying50
 a46 := Try.isAgg50
 z46 := Try.sizeOf50
 v46 := Try.zeroValue50
 t51 := Try.underlying116
 a51 := Try.isAgg116
 z51 := Try.sizeOf116
 v51 := Try.zeroValue116
 t53 := Try.underlying22
 a53 := Try.isAgg22
 z53 := Try.sizeOf22
 v53 := Try.zeroValue22
 t70 := Try.underlying90
 a70 := Try.isAgg90
 z70 := Try.sizeOf90
 v70 := Try.zeroValue90
 t72 := Try.underlying92
 a72 := Try.isAgg92
 z72 := Try.sizeOf92
 v72 := Try.zeroValue92
 t75 := Try.underlying95
 a75 := Try.isAgg95
 z75 := Try.sizeOf95
 v75 := Try.zeroValue95
 t76 := Try.underlying96
 a76 := Try.isAgg96
 z76 := Try.sizeOf96
 v76 := Try.zeroValue96
 t109 := Try.underlying87
 a109 := Try.isAgg87
 z109 := Try.sizeOf87
 v109 := Try.zeroValue87
 t127 := Try.underlying119
 a127 := Try.isAgg119
 z127 := Try.sizeOf119
 v127 := Try.zeroValue119
 t146 := Try.underlying117
 a146 := Try.isAgg117
 z146 := Try.sizeOf117
 v146 := Try.zeroValue117
 t148 := Try.underlying81
 a148 := Try.isAgg81
 z148 := Try.sizeOf81
 v148 := Try.zeroValue81
 t164 := Try.underlying120
 a164 := Try.isAgg120
 z164 := Try.sizeOf120
 v164 := Try.zeroValue120 }
theorem Try.Builder_Extra_105 : Builder.Extra Try.prog Try.lays105_ren := {
 sizeBuilder := by kernel_rfl
 liesBuilder := by kernel_rfl
 t5 := Try.underlying5
 a5 := Try.isAgg5
 z5 := Try.sizeOf5
 v5 := Try.zeroValue5
 infoByte := by kernel_rfl
 cellsByte := by kernel_rfl
 sizeByte := by kernel_rfl
 neB5 := by decide }
open Go.RowKit Go.Lib in
/-- THE MAIN CASE: at least two copies of a string that is not empty. (LAID: no walk: one application.) -/
theorem Try.strings_Repeat_main (s : ByteArray) (c : Nat) (w : World) (hc2 : 2 ≤ c) (hc : c ≤ 9223372036854775807) (hlen : s.size * c ≤ 140737488355328) (h0 : 0 < s.size) :
  Calls Try.prog 34 #[.string s, .int .i64 c] w fun e w' => e = .returned (.string ⟨(Lib.repeatL s.data.toList c).toArray⟩) ∧ Below w.heap.size w w' := Any.strings_Repeat_main Try.lays105 Try.Builder_Extra_105 s c w hc2 hc hlen h0
open Go.RowKit Go.Lib in
theorem Try.strings_Repeat_zero (s : ByteArray) (w : World) :
  Calls Try.prog 34 #[.string s, .int .i64 0] w fun e w' => e = .returned (.string ⟨#[]⟩) ∧ w' = w := Any.strings_Repeat_zero Try.lays105 s w
open Go.RowKit Go.Lib in
theorem Try.strings_Repeat_one (s : ByteArray) (w : World) :
  Calls Try.prog 34 #[.string s, .int .i64 1] w fun e w' => e = .returned (.string s) ∧ w' = w := Any.strings_Repeat_one Try.lays105 s w
open Go.RowKit Go.Lib in
/-- Copies of the empty string. (LAID: no walk: one application.) -/
theorem Try.strings_Repeat_empty (s : ByteArray) (c : Nat) (w : World) (hc2 : 2 ≤ c) (hc : c ≤ 9223372036854775807) (h0 : s.size = 0) :
  Calls Try.prog 34 #[.string s, .int .i64 c] w fun e w' => e = .returned (.string ⟨#[]⟩) ∧ w' = w := Any.strings_Repeat_empty Try.lays105 s c w hc2 hc h0
open Go.RowKit Go.Lib in
/-- count < 0: "It panics if count is negative". (LAID: no walk: one application.) -/
theorem Try.strings_Repeat_negative (s : ByteArray) (c : Int) (w : World) (hc : c < 0) :
  Calls Try.prog 34 #[.string s, .int .i64 c] w fun e w' => e = .panicked [{ v := repeatPanic Try.lays105_ren "strings: negative Repeat count", recovered := false }] ∧ w' = w := Any.strings_Repeat_negative Try.lays105 s c w hc
open Go.RowKit Go.Lib in
/-- len(s) * count is no int: ".. or if the result of (len(s) * count) overflows". (LAID: no walk: one application.) -/
theorem Try.strings_Repeat_overflow (s : ByteArray) (c : Nat) (w : World) (hc : c ≤ 9223372036854775807) (hs : s.size ≤ 9223372036854775807) (hbig : 9223372036854775807 < s.size * c) :
  Calls Try.prog 34 #[.string s, .int .i64 c] w fun e w' => e = .panicked [{ v := repeatPanic Try.lays105_ren "strings: Repeat output length overflow", recovered := false }] ∧ w' = w := Any.strings_Repeat_overflow Try.lays105 s c w hc hs hbig
open Go.RowKit Go.Lib in
/-- **strings.Repeat: count ≥ 0, the result within one allocation: count copies of s.** (LAID: no walk: one application.) -/
theorem Try.strings_Repeat (s : ByteArray) (c : Nat) (w : World) (hc : c ≤ 9223372036854775807) (hlen : s.size * c ≤ 140737488355328) :
  Calls Try.prog 34 #[.string s, .int .i64 c] w fun e w' => e = .returned (.string ⟨(Lib.repeatL s.data.toList c).toArray⟩) ∧ Below w.heap.size w w' := Any.strings_Repeat Try.lays105 Try.Builder_Extra_105 s c w hc hlen
end Go.Proofs

namespace Go.Proofs.Yc
open Go Go.RowKit Go.Proofs.Num
attribute [local irreducible] wpV wpN wpList
open Go.Proofs.Ya
theorem rightP_base : rightP baseP = true := by decide +kernel
theorem affX_base : affX baseP = baseX := by
 show fmul baseX (finv 1) = baseX
 rw [finv_one]
 decide +kernel
theorem affY_base : affY baseP = baseY := by
 show fmul baseY (finv 1) = baseY
 rw [finv_one]
 decide +kernel
theorem text_base : textQ baseX baseY = [88] ++ Lib.repeatL [102] 31 := by decide +kernel
theorem bytes_base {w : World} : Calls Try.prog 13 #[.agg (fel baseP.x ++ fel baseP.y ++ fel baseP.z ++ fel baseP.t : List Value).toArray] w fun e w' => e = .returned (.tuple #[.string (bs (textQ baseX baseY)), .int .i64 0]) ∧ Below w.heap.size w w' := by
 have h9 := Bytes_ok (w := w) baseP_ok rightP_base
 rw [affX_base, affY_base] at h9
 exact h9
theorem repeat_c {w : World} : Calls Try.prog 34 #[.string (bs [102]), .int .i64 31] w fun e w' => e = .returned (.string (bs (Lib.repeatL [102] 31))) ∧ Below w.heap.size w w' :=
 Try.strings_Repeat (bs [102]) 31 w (by decide) (by decide)
theorem or1_lt {z : Nat} (h : z < 18446744073709551616) : z ||| 1 < 18446744073709551616 := Nat.or_lt_two_pow (n := 64) h (by decide)
set_option maxHeartbeats 1000000 in
theorem alive06_c  {w : World}  :
  Calls Try.prog 11 #[] w fun e w' => e = .returned (.bool true) ∧ Below w.heap.size w w' := by
 go_enter Try.func11, Try.ntmps11
 have M := Mem.start w
 refine wp_seq_k (fun K1 hK1 => ?_)
 refine wp_region_seq ?_
 refine wpL_assign (v := .bool false) (by rfl) (by rfl) (by rfl) ?_
 simp only [putT, List.set]
 refine wpL_nil (no_panic ?_)
 refine hK1 _ _ ?_
 refine wp_seq_k (fun K3 hK3 => ?_)
 refine wp_region_seq ?_
 refine wpL_chunk 5 (by rfl) (fun Lk hLk => ?_)
 simp only [List.take, List.drop]
 refine wpV_callf (v := .agg (fel baseP.x ++ fel baseP.y ++ fel baseP.z ++ fel baseP.t : List Value).toArray) (args := #[]) (by rfl) rfl Try.func16 (by kernel_rfl) (by kernel_rfl) rfl (fun W hW => Base_c) ?_
 simp only [putT, List.set]
 refine wpV_callf (v := .tuple #[.string (bs (textQ baseX baseY)), .int .i64 0]) (args := #[.agg (fel baseP.x ++ fel baseP.y ++ fel baseP.z ++ fel baseP.t : List Value).toArray]) (by rfl) rfl Try.func13 (by kernel_rfl) (by kernel_rfl) rfl (fun W hW => bytes_base) ?_
 simp only [putT, List.set]
 refine wpV_move (v := .tuple #[.string (bs (textQ baseX baseY)), .int .i64 0]) (by rfl) rfl rfl ?_
 simp only [putT, List.set]
 refine wpV_extract (v := .string (bs (textQ baseX baseY))) (by rfl) rfl rfl rfl ?_
 simp only [putT, List.set]
 refine wpV_extract (v := .int .i64 0) (by rfl) rfl rfl rfl ?_
 simp only [putT, List.set]
 refine wpV_nil (hLk _ (fun w5 Sw5 => ?_))
 clear hLk Lk
 simp only [List.take, List.drop]
 replace M := M.sees Sw5
 refine wpL_assign (v := .string (bs (textQ baseX baseY))) (by rfl) (by rfl) (by rfl) ?_
 simp only [putT, List.set]
 refine wpL_assign (v := .int .i64 0) (by rfl) (by rfl) (by rfl) ?_
 simp only [putT, List.set]
 refine wpL_nil (no_panic ?_)
 refine hK3 _ _ ?_
 refine wp_seq_k (fun K6 hK6 => ?_)
 refine wp_region_seq ?_
 refine wpL_move (v := .int .i64 0) (by rfl) (by rfl) (by rfl) ?_
 simp only [putT, List.set]
 refine wpL_chunk 7 (by rfl) (fun Lk hLk => ?_)
 simp only [List.take, List.drop]
 refine wpV_bin (v := .bool true) (by rfl) rfl rfl rfl (fun W => run_eql _ _ _ _ W) ?_
 simp only [putT, List.set]
 refine wpV_move (v := .bool true) (by rfl) rfl rfl ?_
 simp only [putT, List.set]
 refine wpV_move (v := .string (bs (textQ baseX baseY))) (by rfl) rfl rfl ?_
 simp only [putT, List.set]
 refine wpV_callf (v := .string (bs (Lib.repeatL [102] 31))) (args := #[.string (bs ([102])), .int .i64 31]) (by rfl) rfl Try.func34 (by kernel_rfl) (by kernel_rfl) rfl (fun W hW => repeat_c) ?_
 simp only [putT, List.set]
 refine wpV_binS (v := .string (bs (([88]) ++ (Lib.repeatL [102] 31)))) (by rfl) rfl rfl rfl (run_add_bs _ _ _ (by decide)) ?_
 simp only [putT, List.set]
 refine wpV_binS (v := .bool true) (by rfl) rfl rfl rfl (fun W => (run_eql_bs _ _ _ W).trans (by rw [(decide_eq_true text_base)])) ?_
 simp only [putT, List.set]
 refine wpV_pick (v := .bool true) (by rfl) rfl rfl rfl ?_
 simp only [putT, List.set]
 refine wpV_nil (hLk _ (fun w8 Sw8 => ?_))
 clear hLk Lk
 simp only [List.take, List.drop]
 replace M := M.sees Sw8
 refine wpL_assign (v := .bool true) (by rfl) (by rfl) (by rfl) ?_
 simp only [putT, List.set]
 refine wpL_nil (no_panic ?_)
 refine hK6 _ _ ?_
 refine wp_ret ?_
 repeat (first | with_reducible refine then_ret ?_ | with_reducible refine inblock_ret ?_)
 refine bodyPost_ret (v := .bool true) (res1 rfl (.tmp (by rfl))) rfl ?_
 have BE := M.below
 exact ⟨rfl, BE⟩
set_option maxHeartbeats 2000000 in
theorem some_c {n z : Nat} {w : World} (hn : n < 2 ^ 256) (hz : z < 18446744073709551616) :
  Calls Try.prog 24 #[fe n, .int .u64 ((z : Nat) : Int)] w fun e w' => e = .returned (.tuple #[.agg (fel (scaleP (mulR n baseP 256) (z ||| 1)).x ++ fel (scaleP (mulR n baseP 256) (z ||| 1)).y ++ fel (scaleP (mulR n baseP 256) (z ||| 1)).z ++ fel (scaleP (mulR n baseP 256) (z ||| 1)).t : List Value).toArray, .bool (rightP (scaleP (mulR n baseP 256) (z ||| 1)))]) ∧ Below w.heap.size w w' := by
 go_enter Try.func24, Try.ntmps24
 have M := Mem.start w
 refine wp_seq_k (fun K1 hK1 => ?_)
 refine wp_region_seq ?_
 refine wpL_var (t := 39) (cs := fel n) (by rfl) (fun W => ?_) (fun g3 w4 Sw4 Hg3 Bg3 => ?_)
 ·
  (first | rfl | go_simp)
 replace M := ((M.sees Sw4).add (N := 4) (cs := fel n) (M.ge Hg3) (M.fresh Hg3) Bg3 rfl)
 clear Bg3
 simp only [putT, List.set]
 refine wpL_var (t := 26) (cs := [.int .u64 0, .int .u64 0, .int .u64 0, .int .u64 0, .int .u64 0, .int .u64 0, .int .u64 0, .int .u64 0, .int .u64 0, .int .u64 0, .int .u64 0, .int .u64 0, .int .u64 0, .int .u64 0, .int .u64 0, .int .u64 0]) (by rfl) (fun W => ?_) (fun g5 w6 Sw6 Hg5 Bg5 => ?_)
 ·
  go_simp
 replace M := ((M.sees Sw6).addS (N := 16) (cs := [.int .u64 0, .int .u64 0, .int .u64 0, .int .u64 0, .int .u64 0, .int .u64 0, .int .u64 0, .int .u64 0, .int .u64 0, .int .u64 0, .int .u64 0, .int .u64 0, .int .u64 0, .int .u64 0, .int .u64 0, .int .u64 0]) (segs := [(0, [.int .u64 0, .int .u64 0, .int .u64 0, .int .u64 0]), (4, [.int .u64 0, .int .u64 0, .int .u64 0, .int .u64 0]), (8, [.int .u64 0, .int .u64 0, .int .u64 0, .int .u64 0]), (12, [.int .u64 0, .int .u64 0, .int .u64 0, .int .u64 0])]) (M.ge Hg5) (M.fresh Hg5) Bg5 rfl ⟨rfl, rfl, rfl, rfl, trivial⟩)
 clear Bg5
 simp only [putT, List.set]
 refine wpL_assign (v := .bool false) (by rfl) (by rfl) (by rfl) ?_
 simp only [putT, List.set]
 refine wpL_nil (no_panic ?_)
 refine hK1 _ _ ?_
 refine wp_seq_k (fun K7 hK7 => ?_)
 refine wp_region_grow 7 [5] (by kernel_rfl) (by kernel_rfl) (by kernel_rfl) (fun Lk hLk => ?_)
 simp only [List.take, List.drop]
 refine wpV_load (cs := fel n) (by rfl) rfl rfl (M.r 1 0 rfl rfl) (M.lt 1 rfl) Try.underlying39 rfl info39 ?_
 simp only [putT, List.set]
 refine wpV_callf (v := .agg (fel baseP.x ++ fel baseP.y ++ fel baseP.z ++ fel baseP.t : List Value).toArray) (args := #[]) (by rfl) rfl Try.func16 (by kernel_rfl) (by kernel_rfl) rfl (fun W hW => Base_c) ?_
 simp only [putT, List.set]
 refine wpV_callf (v := .tuple #[.agg (fel (mulR n baseP 256).x ++ fel (mulR n baseP 256).y ++ fel (mulR n baseP 256).z ++ fel (mulR n baseP 256).t : List Value).toArray, .int .i64 0]) (args := #[fe n, .agg (fel baseP.x ++ fel baseP.y ++ fel baseP.z ++ fel baseP.t : List Value).toArray]) (by rfl) rfl Try.func23 (by kernel_rfl) (by kernel_rfl) rfl (fun W hW => Mul_ok hn baseP_ok rightP_base) ?_
 simp only [putT, List.set]
 refine wpV_move (v := .tuple #[.agg (fel (mulR n baseP 256).x ++ fel (mulR n baseP 256).y ++ fel (mulR n baseP 256).z ++ fel (mulR n baseP 256).t : List Value).toArray, .int .i64 0]) (by rfl) rfl rfl ?_
 simp only [putT, List.set]
 refine wpV_extract (v := .agg (fel (mulR n baseP 256).x ++ fel (mulR n baseP 256).y ++ fel (mulR n baseP 256).z ++ fel (mulR n baseP 256).t : List Value).toArray) (by rfl) rfl rfl rfl ?_
 simp only [putT, List.set]
 refine wpV_extract (v := .int .i64 0) (by rfl) rfl rfl rfl ?_
 simp only [putT, List.set]
 refine wpV_alloc (by rfl) ?_
 refine wpV_nil (hLk.out _ ?_)
 clear hLk Lk
 simp only [List.take, List.drop]
 iterate 6 refine wpN_skip (by rfl) ?_
 refine wpN_new (t := 26) (cs := ([.int .u64 0, .int .u64 0, .int .u64 0, .int .u64 0, .int .u64 0, .int .u64 0, .int .u64 0, .int .u64 0, .int .u64 0, .int .u64 0, .int .u64 0, .int .u64 0, .int .u64 0, .int .u64 0, .int .u64 0, .int .u64 0]).toArray) (by rfl) (fun W => ?_) (fun g9 Hg9 ng9 => ?_)
 ·
  go_simp
 simp only [putT, List.set]
 refine wpN_nil (fun w10 Sw10 hbs => ?_)
 replace M := ((M.sees Sw10).addS (N := 16) (cs := [.int .u64 0, .int .u64 0, .int .u64 0, .int .u64 0, .int .u64 0, .int .u64 0, .int .u64 0, .int .u64 0, .int .u64 0, .int .u64 0, .int .u64 0, .int .u64 0, .int .u64 0, .int .u64 0, .int .u64 0, .int .u64 0]) (segs := [(0, [.int .u64 0, .int .u64 0, .int .u64 0, .int .u64 0]), (4, [.int .u64 0, .int .u64 0, .int .u64 0, .int .u64 0]), (8, [.int .u64 0, .int .u64 0, .int .u64 0, .int .u64 0]), (12, [.int .u64 0, .int .u64 0, .int .u64 0, .int .u64 0])]) (M.ge Hg9) (M.fresh Hg9) (hbs _ (.head _)) rfl ⟨rfl, rfl, rfl, rfl, trivial⟩)
 clear hbs ng9
 refine wpL_store (g := g9) (off := 0) (n := 16) (cs := fel (mulR n baseP 256).x ++ fel (mulR n baseP 256).y ++ fel (mulR n baseP 256).z ++ fel (mulR n baseP 256).t) (by rfl) (by rfl) (by rfl) (by rfl) (by rfl) (M.t 0 rfl) (by simp [flen]) info26 (one4 _ _ _ _) (fun w11 P R T => ?_)
 replace M := M.put (segs' := [(0, fel (mulR n baseP 256).x), (4, fel (mulR n baseP 256).y), (8, fel (mulR n baseP 256).z), (12, fel (mulR n baseP 256).t)]) 0 rfl P T (SegsOf.at R ⟨rfl, rfl, rfl, rfl, trivial⟩)
 simp only [List.set] at M
 refine wpL_assign (v := .int .i64 0) (by rfl) (by rfl) (by rfl) ?_
 simp only [putT, List.set]
 refine wpL_nil (no_panic ?_)
 refine hK7 _ _ ?_
 refine wp_seq_k (fun K12 hK12 => ?_)
 refine wp_region_seq ?_
 refine wpL_move (v := .int .u64 ((z : Nat) : Int)) (by rfl) (by rfl) (by rfl) ?_
 simp only [putT, List.set]
 refine wpL_chunk 2 (by rfl) (fun Lk hLk => ?_)
 simp only [List.take, List.drop]
 refine wpV_bin (v := .int .u64 ((z ||| 1 : Nat) : Int)) (by rfl) rfl rfl rfl (fun W => nr_or64 hz (by decide) W) ?_
 simp only [putT, List.set]
 refine wpV_callf (v := fe (z ||| 1)) (args := #[.int .u64 ((z ||| 1 : Nat) : Int)]) (by rfl) rfl Try.func32 (by kernel_rfl) (by kernel_rfl) rfl (fun W hW => of_c (or1_lt hz) W) ?_
 simp only [putT, List.set]
 refine wpV_nil (hLk _ (fun w14 Sw14 => ?_))
 clear hLk Lk
 simp only [List.take, List.drop]
 replace M := M.sees Sw14
 refine wpL_var (t := 24) (cs := [.int .u64 0, .int .u64 0, .int .u64 0, .int .u64 0]) (by rfl) (fun W => ?_) (fun g15 w16 Sw16 Hg15 Bg15 => ?_)
 ·
  go_simp
 replace M := ((M.sees Sw16).add (N := 4) (cs := [.int .u64 0, .int .u64 0, .int .u64 0, .int .u64 0]) (M.ge Hg15) (M.fresh Hg15) Bg15 rfl)
 clear Bg15
 simp only [putT, List.set]
 refine wpL_store (g := g15) (off := 0) (n := 4) (cs := fel (z ||| 1)) (by rfl) (by rfl) (by rfl) (by rfl) (by rfl) (M.t 0 rfl) (by simp [flen]) info24 (fel_one _) (fun w17 P R T => ?_)
 replace M := M.putS 0 0 rfl P R T rfl ⟨.inl rfl, trivial⟩
 simp only [List.set] at M
 refine wpL_nil (no_panic ?_)
 refine hK12 _ _ ?_
 refine wp_seq_k (fun K18 hK18 => ?_)
 refine wp_region_grow 18 [] (by kernel_rfl) (by kernel_rfl) (by kernel_rfl) (fun Lk hLk => ?_)
 simp only [List.take, List.drop]
 refine wpV_val (v := .pointer (some ⟨g9, 0, none⟩)) (by rfl) (by rfl) (fun W hW => ?_) ?_
 ·
  (go_simp; exact rfl)
 simp only [putT, List.set]
 refine wpV_load (cs := fel (mulR n baseP 256).x) (by rfl) rfl rfl (M.r 1 0 rfl rfl) (M.lt 1 rfl) Try.underlying24 rfl info24 ?_
 simp only [putT, List.set]
 refine wpV_load (cs := fel (z ||| 1)) (by rfl) rfl rfl (M.r 0 0 rfl rfl) (M.lt 0 rfl) Try.underlying24 rfl info24 ?_
 simp only [putT, List.set]
 refine wpV_callf (v := fe (fmul ((mulR n baseP 256).x) (z ||| 1))) (args := #[fe ((mulR n baseP 256).x), fe (z ||| 1)]) (by rfl) rfl Try.func39 (by kernel_rfl) (by kernel_rfl) rfl (fun W hW => fmul_c ((mulR_ok ..).x) (Nat.lt_trans (or1_lt hz) (by decide)) W) ?_
 simp only [putT, List.set]
 refine wpV_val (v := .pointer (some ⟨g9, 4, none⟩)) (by rfl) (by rfl) (fun W hW => ?_) ?_
 ·
  (go_simp; exact rfl)
 simp only [putT, List.set]
 refine wpV_load (cs := fel (mulR n baseP 256).y) (by rfl) rfl rfl (M.r 1 1 rfl rfl) (M.lt 1 rfl) Try.underlying24 rfl info24 ?_
 simp only [putT, List.set]
 refine wpV_load (cs := fel (z ||| 1)) (by rfl) rfl rfl (M.r 0 0 rfl rfl) (M.lt 0 rfl) Try.underlying24 rfl info24 ?_
 simp only [putT, List.set]
 refine wpV_callf (v := fe (fmul ((mulR n baseP 256).y) (z ||| 1))) (args := #[fe ((mulR n baseP 256).y), fe (z ||| 1)]) (by rfl) rfl Try.func39 (by kernel_rfl) (by kernel_rfl) rfl (fun W hW => fmul_c ((mulR_ok ..).y) (Nat.lt_trans (or1_lt hz) (by decide)) W) ?_
 simp only [putT, List.set]
 refine wpV_val (v := .pointer (some ⟨g9, 8, none⟩)) (by rfl) (by rfl) (fun W hW => ?_) ?_
 ·
  (go_simp; exact rfl)
 simp only [putT, List.set]
 refine wpV_load (cs := fel (mulR n baseP 256).z) (by rfl) rfl rfl (M.r 1 2 rfl rfl) (M.lt 1 rfl) Try.underlying24 rfl info24 ?_
 simp only [putT, List.set]
 refine wpV_load (cs := fel (z ||| 1)) (by rfl) rfl rfl (M.r 0 0 rfl rfl) (M.lt 0 rfl) Try.underlying24 rfl info24 ?_
 simp only [putT, List.set]
 refine wpV_callf (v := fe (fmul ((mulR n baseP 256).z) (z ||| 1))) (args := #[fe ((mulR n baseP 256).z), fe (z ||| 1)]) (by rfl) rfl Try.func39 (by kernel_rfl) (by kernel_rfl) rfl (fun W hW => fmul_c ((mulR_ok ..).z) (Nat.lt_trans (or1_lt hz) (by decide)) W) ?_
 simp only [putT, List.set]
 refine wpV_val (v := .pointer (some ⟨g9, 12, none⟩)) (by rfl) (by rfl) (fun W hW => ?_) ?_
 ·
  (go_simp; exact rfl)
 simp only [putT, List.set]
 refine wpV_load (cs := fel (mulR n baseP 256).t) (by rfl) rfl rfl (M.r 1 3 rfl rfl) (M.lt 1 rfl) Try.underlying24 rfl info24 ?_
 simp only [putT, List.set]
 refine wpV_load (cs := fel (z ||| 1)) (by rfl) rfl rfl (M.r 0 0 rfl rfl) (M.lt 0 rfl) Try.underlying24 rfl info24 ?_
 simp only [putT, List.set]
 refine wpV_callf (v := fe (fmul ((mulR n baseP 256).t) (z ||| 1))) (args := #[fe ((mulR n baseP 256).t), fe (z ||| 1)]) (by rfl) rfl Try.func39 (by kernel_rfl) (by kernel_rfl) rfl (fun W hW => fmul_c ((mulR_ok ..).t) (Nat.lt_trans (or1_lt hz) (by decide)) W) ?_
 simp only [putT, List.set]
 refine wpV_val (v := .agg ((fel (fmul ((mulR n baseP 256).x) (z ||| 1))) ++ (fel (fmul ((mulR n baseP 256).y) (z ||| 1))) ++ (fel (fmul ((mulR n baseP 256).z) (z ||| 1))) ++ (fel (fmul ((mulR n baseP 256).t) (z ||| 1))) : List Value).toArray) (by rfl) (by rfl) (fun W hW => ?_) ?_
 ·
  (unfold RunsVal; kernel_rfl)
 simp only [putT, List.set]
 refine wpV_alloc (by rfl) ?_
 refine wpV_nil (hLk.out _ ?_)
 clear hLk Lk
 simp only [List.take, List.drop]
 iterate 17 refine wpN_skip (by rfl) ?_
 refine wpN_new (t := 26) (cs := ([.int .u64 0, .int .u64 0, .int .u64 0, .int .u64 0, .int .u64 0, .int .u64 0, .int .u64 0, .int .u64 0, .int .u64 0, .int .u64 0, .int .u64 0, .int .u64 0, .int .u64 0, .int .u64 0, .int .u64 0, .int .u64 0]).toArray) (by rfl) (fun W => ?_) (fun g20 Hg20 ng20 => ?_)
 ·
  go_simp
 simp only [putT, List.set]
 refine wpN_nil (fun w21 Sw21 hbs => ?_)
 replace M := ((M.sees Sw21).addS (N := 16) (cs := [.int .u64 0, .int .u64 0, .int .u64 0, .int .u64 0, .int .u64 0, .int .u64 0, .int .u64 0, .int .u64 0, .int .u64 0, .int .u64 0, .int .u64 0, .int .u64 0, .int .u64 0, .int .u64 0, .int .u64 0, .int .u64 0]) (segs := [(0, [.int .u64 0, .int .u64 0, .int .u64 0, .int .u64 0]), (4, [.int .u64 0, .int .u64 0, .int .u64 0, .int .u64 0]), (8, [.int .u64 0, .int .u64 0, .int .u64 0, .int .u64 0]), (12, [.int .u64 0, .int .u64 0, .int .u64 0, .int .u64 0])]) (M.ge Hg20) (M.fresh Hg20) (hbs _ (.head _)) rfl ⟨rfl, rfl, rfl, rfl, trivial⟩)
 clear hbs ng20
 refine wpL_store (g := g20) (off := 0) (n := 16) (cs := (fel (fmul ((mulR n baseP 256).x) (z ||| 1))) ++ (fel (fmul ((mulR n baseP 256).y) (z ||| 1))) ++ (fel (fmul ((mulR n baseP 256).z) (z ||| 1))) ++ (fel (fmul ((mulR n baseP 256).t) (z ||| 1)))) (by rfl) (by rfl) (by rfl) (by rfl) (by rfl) (M.t 0 rfl) (by simp [flen]) info26 (one4 _ _ _ _) (fun w22 P R T => ?_)
 replace M := M.put (segs' := [(0, fel (fmul ((mulR n baseP 256).x) (z ||| 1))), (4, fel (fmul ((mulR n baseP 256).y) (z ||| 1))), (8, fel (fmul ((mulR n baseP 256).z) (z ||| 1))), (12, fel (fmul ((mulR n baseP 256).t) (z ||| 1)))]) 0 rfl P T (SegsOf.at R ⟨rfl, rfl, rfl, rfl, trivial⟩)
 simp only [List.set] at M
 refine wpL_nil (no_panic ?_)
 refine hK18 _ _ ?_
 refine wp_seq_k (fun K23 hK23 => ?_)
 refine wp_region_treeN (by kernel_rfl) (fun w25 Sw25 => ?_)
 replace M := M.sees Sw25
 refine any_first 1 (v := .int .i64 0) (by rfl) (by kernel_rfl) nopanic_not (by rfl) (by exact yl_move rfl rfl) ?_
 simp only [putT, List.set]
 refine any_step [0, 2] (by kernel_rfl) rfl (any_two ?_ (any_one ?_))
 ·
  refine any_opL 0 (by rfl) ?_
  simp only [List.take, List.drop]
  refine wpL_chunk 1 (by rfl) (fun Lk hLk => ?_)
  simp only [List.take, List.drop]
  refine wpV_load (cs := fel (fmul ((mulR n baseP 256).x) (z ||| 1)) ++ (fel (fmul ((mulR n baseP 256).y) (z ||| 1))) ++ (fel (fmul ((mulR n baseP 256).z) (z ||| 1))) ++ (fel (fmul ((mulR n baseP 256).t) (z ||| 1)))) (by rfl) rfl rfl (range_join (range_join (range_join (M.r 0 0 rfl rfl) (M.r 0 1 rfl rfl) (by simp [flen])) (M.r 0 2 rfl rfl) (by simp [flen])) (M.r 0 3 rfl rfl) (by simp [flen])) (M.lt 0 rfl) Try.underlying26 rfl info26 ?_
  simp only [putT, List.set]
  refine wpV_nil (hLk _ (fun w26 Sw26 => ?_))
  clear hLk Lk
  simp only [List.take, List.drop]
  replace M := M.sees Sw26
  refine wpL_nil (then_normal ?_)
  refine any_step [2] (by kernel_rfl) rfl (any_one ?_)
  refine any_opL 2 (by rfl) ?_
  simp only [List.take, List.drop]
  refine wpL_chunk 1 (by rfl) (fun Lk hLk => ?_)
  simp only [List.take, List.drop]
  refine wpV_bin (v := .bool true) (by rfl) rfl rfl rfl (fun W => run_eql _ _ _ _ W) ?_
  simp only [putT, List.set]
  refine wpV_nil (hLk _ (fun w27 Sw27 => ?_))
  clear hLk Lk
  simp only [List.take, List.drop]
  replace M := M.sees Sw27
  refine wpL_nil (then_normal ?_)
  refine any_first 3 (v := .bool true) (by rfl) (by kernel_rfl) nopanic_not (by rfl) (by exact yl_move rfl rfl) ?_
  simp only [putT, List.set]
  refine any_step [4] (by kernel_rfl) rfl (any_one ?_)
  refine any_opL 4 (by rfl) ?_
  simp only [List.take, List.drop]
  refine wpL_guard (by rfl) ?_
  refine wpL_chunk 1 (by rfl) (fun Lk hLk => ?_)
  simp only [List.take, List.drop]
  refine wpV_load (cs := fel (fmul ((mulR n baseP 256).x) (z ||| 1)) ++ (fel (fmul ((mulR n baseP 256).y) (z ||| 1))) ++ (fel (fmul ((mulR n baseP 256).z) (z ||| 1))) ++ (fel (fmul ((mulR n baseP 256).t) (z ||| 1)))) (by rfl) rfl rfl (range_join (range_join (range_join (M.r 0 0 rfl rfl) (M.r 0 1 rfl rfl) (by simp [flen])) (M.r 0 2 rfl rfl) (by simp [flen])) (M.r 0 3 rfl rfl) (by simp [flen])) (M.lt 0 rfl) Try.underlying26 rfl info26 ?_
  simp only [putT, List.set]
  refine wpV_nil (hLk _ (fun w28 Sw28 => ?_))
  clear hLk Lk
  simp only [List.take, List.drop]
  replace M := M.sees Sw28
  refine wpL_nil (then_normal ?_)
  refine any_step [5] (by kernel_rfl) rfl (any_one ?_)
  refine any_opL 5 (by rfl) ?_
  simp only [List.take, List.drop]
  refine wpL_guard (by rfl) ?_
  refine wpL_chunk 1 (by rfl) (fun Lk hLk => ?_)
  simp only [List.take, List.drop]
  refine wpV_callf (v := .bool (rightP (scaleP (mulR n baseP 256) (z ||| 1)))) (args := #[.agg (fel (fmul ((mulR n baseP 256).x) (z ||| 1)) ++ (fel (fmul ((mulR n baseP 256).y) (z ||| 1))) ++ (fel (fmul ((mulR n baseP 256).z) (z ||| 1))) ++ (fel (fmul ((mulR n baseP 256).t) (z ||| 1))) : List Value).toArray]) (by rfl) rfl Try.func17 (by kernel_rfl) (by kernel_rfl) rfl (fun W hW => right_c (scaleP_ok ..)) ?_
  simp only [putT, List.set]
  refine wpV_nil (hLk _ (fun w29 Sw29 => ?_))
  clear hLk Lk
  simp only [List.take, List.drop]
  replace M := M.sees Sw29
  refine wpL_nil (then_normal ?_)
  refine any_step [6, 7] (by kernel_rfl) rfl (any_two ?_ (any_one ?_))
  ·
   refine any_opL 6 (by rfl) ?_
   simp only [List.take, List.drop]
   refine wpL_chunk 1 (by rfl) (fun Lk hLk => ?_)
   simp only [List.take, List.drop]
   refine wpV_pick (v := .bool (rightP (scaleP (mulR n baseP 256) (z ||| 1)))) (by rfl) rfl rfl rfl ?_
   simp only [putT, List.set]
   refine wpV_nil (hLk _ (fun w30 Sw30 => ?_))
   clear hLk Lk
   simp only [List.take, List.drop]
   replace M := M.sees Sw30
   refine wpL_nil (then_normal ?_)
   refine any_step [7] (by kernel_rfl) rfl (any_one ?_)
   refine any_opL 7 (by rfl) ?_
   simp only [List.take, List.drop]
   refine wpL_store (g := g5) (off := 0) (n := 16) (cs := fel (fmul ((mulR n baseP 256).x) (z ||| 1)) ++ (fel (fmul ((mulR n baseP 256).y) (z ||| 1))) ++ (fel (fmul ((mulR n baseP 256).z) (z ||| 1))) ++ (fel (fmul ((mulR n baseP 256).t) (z ||| 1)))) (by rfl) (by rfl) (by rfl) (by rfl) (by rfl) (M.t 3 rfl) (by simp [flen]) info26 (one4 _ _ _ _) (fun w31 P R T => ?_)
   replace M := M.put (segs' := [(0, fel (fmul ((mulR n baseP 256).x) (z ||| 1))), (4, fel (fmul ((mulR n baseP 256).y) (z ||| 1))), (8, fel (fmul ((mulR n baseP 256).z) (z ||| 1))), (12, fel (fmul ((mulR n baseP 256).t) (z ||| 1)))]) 3 rfl P T (SegsOf.at R ⟨rfl, rfl, rfl, rfl, trivial⟩)
   simp only [List.set] at M
   refine wpL_nil (then_normal ?_)
   refine any_first 8 (v := .bool (rightP (scaleP (mulR n baseP 256) (z ||| 1)))) (by rfl) (by kernel_rfl) nopanic_not (by rfl) (by exact yl_assign rfl rfl) ?_
   simp only [putT, List.set]
   refine any_end (by kernel_rfl) (no_panic ?_)
   refine hK23 _ _ ?_
   refine wp_ret ?_
   repeat (first | with_reducible refine then_ret ?_ | with_reducible refine inblock_ret ?_)
   refine bodyPost_ret (v := .tuple #[.agg (fel (fmul ((mulR n baseP 256).x) (z ||| 1)) ++ (fel (fmul ((mulR n baseP 256).y) (z ||| 1))) ++ (fel (fmul ((mulR n baseP 256).z) (z ||| 1))) ++ (fel (fmul ((mulR n baseP 256).t) (z ||| 1))) : List Value).toArray, .bool (rightP (scaleP (mulR n baseP 256) (z ||| 1)))]) (res2 rfl (.cell (by rfl) (run_loadVar_mid _ _ _ _ (fel (fmul ((mulR n baseP 256).x) (z ||| 1)) ++ (fel (fmul ((mulR n baseP 256).y) (z ||| 1))) ++ (fel (fmul ((mulR n baseP 256).z) (z ||| 1))) ++ (fel (fmul ((mulR n baseP 256).t) (z ||| 1)))) _ (range_join (range_join (range_join (M.r 3 0 rfl rfl) (M.r 3 1 rfl rfl) (by simp [flen])) (M.r 3 2 rfl rfl) (by simp [flen])) (M.r 3 3 rfl rfl) (by simp [flen])) Try.underlying26 rfl info26)) (.tmp (by rfl))) rfl ?_
   have BE := M.below
   exact ⟨rfl, BE⟩
  ·
   refine any_opL 7 (by rfl) ?_
   simp only [List.take, List.drop]
   refine wpL_store (g := g5) (off := 0) (n := 16) (cs := fel (fmul ((mulR n baseP 256).x) (z ||| 1)) ++ (fel (fmul ((mulR n baseP 256).y) (z ||| 1))) ++ (fel (fmul ((mulR n baseP 256).z) (z ||| 1))) ++ (fel (fmul ((mulR n baseP 256).t) (z ||| 1)))) (by rfl) (by rfl) (by rfl) (by rfl) (by rfl) (M.t 3 rfl) (by simp [flen]) info26 (one4 _ _ _ _) (fun w32 P R T => ?_)
   replace M := M.put (segs' := [(0, fel (fmul ((mulR n baseP 256).x) (z ||| 1))), (4, fel (fmul ((mulR n baseP 256).y) (z ||| 1))), (8, fel (fmul ((mulR n baseP 256).z) (z ||| 1))), (12, fel (fmul ((mulR n baseP 256).t) (z ||| 1)))]) 3 rfl P T (SegsOf.at R ⟨rfl, rfl, rfl, rfl, trivial⟩)
   simp only [List.set] at M
   refine wpL_nil (then_normal ?_)
   refine any_step [6] (by kernel_rfl) rfl (any_one ?_)
   refine any_opL 6 (by rfl) ?_
   simp only [List.take, List.drop]
   refine wpL_chunk 1 (by rfl) (fun Lk hLk => ?_)
   simp only [List.take, List.drop]
   refine wpV_pick (v := .bool (rightP (scaleP (mulR n baseP 256) (z ||| 1)))) (by rfl) rfl rfl rfl ?_
   simp only [putT, List.set]
   refine wpV_nil (hLk _ (fun w33 Sw33 => ?_))
   clear hLk Lk
   simp only [List.take, List.drop]
   replace M := M.sees Sw33
   refine wpL_nil (then_normal ?_)
   refine any_first 8 (v := .bool (rightP (scaleP (mulR n baseP 256) (z ||| 1)))) (by rfl) (by kernel_rfl) nopanic_not (by rfl) (by exact yl_assign rfl rfl) ?_
   simp only [putT, List.set]
   refine any_end (by kernel_rfl) (no_panic ?_)
   refine hK23 _ _ ?_
   refine wp_ret ?_
   repeat (first | with_reducible refine then_ret ?_ | with_reducible refine inblock_ret ?_)
   refine bodyPost_ret (v := .tuple #[.agg (fel (fmul ((mulR n baseP 256).x) (z ||| 1)) ++ (fel (fmul ((mulR n baseP 256).y) (z ||| 1))) ++ (fel (fmul ((mulR n baseP 256).z) (z ||| 1))) ++ (fel (fmul ((mulR n baseP 256).t) (z ||| 1))) : List Value).toArray, .bool (rightP (scaleP (mulR n baseP 256) (z ||| 1)))]) (res2 rfl (.cell (by rfl) (run_loadVar_mid _ _ _ _ (fel (fmul ((mulR n baseP 256).x) (z ||| 1)) ++ (fel (fmul ((mulR n baseP 256).y) (z ||| 1))) ++ (fel (fmul ((mulR n baseP 256).z) (z ||| 1))) ++ (fel (fmul ((mulR n baseP 256).t) (z ||| 1)))) _ (range_join (range_join (range_join (M.r 3 0 rfl rfl) (M.r 3 1 rfl rfl) (by simp [flen])) (M.r 3 2 rfl rfl) (by simp [flen])) (M.r 3 3 rfl rfl) (by simp [flen])) Try.underlying26 rfl info26)) (.tmp (by rfl))) rfl ?_
   have BE := M.below
   exact ⟨rfl, BE⟩
 ·
  refine any_opL 2 (by rfl) ?_
  simp only [List.take, List.drop]
  refine wpL_chunk 1 (by rfl) (fun Lk hLk => ?_)
  simp only [List.take, List.drop]
  refine wpV_bin (v := .bool true) (by rfl) rfl rfl rfl (fun W => run_eql _ _ _ _ W) ?_
  simp only [putT, List.set]
  refine wpV_nil (hLk _ (fun w34 Sw34 => ?_))
  clear hLk Lk
  simp only [List.take, List.drop]
  replace M := M.sees Sw34
  refine wpL_nil (then_normal ?_)
  refine any_first 3 (v := .bool true) (by rfl) (by kernel_rfl) nopanic_not (by rfl) (by exact yl_move rfl rfl) ?_
  simp only [putT, List.set]
  refine any_step [0, 4] (by kernel_rfl) rfl (any_two ?_ (any_one ?_))
  ·
   refine any_opL 0 (by rfl) ?_
   simp only [List.take, List.drop]
   refine wpL_chunk 1 (by rfl) (fun Lk hLk => ?_)
   simp only [List.take, List.drop]
   refine wpV_load (cs := fel (fmul ((mulR n baseP 256).x) (z ||| 1)) ++ (fel (fmul ((mulR n baseP 256).y) (z ||| 1))) ++ (fel (fmul ((mulR n baseP 256).z) (z ||| 1))) ++ (fel (fmul ((mulR n baseP 256).t) (z ||| 1)))) (by rfl) rfl rfl (range_join (range_join (range_join (M.r 0 0 rfl rfl) (M.r 0 1 rfl rfl) (by simp [flen])) (M.r 0 2 rfl rfl) (by simp [flen])) (M.r 0 3 rfl rfl) (by simp [flen])) (M.lt 0 rfl) Try.underlying26 rfl info26 ?_
   simp only [putT, List.set]
   refine wpV_nil (hLk _ (fun w35 Sw35 => ?_))
   clear hLk Lk
   simp only [List.take, List.drop]
   replace M := M.sees Sw35
   refine wpL_nil (then_normal ?_)
   refine any_step [4] (by kernel_rfl) rfl (any_one ?_)
   refine any_opL 4 (by rfl) ?_
   simp only [List.take, List.drop]
   refine wpL_guard (by rfl) ?_
   refine wpL_chunk 1 (by rfl) (fun Lk hLk => ?_)
   simp only [List.take, List.drop]
   refine wpV_load (cs := fel (fmul ((mulR n baseP 256).x) (z ||| 1)) ++ (fel (fmul ((mulR n baseP 256).y) (z ||| 1))) ++ (fel (fmul ((mulR n baseP 256).z) (z ||| 1))) ++ (fel (fmul ((mulR n baseP 256).t) (z ||| 1)))) (by rfl) rfl rfl (range_join (range_join (range_join (M.r 0 0 rfl rfl) (M.r 0 1 rfl rfl) (by simp [flen])) (M.r 0 2 rfl rfl) (by simp [flen])) (M.r 0 3 rfl rfl) (by simp [flen])) (M.lt 0 rfl) Try.underlying26 rfl info26 ?_
   simp only [putT, List.set]
   refine wpV_nil (hLk _ (fun w36 Sw36 => ?_))
   clear hLk Lk
   simp only [List.take, List.drop]
   replace M := M.sees Sw36
   refine wpL_nil (then_normal ?_)
   refine any_step [5] (by kernel_rfl) rfl (any_one ?_)
   refine any_opL 5 (by rfl) ?_
   simp only [List.take, List.drop]
   refine wpL_guard (by rfl) ?_
   refine wpL_chunk 1 (by rfl) (fun Lk hLk => ?_)
   simp only [List.take, List.drop]
   refine wpV_callf (v := .bool (rightP (scaleP (mulR n baseP 256) (z ||| 1)))) (args := #[.agg (fel (fmul ((mulR n baseP 256).x) (z ||| 1)) ++ (fel (fmul ((mulR n baseP 256).y) (z ||| 1))) ++ (fel (fmul ((mulR n baseP 256).z) (z ||| 1))) ++ (fel (fmul ((mulR n baseP 256).t) (z ||| 1))) : List Value).toArray]) (by rfl) rfl Try.func17 (by kernel_rfl) (by kernel_rfl) rfl (fun W hW => right_c (scaleP_ok ..)) ?_
   simp only [putT, List.set]
   refine wpV_nil (hLk _ (fun w37 Sw37 => ?_))
   clear hLk Lk
   simp only [List.take, List.drop]
   replace M := M.sees Sw37
   refine wpL_nil (then_normal ?_)
   refine any_step [6, 7] (by kernel_rfl) rfl (any_two ?_ (any_one ?_))
   ·
    refine any_opL 6 (by rfl) ?_
    simp only [List.take, List.drop]
    refine wpL_chunk 1 (by rfl) (fun Lk hLk => ?_)
    simp only [List.take, List.drop]
    refine wpV_pick (v := .bool (rightP (scaleP (mulR n baseP 256) (z ||| 1)))) (by rfl) rfl rfl rfl ?_
    simp only [putT, List.set]
    refine wpV_nil (hLk _ (fun w38 Sw38 => ?_))
    clear hLk Lk
    simp only [List.take, List.drop]
    replace M := M.sees Sw38
    refine wpL_nil (then_normal ?_)
    refine any_step [7] (by kernel_rfl) rfl (any_one ?_)
    refine any_opL 7 (by rfl) ?_
    simp only [List.take, List.drop]
    refine wpL_store (g := g5) (off := 0) (n := 16) (cs := fel (fmul ((mulR n baseP 256).x) (z ||| 1)) ++ (fel (fmul ((mulR n baseP 256).y) (z ||| 1))) ++ (fel (fmul ((mulR n baseP 256).z) (z ||| 1))) ++ (fel (fmul ((mulR n baseP 256).t) (z ||| 1)))) (by rfl) (by rfl) (by rfl) (by rfl) (by rfl) (M.t 3 rfl) (by simp [flen]) info26 (one4 _ _ _ _) (fun w39 P R T => ?_)
    replace M := M.put (segs' := [(0, fel (fmul ((mulR n baseP 256).x) (z ||| 1))), (4, fel (fmul ((mulR n baseP 256).y) (z ||| 1))), (8, fel (fmul ((mulR n baseP 256).z) (z ||| 1))), (12, fel (fmul ((mulR n baseP 256).t) (z ||| 1)))]) 3 rfl P T (SegsOf.at R ⟨rfl, rfl, rfl, rfl, trivial⟩)
    simp only [List.set] at M
    refine wpL_nil (then_normal ?_)
    refine any_first 8 (v := .bool (rightP (scaleP (mulR n baseP 256) (z ||| 1)))) (by rfl) (by kernel_rfl) nopanic_not (by rfl) (by exact yl_assign rfl rfl) ?_
    simp only [putT, List.set]
    refine any_end (by kernel_rfl) (no_panic ?_)
    refine hK23 _ _ ?_
    refine wp_ret ?_
    repeat (first | with_reducible refine then_ret ?_ | with_reducible refine inblock_ret ?_)
    refine bodyPost_ret (v := .tuple #[.agg (fel (fmul ((mulR n baseP 256).x) (z ||| 1)) ++ (fel (fmul ((mulR n baseP 256).y) (z ||| 1))) ++ (fel (fmul ((mulR n baseP 256).z) (z ||| 1))) ++ (fel (fmul ((mulR n baseP 256).t) (z ||| 1))) : List Value).toArray, .bool (rightP (scaleP (mulR n baseP 256) (z ||| 1)))]) (res2 rfl (.cell (by rfl) (run_loadVar_mid _ _ _ _ (fel (fmul ((mulR n baseP 256).x) (z ||| 1)) ++ (fel (fmul ((mulR n baseP 256).y) (z ||| 1))) ++ (fel (fmul ((mulR n baseP 256).z) (z ||| 1))) ++ (fel (fmul ((mulR n baseP 256).t) (z ||| 1)))) _ (range_join (range_join (range_join (M.r 3 0 rfl rfl) (M.r 3 1 rfl rfl) (by simp [flen])) (M.r 3 2 rfl rfl) (by simp [flen])) (M.r 3 3 rfl rfl) (by simp [flen])) Try.underlying26 rfl info26)) (.tmp (by rfl))) rfl ?_
    have BE := M.below
    exact ⟨rfl, BE⟩
   ·
    refine any_opL 7 (by rfl) ?_
    simp only [List.take, List.drop]
    refine wpL_store (g := g5) (off := 0) (n := 16) (cs := fel (fmul ((mulR n baseP 256).x) (z ||| 1)) ++ (fel (fmul ((mulR n baseP 256).y) (z ||| 1))) ++ (fel (fmul ((mulR n baseP 256).z) (z ||| 1))) ++ (fel (fmul ((mulR n baseP 256).t) (z ||| 1)))) (by rfl) (by rfl) (by rfl) (by rfl) (by rfl) (M.t 3 rfl) (by simp [flen]) info26 (one4 _ _ _ _) (fun w40 P R T => ?_)
    replace M := M.put (segs' := [(0, fel (fmul ((mulR n baseP 256).x) (z ||| 1))), (4, fel (fmul ((mulR n baseP 256).y) (z ||| 1))), (8, fel (fmul ((mulR n baseP 256).z) (z ||| 1))), (12, fel (fmul ((mulR n baseP 256).t) (z ||| 1)))]) 3 rfl P T (SegsOf.at R ⟨rfl, rfl, rfl, rfl, trivial⟩)
    simp only [List.set] at M
    refine wpL_nil (then_normal ?_)
    refine any_step [6] (by kernel_rfl) rfl (any_one ?_)
    refine any_opL 6 (by rfl) ?_
    simp only [List.take, List.drop]
    refine wpL_chunk 1 (by rfl) (fun Lk hLk => ?_)
    simp only [List.take, List.drop]
    refine wpV_pick (v := .bool (rightP (scaleP (mulR n baseP 256) (z ||| 1)))) (by rfl) rfl rfl rfl ?_
    simp only [putT, List.set]
    refine wpV_nil (hLk _ (fun w41 Sw41 => ?_))
    clear hLk Lk
    simp only [List.take, List.drop]
    replace M := M.sees Sw41
    refine wpL_nil (then_normal ?_)
    refine any_first 8 (v := .bool (rightP (scaleP (mulR n baseP 256) (z ||| 1)))) (by rfl) (by kernel_rfl) nopanic_not (by rfl) (by exact yl_assign rfl rfl) ?_
    simp only [putT, List.set]
    refine any_end (by kernel_rfl) (no_panic ?_)
    refine hK23 _ _ ?_
    refine wp_ret ?_
    repeat (first | with_reducible refine then_ret ?_ | with_reducible refine inblock_ret ?_)
    refine bodyPost_ret (v := .tuple #[.agg (fel (fmul ((mulR n baseP 256).x) (z ||| 1)) ++ (fel (fmul ((mulR n baseP 256).y) (z ||| 1))) ++ (fel (fmul ((mulR n baseP 256).z) (z ||| 1))) ++ (fel (fmul ((mulR n baseP 256).t) (z ||| 1))) : List Value).toArray, .bool (rightP (scaleP (mulR n baseP 256) (z ||| 1)))]) (res2 rfl (.cell (by rfl) (run_loadVar_mid _ _ _ _ (fel (fmul ((mulR n baseP 256).x) (z ||| 1)) ++ (fel (fmul ((mulR n baseP 256).y) (z ||| 1))) ++ (fel (fmul ((mulR n baseP 256).z) (z ||| 1))) ++ (fel (fmul ((mulR n baseP 256).t) (z ||| 1)))) _ (range_join (range_join (range_join (M.r 3 0 rfl rfl) (M.r 3 1 rfl rfl) (by simp [flen])) (M.r 3 2 rfl rfl) (by simp [flen])) (M.r 3 3 rfl rfl) (by simp [flen])) Try.underlying26 rfl info26)) (.tmp (by rfl))) rfl ?_
    have BE := M.below
    exact ⟨rfl, BE⟩
  ·
   refine any_opL 4 (by rfl) ?_
   simp only [List.take, List.drop]
   refine wpL_guard (by rfl) ?_
   refine wpL_chunk 1 (by rfl) (fun Lk hLk => ?_)
   simp only [List.take, List.drop]
   refine wpV_load (cs := fel (fmul ((mulR n baseP 256).x) (z ||| 1)) ++ (fel (fmul ((mulR n baseP 256).y) (z ||| 1))) ++ (fel (fmul ((mulR n baseP 256).z) (z ||| 1))) ++ (fel (fmul ((mulR n baseP 256).t) (z ||| 1)))) (by rfl) rfl rfl (range_join (range_join (range_join (M.r 0 0 rfl rfl) (M.r 0 1 rfl rfl) (by simp [flen])) (M.r 0 2 rfl rfl) (by simp [flen])) (M.r 0 3 rfl rfl) (by simp [flen])) (M.lt 0 rfl) Try.underlying26 rfl info26 ?_
   simp only [putT, List.set]
   refine wpV_nil (hLk _ (fun w42 Sw42 => ?_))
   clear hLk Lk
   simp only [List.take, List.drop]
   replace M := M.sees Sw42
   refine wpL_nil (then_normal ?_)
   refine any_step [0, 5] (by kernel_rfl) rfl (any_two ?_ (any_one ?_))
   ·
    refine any_opL 0 (by rfl) ?_
    simp only [List.take, List.drop]
    refine wpL_chunk 1 (by rfl) (fun Lk hLk => ?_)
    simp only [List.take, List.drop]
    refine wpV_load (cs := fel (fmul ((mulR n baseP 256).x) (z ||| 1)) ++ (fel (fmul ((mulR n baseP 256).y) (z ||| 1))) ++ (fel (fmul ((mulR n baseP 256).z) (z ||| 1))) ++ (fel (fmul ((mulR n baseP 256).t) (z ||| 1)))) (by rfl) rfl rfl (range_join (range_join (range_join (M.r 0 0 rfl rfl) (M.r 0 1 rfl rfl) (by simp [flen])) (M.r 0 2 rfl rfl) (by simp [flen])) (M.r 0 3 rfl rfl) (by simp [flen])) (M.lt 0 rfl) Try.underlying26 rfl info26 ?_
    simp only [putT, List.set]
    refine wpV_nil (hLk _ (fun w43 Sw43 => ?_))
    clear hLk Lk
    simp only [List.take, List.drop]
    replace M := M.sees Sw43
    refine wpL_nil (then_normal ?_)
    refine any_step [5] (by kernel_rfl) rfl (any_one ?_)
    refine any_opL 5 (by rfl) ?_
    simp only [List.take, List.drop]
    refine wpL_guard (by rfl) ?_
    refine wpL_chunk 1 (by rfl) (fun Lk hLk => ?_)
    simp only [List.take, List.drop]
    refine wpV_callf (v := .bool (rightP (scaleP (mulR n baseP 256) (z ||| 1)))) (args := #[.agg (fel (fmul ((mulR n baseP 256).x) (z ||| 1)) ++ (fel (fmul ((mulR n baseP 256).y) (z ||| 1))) ++ (fel (fmul ((mulR n baseP 256).z) (z ||| 1))) ++ (fel (fmul ((mulR n baseP 256).t) (z ||| 1))) : List Value).toArray]) (by rfl) rfl Try.func17 (by kernel_rfl) (by kernel_rfl) rfl (fun W hW => right_c (scaleP_ok ..)) ?_
    simp only [putT, List.set]
    refine wpV_nil (hLk _ (fun w44 Sw44 => ?_))
    clear hLk Lk
    simp only [List.take, List.drop]
    replace M := M.sees Sw44
    refine wpL_nil (then_normal ?_)
    refine any_step [6, 7] (by kernel_rfl) rfl (any_two ?_ (any_one ?_))
    ·
     refine any_opL 6 (by rfl) ?_
     simp only [List.take, List.drop]
     refine wpL_chunk 1 (by rfl) (fun Lk hLk => ?_)
     simp only [List.take, List.drop]
     refine wpV_pick (v := .bool (rightP (scaleP (mulR n baseP 256) (z ||| 1)))) (by rfl) rfl rfl rfl ?_
     simp only [putT, List.set]
     refine wpV_nil (hLk _ (fun w45 Sw45 => ?_))
     clear hLk Lk
     simp only [List.take, List.drop]
     replace M := M.sees Sw45
     refine wpL_nil (then_normal ?_)
     refine any_step [7] (by kernel_rfl) rfl (any_one ?_)
     refine any_opL 7 (by rfl) ?_
     simp only [List.take, List.drop]
     refine wpL_store (g := g5) (off := 0) (n := 16) (cs := fel (fmul ((mulR n baseP 256).x) (z ||| 1)) ++ (fel (fmul ((mulR n baseP 256).y) (z ||| 1))) ++ (fel (fmul ((mulR n baseP 256).z) (z ||| 1))) ++ (fel (fmul ((mulR n baseP 256).t) (z ||| 1)))) (by rfl) (by rfl) (by rfl) (by rfl) (by rfl) (M.t 3 rfl) (by simp [flen]) info26 (one4 _ _ _ _) (fun w46 P R T => ?_)
     replace M := M.put (segs' := [(0, fel (fmul ((mulR n baseP 256).x) (z ||| 1))), (4, fel (fmul ((mulR n baseP 256).y) (z ||| 1))), (8, fel (fmul ((mulR n baseP 256).z) (z ||| 1))), (12, fel (fmul ((mulR n baseP 256).t) (z ||| 1)))]) 3 rfl P T (SegsOf.at R ⟨rfl, rfl, rfl, rfl, trivial⟩)
     simp only [List.set] at M
     refine wpL_nil (then_normal ?_)
     refine any_first 8 (v := .bool (rightP (scaleP (mulR n baseP 256) (z ||| 1)))) (by rfl) (by kernel_rfl) nopanic_not (by rfl) (by exact yl_assign rfl rfl) ?_
     simp only [putT, List.set]
     refine any_end (by kernel_rfl) (no_panic ?_)
     refine hK23 _ _ ?_
     refine wp_ret ?_
     repeat (first | with_reducible refine then_ret ?_ | with_reducible refine inblock_ret ?_)
     refine bodyPost_ret (v := .tuple #[.agg (fel (fmul ((mulR n baseP 256).x) (z ||| 1)) ++ (fel (fmul ((mulR n baseP 256).y) (z ||| 1))) ++ (fel (fmul ((mulR n baseP 256).z) (z ||| 1))) ++ (fel (fmul ((mulR n baseP 256).t) (z ||| 1))) : List Value).toArray, .bool (rightP (scaleP (mulR n baseP 256) (z ||| 1)))]) (res2 rfl (.cell (by rfl) (run_loadVar_mid _ _ _ _ (fel (fmul ((mulR n baseP 256).x) (z ||| 1)) ++ (fel (fmul ((mulR n baseP 256).y) (z ||| 1))) ++ (fel (fmul ((mulR n baseP 256).z) (z ||| 1))) ++ (fel (fmul ((mulR n baseP 256).t) (z ||| 1)))) _ (range_join (range_join (range_join (M.r 3 0 rfl rfl) (M.r 3 1 rfl rfl) (by simp [flen])) (M.r 3 2 rfl rfl) (by simp [flen])) (M.r 3 3 rfl rfl) (by simp [flen])) Try.underlying26 rfl info26)) (.tmp (by rfl))) rfl ?_
     have BE := M.below
     exact ⟨rfl, BE⟩
    ·
     refine any_opL 7 (by rfl) ?_
     simp only [List.take, List.drop]
     refine wpL_store (g := g5) (off := 0) (n := 16) (cs := fel (fmul ((mulR n baseP 256).x) (z ||| 1)) ++ (fel (fmul ((mulR n baseP 256).y) (z ||| 1))) ++ (fel (fmul ((mulR n baseP 256).z) (z ||| 1))) ++ (fel (fmul ((mulR n baseP 256).t) (z ||| 1)))) (by rfl) (by rfl) (by rfl) (by rfl) (by rfl) (M.t 3 rfl) (by simp [flen]) info26 (one4 _ _ _ _) (fun w47 P R T => ?_)
     replace M := M.put (segs' := [(0, fel (fmul ((mulR n baseP 256).x) (z ||| 1))), (4, fel (fmul ((mulR n baseP 256).y) (z ||| 1))), (8, fel (fmul ((mulR n baseP 256).z) (z ||| 1))), (12, fel (fmul ((mulR n baseP 256).t) (z ||| 1)))]) 3 rfl P T (SegsOf.at R ⟨rfl, rfl, rfl, rfl, trivial⟩)
     simp only [List.set] at M
     refine wpL_nil (then_normal ?_)
     refine any_step [6] (by kernel_rfl) rfl (any_one ?_)
     refine any_opL 6 (by rfl) ?_
     simp only [List.take, List.drop]
     refine wpL_chunk 1 (by rfl) (fun Lk hLk => ?_)
     simp only [List.take, List.drop]
     refine wpV_pick (v := .bool (rightP (scaleP (mulR n baseP 256) (z ||| 1)))) (by rfl) rfl rfl rfl ?_
     simp only [putT, List.set]
     refine wpV_nil (hLk _ (fun w48 Sw48 => ?_))
     clear hLk Lk
     simp only [List.take, List.drop]
     replace M := M.sees Sw48
     refine wpL_nil (then_normal ?_)
     refine any_first 8 (v := .bool (rightP (scaleP (mulR n baseP 256) (z ||| 1)))) (by rfl) (by kernel_rfl) nopanic_not (by rfl) (by exact yl_assign rfl rfl) ?_
     simp only [putT, List.set]
     refine any_end (by kernel_rfl) (no_panic ?_)
     refine hK23 _ _ ?_
     refine wp_ret ?_
     repeat (first | with_reducible refine then_ret ?_ | with_reducible refine inblock_ret ?_)
     refine bodyPost_ret (v := .tuple #[.agg (fel (fmul ((mulR n baseP 256).x) (z ||| 1)) ++ (fel (fmul ((mulR n baseP 256).y) (z ||| 1))) ++ (fel (fmul ((mulR n baseP 256).z) (z ||| 1))) ++ (fel (fmul ((mulR n baseP 256).t) (z ||| 1))) : List Value).toArray, .bool (rightP (scaleP (mulR n baseP 256) (z ||| 1)))]) (res2 rfl (.cell (by rfl) (run_loadVar_mid _ _ _ _ (fel (fmul ((mulR n baseP 256).x) (z ||| 1)) ++ (fel (fmul ((mulR n baseP 256).y) (z ||| 1))) ++ (fel (fmul ((mulR n baseP 256).z) (z ||| 1))) ++ (fel (fmul ((mulR n baseP 256).t) (z ||| 1)))) _ (range_join (range_join (range_join (M.r 3 0 rfl rfl) (M.r 3 1 rfl rfl) (by simp [flen])) (M.r 3 2 rfl rfl) (by simp [flen])) (M.r 3 3 rfl rfl) (by simp [flen])) Try.underlying26 rfl info26)) (.tmp (by rfl))) rfl ?_
     have BE := M.below
     exact ⟨rfl, BE⟩
   ·
    refine any_opL 5 (by rfl) ?_
    simp only [List.take, List.drop]
    refine wpL_guard (by rfl) ?_
    refine wpL_chunk 1 (by rfl) (fun Lk hLk => ?_)
    simp only [List.take, List.drop]
    refine wpV_callf (v := .bool (rightP (scaleP (mulR n baseP 256) (z ||| 1)))) (args := #[.agg (fel (fmul ((mulR n baseP 256).x) (z ||| 1)) ++ (fel (fmul ((mulR n baseP 256).y) (z ||| 1))) ++ (fel (fmul ((mulR n baseP 256).z) (z ||| 1))) ++ (fel (fmul ((mulR n baseP 256).t) (z ||| 1))) : List Value).toArray]) (by rfl) rfl Try.func17 (by kernel_rfl) (by kernel_rfl) rfl (fun W hW => right_c (scaleP_ok ..)) ?_
    simp only [putT, List.set]
    refine wpV_nil (hLk _ (fun w49 Sw49 => ?_))
    clear hLk Lk
    simp only [List.take, List.drop]
    replace M := M.sees Sw49
    refine wpL_nil (then_normal ?_)
    refine any_step [0, 6] (by kernel_rfl) rfl (any_two ?_ (any_one ?_))
    ·
     refine any_opL 0 (by rfl) ?_
     simp only [List.take, List.drop]
     refine wpL_chunk 1 (by rfl) (fun Lk hLk => ?_)
     simp only [List.take, List.drop]
     refine wpV_load (cs := fel (fmul ((mulR n baseP 256).x) (z ||| 1)) ++ (fel (fmul ((mulR n baseP 256).y) (z ||| 1))) ++ (fel (fmul ((mulR n baseP 256).z) (z ||| 1))) ++ (fel (fmul ((mulR n baseP 256).t) (z ||| 1)))) (by rfl) rfl rfl (range_join (range_join (range_join (M.r 0 0 rfl rfl) (M.r 0 1 rfl rfl) (by simp [flen])) (M.r 0 2 rfl rfl) (by simp [flen])) (M.r 0 3 rfl rfl) (by simp [flen])) (M.lt 0 rfl) Try.underlying26 rfl info26 ?_
     simp only [putT, List.set]
     refine wpV_nil (hLk _ (fun w50 Sw50 => ?_))
     clear hLk Lk
     simp only [List.take, List.drop]
     replace M := M.sees Sw50
     refine wpL_nil (then_normal ?_)
     refine any_step [6, 7] (by kernel_rfl) rfl (any_two ?_ (any_one ?_))
     ·
      refine any_opL 6 (by rfl) ?_
      simp only [List.take, List.drop]
      refine wpL_chunk 1 (by rfl) (fun Lk hLk => ?_)
      simp only [List.take, List.drop]
      refine wpV_pick (v := .bool (rightP (scaleP (mulR n baseP 256) (z ||| 1)))) (by rfl) rfl rfl rfl ?_
      simp only [putT, List.set]
      refine wpV_nil (hLk _ (fun w51 Sw51 => ?_))
      clear hLk Lk
      simp only [List.take, List.drop]
      replace M := M.sees Sw51
      refine wpL_nil (then_normal ?_)
      refine any_step [7] (by kernel_rfl) rfl (any_one ?_)
      refine any_opL 7 (by rfl) ?_
      simp only [List.take, List.drop]
      refine wpL_store (g := g5) (off := 0) (n := 16) (cs := fel (fmul ((mulR n baseP 256).x) (z ||| 1)) ++ (fel (fmul ((mulR n baseP 256).y) (z ||| 1))) ++ (fel (fmul ((mulR n baseP 256).z) (z ||| 1))) ++ (fel (fmul ((mulR n baseP 256).t) (z ||| 1)))) (by rfl) (by rfl) (by rfl) (by rfl) (by rfl) (M.t 3 rfl) (by simp [flen]) info26 (one4 _ _ _ _) (fun w52 P R T => ?_)
      replace M := M.put (segs' := [(0, fel (fmul ((mulR n baseP 256).x) (z ||| 1))), (4, fel (fmul ((mulR n baseP 256).y) (z ||| 1))), (8, fel (fmul ((mulR n baseP 256).z) (z ||| 1))), (12, fel (fmul ((mulR n baseP 256).t) (z ||| 1)))]) 3 rfl P T (SegsOf.at R ⟨rfl, rfl, rfl, rfl, trivial⟩)
      simp only [List.set] at M
      refine wpL_nil (then_normal ?_)
      refine any_first 8 (v := .bool (rightP (scaleP (mulR n baseP 256) (z ||| 1)))) (by rfl) (by kernel_rfl) nopanic_not (by rfl) (by exact yl_assign rfl rfl) ?_
      simp only [putT, List.set]
      refine any_end (by kernel_rfl) (no_panic ?_)
      refine hK23 _ _ ?_
      refine wp_ret ?_
      repeat (first | with_reducible refine then_ret ?_ | with_reducible refine inblock_ret ?_)
      refine bodyPost_ret (v := .tuple #[.agg (fel (fmul ((mulR n baseP 256).x) (z ||| 1)) ++ (fel (fmul ((mulR n baseP 256).y) (z ||| 1))) ++ (fel (fmul ((mulR n baseP 256).z) (z ||| 1))) ++ (fel (fmul ((mulR n baseP 256).t) (z ||| 1))) : List Value).toArray, .bool (rightP (scaleP (mulR n baseP 256) (z ||| 1)))]) (res2 rfl (.cell (by rfl) (run_loadVar_mid _ _ _ _ (fel (fmul ((mulR n baseP 256).x) (z ||| 1)) ++ (fel (fmul ((mulR n baseP 256).y) (z ||| 1))) ++ (fel (fmul ((mulR n baseP 256).z) (z ||| 1))) ++ (fel (fmul ((mulR n baseP 256).t) (z ||| 1)))) _ (range_join (range_join (range_join (M.r 3 0 rfl rfl) (M.r 3 1 rfl rfl) (by simp [flen])) (M.r 3 2 rfl rfl) (by simp [flen])) (M.r 3 3 rfl rfl) (by simp [flen])) Try.underlying26 rfl info26)) (.tmp (by rfl))) rfl ?_
      have BE := M.below
      exact ⟨rfl, BE⟩
     ·
      refine any_opL 7 (by rfl) ?_
      simp only [List.take, List.drop]
      refine wpL_store (g := g5) (off := 0) (n := 16) (cs := fel (fmul ((mulR n baseP 256).x) (z ||| 1)) ++ (fel (fmul ((mulR n baseP 256).y) (z ||| 1))) ++ (fel (fmul ((mulR n baseP 256).z) (z ||| 1))) ++ (fel (fmul ((mulR n baseP 256).t) (z ||| 1)))) (by rfl) (by rfl) (by rfl) (by rfl) (by rfl) (M.t 3 rfl) (by simp [flen]) info26 (one4 _ _ _ _) (fun w53 P R T => ?_)
      replace M := M.put (segs' := [(0, fel (fmul ((mulR n baseP 256).x) (z ||| 1))), (4, fel (fmul ((mulR n baseP 256).y) (z ||| 1))), (8, fel (fmul ((mulR n baseP 256).z) (z ||| 1))), (12, fel (fmul ((mulR n baseP 256).t) (z ||| 1)))]) 3 rfl P T (SegsOf.at R ⟨rfl, rfl, rfl, rfl, trivial⟩)
      simp only [List.set] at M
      refine wpL_nil (then_normal ?_)
      refine any_step [6] (by kernel_rfl) rfl (any_one ?_)
      refine any_opL 6 (by rfl) ?_
      simp only [List.take, List.drop]
      refine wpL_chunk 1 (by rfl) (fun Lk hLk => ?_)
      simp only [List.take, List.drop]
      refine wpV_pick (v := .bool (rightP (scaleP (mulR n baseP 256) (z ||| 1)))) (by rfl) rfl rfl rfl ?_
      simp only [putT, List.set]
      refine wpV_nil (hLk _ (fun w54 Sw54 => ?_))
      clear hLk Lk
      simp only [List.take, List.drop]
      replace M := M.sees Sw54
      refine wpL_nil (then_normal ?_)
      refine any_first 8 (v := .bool (rightP (scaleP (mulR n baseP 256) (z ||| 1)))) (by rfl) (by kernel_rfl) nopanic_not (by rfl) (by exact yl_assign rfl rfl) ?_
      simp only [putT, List.set]
      refine any_end (by kernel_rfl) (no_panic ?_)
      refine hK23 _ _ ?_
      refine wp_ret ?_
      repeat (first | with_reducible refine then_ret ?_ | with_reducible refine inblock_ret ?_)
      refine bodyPost_ret (v := .tuple #[.agg (fel (fmul ((mulR n baseP 256).x) (z ||| 1)) ++ (fel (fmul ((mulR n baseP 256).y) (z ||| 1))) ++ (fel (fmul ((mulR n baseP 256).z) (z ||| 1))) ++ (fel (fmul ((mulR n baseP 256).t) (z ||| 1))) : List Value).toArray, .bool (rightP (scaleP (mulR n baseP 256) (z ||| 1)))]) (res2 rfl (.cell (by rfl) (run_loadVar_mid _ _ _ _ (fel (fmul ((mulR n baseP 256).x) (z ||| 1)) ++ (fel (fmul ((mulR n baseP 256).y) (z ||| 1))) ++ (fel (fmul ((mulR n baseP 256).z) (z ||| 1))) ++ (fel (fmul ((mulR n baseP 256).t) (z ||| 1)))) _ (range_join (range_join (range_join (M.r 3 0 rfl rfl) (M.r 3 1 rfl rfl) (by simp [flen])) (M.r 3 2 rfl rfl) (by simp [flen])) (M.r 3 3 rfl rfl) (by simp [flen])) Try.underlying26 rfl info26)) (.tmp (by rfl))) rfl ?_
      have BE := M.below
      exact ⟨rfl, BE⟩
    ·
     refine any_opL 6 (by rfl) ?_
     simp only [List.take, List.drop]
     refine wpL_chunk 1 (by rfl) (fun Lk hLk => ?_)
     simp only [List.take, List.drop]
     refine wpV_pick (v := .bool (rightP (scaleP (mulR n baseP 256) (z ||| 1)))) (by rfl) rfl rfl rfl ?_
     simp only [putT, List.set]
     refine wpV_nil (hLk _ (fun w55 Sw55 => ?_))
     clear hLk Lk
     simp only [List.take, List.drop]
     replace M := M.sees Sw55
     refine wpL_nil (then_normal ?_)
     refine any_step [0] (by kernel_rfl) rfl (any_one ?_)
     refine any_opL 0 (by rfl) ?_
     simp only [List.take, List.drop]
     refine wpL_chunk 1 (by rfl) (fun Lk hLk => ?_)
     simp only [List.take, List.drop]
     refine wpV_load (cs := fel (fmul ((mulR n baseP 256).x) (z ||| 1)) ++ (fel (fmul ((mulR n baseP 256).y) (z ||| 1))) ++ (fel (fmul ((mulR n baseP 256).z) (z ||| 1))) ++ (fel (fmul ((mulR n baseP 256).t) (z ||| 1)))) (by rfl) rfl rfl (range_join (range_join (range_join (M.r 0 0 rfl rfl) (M.r 0 1 rfl rfl) (by simp [flen])) (M.r 0 2 rfl rfl) (by simp [flen])) (M.r 0 3 rfl rfl) (by simp [flen])) (M.lt 0 rfl) Try.underlying26 rfl info26 ?_
     simp only [putT, List.set]
     refine wpV_nil (hLk _ (fun w56 Sw56 => ?_))
     clear hLk Lk
     simp only [List.take, List.drop]
     replace M := M.sees Sw56
     refine wpL_nil (then_normal ?_)
     refine any_step [7] (by kernel_rfl) rfl (any_one ?_)
     refine any_opL 7 (by rfl) ?_
     simp only [List.take, List.drop]
     refine wpL_store (g := g5) (off := 0) (n := 16) (cs := fel (fmul ((mulR n baseP 256).x) (z ||| 1)) ++ (fel (fmul ((mulR n baseP 256).y) (z ||| 1))) ++ (fel (fmul ((mulR n baseP 256).z) (z ||| 1))) ++ (fel (fmul ((mulR n baseP 256).t) (z ||| 1)))) (by rfl) (by rfl) (by rfl) (by rfl) (by rfl) (M.t 3 rfl) (by simp [flen]) info26 (one4 _ _ _ _) (fun w57 P R T => ?_)
     replace M := M.put (segs' := [(0, fel (fmul ((mulR n baseP 256).x) (z ||| 1))), (4, fel (fmul ((mulR n baseP 256).y) (z ||| 1))), (8, fel (fmul ((mulR n baseP 256).z) (z ||| 1))), (12, fel (fmul ((mulR n baseP 256).t) (z ||| 1)))]) 3 rfl P T (SegsOf.at R ⟨rfl, rfl, rfl, rfl, trivial⟩)
     simp only [List.set] at M
     refine wpL_nil (then_normal ?_)
     refine any_first 8 (v := .bool (rightP (scaleP (mulR n baseP 256) (z ||| 1)))) (by rfl) (by kernel_rfl) nopanic_not (by rfl) (by exact yl_assign rfl rfl) ?_
     simp only [putT, List.set]
     refine any_end (by kernel_rfl) (no_panic ?_)
     refine hK23 _ _ ?_
     refine wp_ret ?_
     repeat (first | with_reducible refine then_ret ?_ | with_reducible refine inblock_ret ?_)
     refine bodyPost_ret (v := .tuple #[.agg (fel (fmul ((mulR n baseP 256).x) (z ||| 1)) ++ (fel (fmul ((mulR n baseP 256).y) (z ||| 1))) ++ (fel (fmul ((mulR n baseP 256).z) (z ||| 1))) ++ (fel (fmul ((mulR n baseP 256).t) (z ||| 1))) : List Value).toArray, .bool (rightP (scaleP (mulR n baseP 256) (z ||| 1)))]) (res2 rfl (.cell (by rfl) (run_loadVar_mid _ _ _ _ (fel (fmul ((mulR n baseP 256).x) (z ||| 1)) ++ (fel (fmul ((mulR n baseP 256).y) (z ||| 1))) ++ (fel (fmul ((mulR n baseP 256).z) (z ||| 1))) ++ (fel (fmul ((mulR n baseP 256).t) (z ||| 1)))) _ (range_join (range_join (range_join (M.r 3 0 rfl rfl) (M.r 3 1 rfl rfl) (by simp [flen])) (M.r 3 2 rfl rfl) (by simp [flen])) (M.r 3 3 rfl rfl) (by simp [flen])) Try.underlying26 rfl info26)) (.tmp (by rfl))) rfl ?_
     have BE := M.below
     exact ⟨rfl, BE⟩
end Go.Proofs.Yc

namespace Go.Proofs.Ya
open Go Go.RowKit Go.Shelf Go.Proofs.Num
set_option maxHeartbeats 2000000 in
theorem raw_c {x : Nat} (hx : x < 2 ^ 256) {w : World}  :
  Calls Try.prog 81 #[fe x] w fun e w' => e = .returned (.string (bs (bytesN 32 x))) ∧ Below w.heap.size w w' := by
 go_enter Try.func81, Try.ntmps81
 have BE := Below.refl w.heap.size w
 refine wp_seq_k (fun K1 hK1 => ?_)
 refine wp_region_plain 1 (by kernel_rfl) (fun Lk hLk => ?_)
 simp only [List.take, List.drop]
 refine wpV_alloc (by rfl) ?_
 refine wpV_nil (hLk.out _ ?_)
 clear hLk Lk
 simp only [List.take, List.drop]
 refine wpN_new (t := 23) (cs := (fel x).toArray) (by rfl) (fun W => ?_) (fun g3 Hg3 ng3 => ?_)
 ·
  (first | rfl | go_simp)
 simp only [putT, List.set]
 refine wpN_nil (fun w4 Sw4 hbs => ?_)
 have Bg3 : Blk w4 g3 23 (fel x).toArray := hbs _ (List.mem_cons_self ..)
 clear hbs
 have Gg3 : w.heap.size ≤ g3 := Nat.le_trans BE.size Hg3
 replace BE := BE.trans (Sw4.2.2.mono BE.size)
 have Tg3 := blk_there Bg3 (n := 4) (by simp [flen])
 have Rg3_0 := blk_range Bg3 (l := fel x) rfl
 have Lg3 := Bg3.lt
 clear ng3 Bg3
 refine wpL_assign (v := .string (bs ([]))) (by rfl) (by rfl) (by rfl) ?_
 simp only [putT, List.set]
 refine wpL_nil (no_panic ?_)
 refine hK1 _ _ ?_
 refine wp_seq_k (fun K5 hK5 => ?_)
 refine wp_region_seq ?_
 refine wpL_row0 (by rfl) (by rfl) Try.underlying62 info5 (fun g7 w8 Sw8 Hg7 Bg7 => ?_)
 have Ng3_g7 : g3 ≠ g7 := Nat.ne_of_lt (Nat.lt_of_lt_of_le Lg3 Hg7)
 have Gg7 : w.heap.size ≤ g7 := Nat.le_trans BE.size Hg7
 replace Rg3_0 := range_sees Rg3_0 Lg3 Sw8
 replace Tg3 := there_sees Tg3 Lg3 Sw8
 replace Lg3 := Nat.lt_of_lt_of_le Lg3 Sw8.2.2.size
 replace BE := BE.trans (Sw8.2.2.mono BE.size)
 have Tg7 := blk_there Bg7 (n := 0) (by rfl)
 have Rg7_0 := blk_range Bg7 (l := []) rfl
 have Lg7 := Bg7.lt
 clear Bg7
 simp only [putT, List.set]
 refine wpL_assign (v := .slice (some ⟨g7, 0, none⟩) 0 0) (by rfl) (by rfl) (by rfl) ?_
 simp only [putT, List.set]
 refine wpL_nil (no_panic ?_)
 refine hK5 _ _ ?_
 refine wp_seq_k (fun K9 hK9 => ?_)
 refine wp_seq_k (fun K10 hK10 => ?_)
 refine wp_region_seq ?_
 refine wpL_chunk 1 (by rfl) (fun Lk hLk => ?_)
 simp only [List.take, List.drop]
 refine wpV_load (cs := fel x) (by rfl) rfl rfl Rg3_0 Lg3 Try.underlying23 rfl info23 ?_
 simp only [putT, List.set]
 refine wpV_nil (hLk _ (fun w12 Sw12 => ?_))
 clear hLk Lk
 simp only [List.take, List.drop]
 replace Rg3_0 := range_sees Rg3_0 Lg3 Sw12
 replace Tg3 := there_sees Tg3 Lg3 Sw12
 replace Rg7_0 := range_sees Rg7_0 Lg7 Sw12
 replace Tg7 := there_sees Tg7 Lg7 Sw12
 replace Lg3 := Nat.lt_of_lt_of_le Lg3 Sw12.2.2.size
 replace Lg7 := Nat.lt_of_lt_of_le Lg7 Sw12.2.2.size
 replace BE := BE.trans (Sw12.2.2.mono BE.size)
 refine wpL_callE (f := 71) (args := #[fe x]) (R := NewRow w12 16 (dl 16 x)) (by rfl) (by rfl) rfl Try.func71 (by kernel_rfl) (by kernel_rfl) (digits_c hx) (fun v9 w14 hv9 Sw14 => ?_)
 obtain ⟨g13, g13c, rfl, Cg13, Hg13, Lg13, Rg13_0⟩ := hv9
 have Ng3_g13 : g3 ≠ g13 := Nat.ne_of_lt (Nat.lt_of_lt_of_le Lg3 Hg13)
 have Ng7_g13 : g7 ≠ g13 := Nat.ne_of_lt (Nat.lt_of_lt_of_le Lg7 Hg13)
 have Gg13 : w.heap.size ≤ g13 := Nat.le_trans BE.size Hg13
 replace Rg3_0 := range_sees Rg3_0 Lg3 Sw14
 replace Tg3 := there_sees Tg3 Lg3 Sw14
 replace Rg7_0 := range_sees Rg7_0 Lg7 Sw14
 replace Tg7 := there_sees Tg7 Lg7 Sw14
 replace Lg3 := Nat.lt_of_lt_of_le Lg3 Sw14.2.2.size
 replace Lg7 := Nat.lt_of_lt_of_le Lg7 Sw14.2.2.size
 replace BE := BE.trans (Sw14.2.2.mono BE.size)
 simp only [putT, List.set]
 refine wpL_chunk 1 (by rfl) (fun Lk hLk => ?_)
 simp only [List.take, List.drop]
 refine wpV_lenA (n := 16) (by rfl) rfl rfl rfl Try.underlying100 ?_
 simp only [putT, List.set]
 refine wpV_nil (hLk _ (fun w15 Sw15 => ?_))
 clear hLk Lk
 simp only [List.take, List.drop]
 replace Rg3_0 := range_sees Rg3_0 Lg3 Sw15
 replace Tg3 := there_sees Tg3 Lg3 Sw15
 replace Rg7_0 := range_sees Rg7_0 Lg7 Sw15
 replace Tg7 := there_sees Tg7 Lg7 Sw15
 replace Rg13_0 := range_sees Rg13_0 Lg13 Sw15
 replace Lg3 := Nat.lt_of_lt_of_le Lg3 Sw15.2.2.size
 replace Lg7 := Nat.lt_of_lt_of_le Lg7 Sw15.2.2.size
 replace Lg13 := Nat.lt_of_lt_of_le Lg13 Sw15.2.2.size
 replace BE := BE.trans (Sw15.2.2.mono BE.size)
 refine wpL_move (v := .int .i64 0) (by rfl) (by rfl) (by rfl) ?_
 simp only [putT, List.set]
 refine wpL_nil (no_panic ?_)
 refine hK10 _ _ ?_
 refine wp_block ?_
 refine wp_loop_ghost (fun n9 a9 W9 => ∃ (i : Nat) (gq : Nat) (gqc : Nat) (u16 : Nat → Value), n9 = 16 - i ∧ a9 = { tmps := #[fe x, .pointer (some ⟨g3, 0, none⟩), .string (bs ([])), .slice (some ⟨gq, 0, none⟩) (2 * i) gqc, undef, u16 5, .slice (some ⟨g7, 0, none⟩) 0 0, fe x, .slice (some ⟨g13, 0, none⟩) 16 g13c, .int .i64 16, .int .i64 ((i : Nat) : Int), u16 11, u16 12, u16 13, u16 14, u16 15, u16 16, u16 17, u16 18, u16 19, u16 20, u16 21, u16 22, u16 23, undef, undef], defers := [] } ∧ Below w.heap.size w W9 ∧ World.rangeAt W9 g3 0 (fel x) ∧ World.there W9 g3 0 4 ∧ g3 < W9.heap.size ∧ World.rangeAt W9 g13 0 (dl 16 x) ∧ g13 < W9.heap.size ∧ World.rangeAt W9 gq 0 (bcells (bytesN (2 * i) x)) ∧ World.there W9 gq 0 gqc ∧ gq < W9.heap.size ∧ 2 * i ≤ gqc ∧ w.heap.size ≤ gq ∧ g3 ≠ gq ∧ g13 ≠ gq ∧ (i ≤ 16)) (16 - (0)) ?_ (fun n9 a9 W9 hI => ?_)
 ·
  exact ⟨0, g7, 0, (fun q9 => (#[undef, undef, undef, undef, undef, undef, undef, undef, undef, undef, undef, undef, undef, undef, undef, undef, undef, undef, undef, undef, undef, undef, undef, undef] : Array Value).getD q9 undef), rfl, rfl, BE, Rg3_0, Tg3, Lg3, Rg13_0, Lg13, (show World.rangeAt _ _ _ [] from Rg7_0), Tg7, Lg7, (Nat.le_refl _), Gg7, Ng3_g7, (Ne.symm Ng7_g13), (by omega)⟩
 clear BE Rg3_0 Rg7_0 Rg13_0 Tg3 Tg7 Lg3 Lg7 Lg13
 obtain ⟨i, gq, gqc, u16, rfl, rfl, BE, Rg3_0, Tg3, Lg3, Rg13_0, Lg13, Rgq_0, Tgq, Lgq, Cgq, Ggq, Ng3_gq, Ng13_gq, hi4⟩ := hI
 obtain ⟨w17, rfl⟩ : ∃ W8, W8 = W9 := ⟨_, rfl⟩
 refine wp_seq_k (fun K18 hK18 => ?_)
 refine wp_region_plain 1 (by kernel_rfl) (fun Lk hLk => ?_)
 simp only [List.take, List.drop]
 refine wpV_bin (v := .bool (decide (i < 16))) (by rfl) rfl rfl rfl (fun W => run_lssN i 16 _ _ W) ?_
 simp only [putT, List.set]
 refine wpV_nil (hLk.out _ ?_)
 clear hLk Lk
 simp only [List.take, List.drop]
 iterate 1 refine wpN_skip (by rfl) ?_
 refine wpN_nil (fun w20 Sw20 hbs => ?_)
 clear hbs
 replace Rg3_0 := range_sees Rg3_0 Lg3 Sw20
 replace Tg3 := there_sees Tg3 Lg3 Sw20
 replace Rg13_0 := range_sees Rg13_0 Lg13 Sw20
 replace Rgq_0 := range_sees Rgq_0 Lgq Sw20
 replace Tgq := there_sees Tgq Lgq Sw20
 replace Lg3 := Nat.lt_of_lt_of_le Lg3 Sw20.2.2.size
 replace Lg13 := Nat.lt_of_lt_of_le Lg13 Sw20.2.2.size
 replace Lgq := Nat.lt_of_lt_of_le Lgq Sw20.2.2.size
 replace BE := BE.trans (Sw20.2.2.mono BE.size)
 refine wpL_nil (no_panic ?_)
 refine hK18 _ _ ?_
 refine wp_seq_k (fun K21 hK21 => ?_)
 cases hc22 : (decide (i < 16))
 ·
  have ei : 16 = i := by have := of_decide_eq_false hc22; omega
  subst ei
  refine wp_cond_false rfl ?_
  refine wp_exit ?_
  refine hK9 _ _ ?_
  refine wp_seq_k (fun K23 hK23 => ?_)
  refine wp_region_plain 2 (by kernel_rfl) (fun Lk hLk => ?_)
  simp only [List.take, List.drop]
  refine wpV_move (v := .slice (some ⟨gq, 0, none⟩) (2 * 16) gqc) (by rfl) rfl rfl ?_
  simp only [putT, List.set]
  refine wpV_b2s (l := (bytesN (2 * 16) x)) (by rfl) rfl rfl (by rw [bytesN_len]) Try.underlying62 Try.underlying5 Try.underlying9 Rgq_0 Lgq ?_
  simp only [putT, List.set]
  refine wpV_nil (hLk.out _ ?_)
  clear hLk Lk
  simp only [List.take, List.drop]
  iterate 2 refine wpN_skip (by rfl) ?_
  refine wpN_nil (fun w25 Sw25 hbs => ?_)
  clear hbs
  replace Rg3_0 := range_sees Rg3_0 Lg3 Sw25
  replace Tg3 := there_sees Tg3 Lg3 Sw25
  replace Rg13_0 := range_sees Rg13_0 Lg13 Sw25
  replace Rgq_0 := range_sees Rgq_0 Lgq Sw25
  replace Tgq := there_sees Tgq Lgq Sw25
  replace Lg3 := Nat.lt_of_lt_of_le Lg3 Sw25.2.2.size
  replace Lg13 := Nat.lt_of_lt_of_le Lg13 Sw25.2.2.size
  replace Lgq := Nat.lt_of_lt_of_le Lgq Sw25.2.2.size
  replace BE := BE.trans (Sw25.2.2.mono BE.size)
  refine wpL_assign (v := .string (bs (bytesN (2 * 16) x))) (by rfl) (by rfl) (by rfl) ?_
  simp only [putT, List.set]
  refine wpL_nil (no_panic ?_)
  refine hK23 _ _ ?_
  refine wp_ret ?_
  repeat (first | with_reducible refine then_ret ?_ | with_reducible refine inblock_ret ?_)
  refine bodyPost_ret (v := .string (bs (bytesN (2 * 16) x))) (res1 rfl (.tmp (by rfl))) rfl ?_
  exact ⟨rfl, BE⟩
 ·
  have hi : i < 16 := of_decide_eq_true hc22
  have hd := digN_lt x i
  refine wp_cond_true rfl ?_
  refine wp_skip ?_
  refine hK21 _ _ ?_
  refine wp_seq_k (fun K26 hK26 => ?_)
  refine wp_block ?_
  refine wp_seq_k (fun K27 hK27 => ?_)
  refine wp_region_plain 2 (by kernel_rfl) (fun Lk hLk => ?_)
  simp only [List.take, List.drop]
  refine wpV_idxs (n := i) (by rfl) rfl rfl rfl Try.underlying100 info3 (by omega) ?_
  simp only [Nat.zero_add]
  simp only [putT, List.set]
  refine wpV_load1 (v := .int .i64 ((digN x i : Nat) : Int)) (by rfl) rfl rfl (by have := Rg13_0 _ _ (dl_get (j := i) 16 x (by omega)); rwa [Nat.zero_add] at this) Lg13 Try.underlying3 rfl ?_
  simp only [putT, List.set]
  refine wpV_nil (hLk.out _ ?_)
  clear hLk Lk
  simp only [List.take, List.drop]
  iterate 2 refine wpN_skip (by rfl) ?_
  refine wpN_nil (fun w29 Sw29 hbs => ?_)
  clear hbs
  replace Rg3_0 := range_sees Rg3_0 Lg3 Sw29
  replace Tg3 := there_sees Tg3 Lg3 Sw29
  replace Rg13_0 := range_sees Rg13_0 Lg13 Sw29
  replace Rgq_0 := range_sees Rgq_0 Lgq Sw29
  replace Tgq := there_sees Tgq Lgq Sw29
  replace Lg3 := Nat.lt_of_lt_of_le Lg3 Sw29.2.2.size
  replace Lg13 := Nat.lt_of_lt_of_le Lg13 Sw29.2.2.size
  replace Lgq := Nat.lt_of_lt_of_le Lgq Sw29.2.2.size
  replace BE := BE.trans (Sw29.2.2.mono BE.size)
  refine wpL_assign (v := .int .i64 ((digN x i : Nat) : Int)) (by rfl) (by rfl) (by rfl) ?_
  simp only [putT, List.set]
  refine wpL_nil (no_panic ?_)
  refine hK27 _ _ ?_
  refine wp_region_seq ?_
  refine wpL_move (v := .slice (some ⟨gq, 0, none⟩) (2 * i) gqc) (by rfl) (by rfl) (by rfl) ?_
  simp only [putT, List.set]
  refine wpL_move (v := .int .i64 ((digN x i : Nat) : Int)) (by rfl) (by rfl) (by rfl) ?_
  simp only [putT, List.set]
  refine wpL_chunk 5 (by rfl) (fun Lk hLk => ?_)
  simp only [List.take, List.drop]
  refine wpV_bin (v := .int .i64 (((digN x i) % 256 : Nat) : Int)) (by rfl) rfl rfl rfl (fun W => run_rem (by decide) (tmod_nat (digN x i) 256) W) ?_
  simp only [putT, List.set]
  refine wpV_conv (d := .bool) (e := ((((digN x i) % 256) % 256 : Nat) : Int)) (by rfl) rfl rfl (run_conv_int Try.underlying3 Try.underlying5 (wrap_u8N _)) ?_
  simp only [putT, List.set]
  refine wpV_move (v := .int .i64 ((digN x i : Nat) : Int)) (by rfl) rfl rfl ?_
  simp only [putT, List.set]
  refine wpV_bin (v := .int .i64 (((digN x i) / 256 : Nat) : Int)) (by rfl) rfl rfl rfl (fun W => run_quo (by decide) ((congrArg _ (tdiv_nat (digN x i) 256)).trans (wrap_nat _ (by omega))) W) ?_
  simp only [putT, List.set]
  refine wpV_conv (d := .bool) (e := ((((digN x i) / 256) % 256 : Nat) : Int)) (by rfl) rfl rfl (run_conv_int Try.underlying3 Try.underlying5 (wrap_u8N _)) ?_
  simp only [putT, List.set]
  refine wpV_nil (hLk _ (fun w31 Sw31 => ?_))
  clear hLk Lk
  simp only [List.take, List.drop]
  replace Rg3_0 := range_sees Rg3_0 Lg3 Sw31
  replace Tg3 := there_sees Tg3 Lg3 Sw31
  replace Rg13_0 := range_sees Rg13_0 Lg13 Sw31
  replace Rgq_0 := range_sees Rgq_0 Lgq Sw31
  replace Tgq := there_sees Tgq Lgq Sw31
  replace Lg3 := Nat.lt_of_lt_of_le Lg3 Sw31.2.2.size
  replace Lg13 := Nat.lt_of_lt_of_le Lg13 Sw31.2.2.size
  replace Lgq := Nat.lt_of_lt_of_le Lgq Sw31.2.2.size
  replace BE := BE.trans (Sw31.2.2.mono BE.size)
  refine wpL_row2 (z := .int .u8 0) (bytes := 1) (n := ((((digN x i) % 256) % 256 : Nat) : Int)) (m := ((((digN x i) / 256) % 256 : Nat) : Int)) (by rfl) (by rfl) (by rfl) (by rfl) Try.underlying62 (by kernel_rfl) rfl (fun g32 w33 Sw33 Hg32 Bg32 => ?_)
  have Ng3_g32 : g3 ≠ g32 := Nat.ne_of_lt (Nat.lt_of_lt_of_le Lg3 Hg32)
  have Ng13_g32 : g13 ≠ g32 := Nat.ne_of_lt (Nat.lt_of_lt_of_le Lg13 Hg32)
  have Ngq_g32 : gq ≠ g32 := Nat.ne_of_lt (Nat.lt_of_lt_of_le Lgq Hg32)
  have Gg32 : w.heap.size ≤ g32 := Nat.le_trans BE.size Hg32
  replace Rg3_0 := range_sees Rg3_0 Lg3 Sw33
  replace Tg3 := there_sees Tg3 Lg3 Sw33
  replace Rg13_0 := range_sees Rg13_0 Lg13 Sw33
  replace Rgq_0 := range_sees Rgq_0 Lgq Sw33
  replace Tgq := there_sees Tgq Lgq Sw33
  replace Lg3 := Nat.lt_of_lt_of_le Lg3 Sw33.2.2.size
  replace Lg13 := Nat.lt_of_lt_of_le Lg13 Sw33.2.2.size
  replace Lgq := Nat.lt_of_lt_of_le Lgq Sw33.2.2.size
  replace BE := BE.trans (Sw33.2.2.mono BE.size)
  have Tg32 := blk_there Bg32 (n := 2) (by rfl)
  have Rg32_0 := blk_range Bg32 (l := [.int .u8 ((((digN x i) % 256) % 256 : Nat) : Int), .int .u8 ((((digN x i) / 256) % 256 : Nat) : Int)]) rfl
  have Lg32 := Bg32.lt
  clear Bg32
  simp only [putT, List.set]
  refine wpL_append (olds := bcells (bytesN (2 * i) x)) (news := [.int .u8 ((((digN x i) % 256) % 256 : Nat) : Int), .int .u8 ((((digN x i) / 256) % 256 : Nat) : Int)]) (z := .int .u8 0) (bytes := 1) (by rfl) (by rfl) (by rfl) (by rfl) Try.underlying62 (by kernel_rfl) rfl rfl (by rw [bcells_len, bytesN_len]) (by rfl) Rgq_0 Tgq Lgq Rg32_0 (by simp [Value.oneCell']) (by omega) (by unfold maxLen; omega) (fun g34 g34c w35 Sw35 Qg34 Cg34 Rg34_0 Tg34 Lg34 => ?_)
  rw [raw_app] at Rg34_0
  have Ng3_g34 : g3 ≠ g34 := Qg34.elim (fun q => q ▸ Ng3_gq) (fun q => Nat.ne_of_lt (Nat.lt_of_lt_of_le Lg3 q))
  have Ng13_g34 : g13 ≠ g34 := Qg34.elim (fun q => q ▸ Ng13_gq) (fun q => Nat.ne_of_lt (Nat.lt_of_lt_of_le Lg13 q))
  have Gg34 : w.heap.size ≤ g34 := Qg34.elim (fun q => q ▸ Ggq) (fun q => Nat.le_trans BE.size q)
  replace Rg3_0 := Sw35.range Rg3_0 Ng3_gq Lg3
  replace Tg3 := Sw35.there Tg3 Ng3_gq Lg3
  replace Rg13_0 := Sw35.range Rg13_0 Ng13_gq Lg13
  replace Lg3 := Sw35.lt Lg3
  replace Lg13 := Sw35.lt Lg13
  replace BE := Sw35.below BE (Nat.le_refl _) Ggq
  simp only [putT, List.set]
  refine wpL_assign (v := .slice (some ⟨g34, 0, none⟩) (2 * i + 2) g34c) (by rfl) (by rfl) (by rfl) ?_
  simp only [putT, List.set]
  refine wpL_nil (no_panic ?_)
  refine hK26 _ _ ?_
  refine wp_region_plain 2 (by kernel_rfl) (fun Lk hLk => ?_)
  simp only [List.take, List.drop]
  refine wpV_bin (v := .int .i64 ((i + 1 : Nat) : Int)) (by rfl) rfl rfl rfl (fun W => run_add (by simp only [IntKind.wrap_i64]; omega) W) ?_
  simp only [putT, List.set]
  refine wpV_move (v := .int .i64 ((i + 1 : Nat) : Int)) (by rfl) rfl rfl ?_
  simp only [putT, List.set]
  refine wpV_nil (hLk.out _ ?_)
  clear hLk Lk
  simp only [List.take, List.drop]
  iterate 2 refine wpN_skip (by rfl) ?_
  refine wpN_nil (fun w37 Sw37 hbs => ?_)
  clear hbs
  replace Rg3_0 := range_sees Rg3_0 Lg3 Sw37
  replace Tg3 := there_sees Tg3 Lg3 Sw37
  replace Rg13_0 := range_sees Rg13_0 Lg13 Sw37
  replace Rg34_0 := range_sees Rg34_0 Lg34 Sw37
  replace Tg34 := there_sees Tg34 Lg34 Sw37
  replace Lg3 := Nat.lt_of_lt_of_le Lg3 Sw37.2.2.size
  replace Lg13 := Nat.lt_of_lt_of_le Lg13 Sw37.2.2.size
  replace Lg34 := Nat.lt_of_lt_of_le Lg34 Sw37.2.2.size
  replace BE := BE.trans (Sw37.2.2.mono BE.size)
  refine wpL_nil (no_panic ?_)
  refine Exists.intro _ ⟨?_, (i + 1), g34, g34c, (fun q9 => (#[undef, undef, undef, undef, undef, .int .i64 ((digN x i : Nat) : Int), undef, undef, undef, undef, undef, .bool true, .pointer (some ⟨g13, i, none⟩), .int .i64 ((digN x i : Nat) : Int), .slice (some ⟨gq, 0, none⟩) (2 * i) gqc, .int .i64 ((digN x i : Nat) : Int), .int .i64 (((digN x i) % 256 : Nat) : Int), .int .u8 ((((digN x i) % 256) % 256 : Nat) : Int), .int .i64 ((digN x i : Nat) : Int), .int .i64 (((digN x i) / 256 : Nat) : Int), .int .u8 ((((digN x i) / 256) % 256 : Nat) : Int), .slice (some ⟨g32, 0, none⟩) 2 2, .slice (some ⟨g34, 0, none⟩) (2 * i + 2) g34c, .int .i64 ((i + 1 : Nat) : Int)] : Array Value).getD q9 undef), rfl, rfl, BE, Rg3_0, Tg3, Lg3, Rg13_0, Lg13, Rg34_0, Tg34, Lg34, Cg34, Gg34, Ng3_g34, Ng13_g34, (by omega)⟩
  omega
set_option maxHeartbeats 1000000 in
theorem rbytes04_c {x : Nat} (hx : x < 2 ^ 256) {w : World}  :
  Calls Try.prog 53 #[fe x] w fun e w' => e = .returned (.string (bs (bytesN 32 (leastF x)))) ∧ Below w.heap.size w w' := by
 go_enter Try.func53, Try.ntmps53
 have BE := Below.refl w.heap.size w
 refine wp_seq_k (fun K1 hK1 => ?_)
 refine wp_region_plain 1 (by kernel_rfl) (fun Lk hLk => ?_)
 simp only [List.take, List.drop]
 refine wpV_alloc (by rfl) ?_
 refine wpV_nil (hLk.out _ ?_)
 clear hLk Lk
 simp only [List.take, List.drop]
 refine wpN_new (t := 24) (cs := (fel x).toArray) (by rfl) (fun W => ?_) (fun g3 Hg3 ng3 => ?_)
 ·
  (first | rfl | go_simp)
 simp only [putT, List.set]
 refine wpN_nil (fun w4 Sw4 hbs => ?_)
 have Bg3 : Blk w4 g3 24 (fel x).toArray := hbs _ (List.mem_cons_self ..)
 clear hbs
 have Gg3 : w.heap.size ≤ g3 := Nat.le_trans BE.size Hg3
 replace BE := BE.trans (Sw4.2.2.mono BE.size)
 have Tg3 := blk_there Bg3 (n := 4) (by simp [flen])
 have Rg3_0 := blk_range Bg3 (l := fel x) rfl
 have Lg3 := Bg3.lt
 clear ng3 Bg3
 refine wpL_assign (v := .string (bs ([]))) (by rfl) (by rfl) (by rfl) ?_
 simp only [putT, List.set]
 refine wpL_nil (no_panic ?_)
 refine hK1 _ _ ?_
 refine wp_seq_k (fun K5 hK5 => ?_)
 refine wp_region_plain 3 (by kernel_rfl) (fun Lk hLk => ?_)
 simp only [List.take, List.drop]
 refine wpV_load (cs := fel x) (by rfl) rfl rfl Rg3_0 Lg3 Try.underlying24 rfl info24 ?_
 simp only [putT, List.set]
 refine wpV_callf (v := fe (leastF x)) (args := #[fe x]) (by rfl) rfl Try.func41 (by kernel_rfl) (by kernel_rfl) rfl (fun W hW => rleast04_c hx) ?_
 simp only [putT, List.set]
 refine wpV_callf (v := .string (bs (bytesN 32 (leastF x)))) (args := #[fe (leastF x)]) (by rfl) rfl Try.func81 (by kernel_rfl) (by kernel_rfl) rfl (fun W hW => raw_c (leastF_lt _)) ?_
 simp only [putT, List.set]
 refine wpV_nil (hLk.out _ ?_)
 clear hLk Lk
 simp only [List.take, List.drop]
 iterate 3 refine wpN_skip (by rfl) ?_
 refine wpN_nil (fun w7 Sw7 hbs => ?_)
 clear hbs
 replace Rg3_0 := range_sees Rg3_0 Lg3 Sw7
 replace Tg3 := there_sees Tg3 Lg3 Sw7
 replace Lg3 := Nat.lt_of_lt_of_le Lg3 Sw7.2.2.size
 replace BE := BE.trans (Sw7.2.2.mono BE.size)
 refine wpL_assign (v := .string (bs (bytesN 32 (leastF x)))) (by rfl) (by rfl) (by rfl) ?_
 simp only [putT, List.set]
 refine wpL_nil (no_panic ?_)
 refine hK5 _ _ ?_
 refine wp_ret ?_
 repeat (first | with_reducible refine then_ret ?_ | with_reducible refine inblock_ret ?_)
 refine bodyPost_ret (v := .string (bs (bytesN 32 (leastF x)))) (res1 rfl (.tmp (by rfl))) rfl ?_
 exact ⟨rfl, BE⟩
end Go.Proofs.Ya

namespace Go.Proofs.Yc
open Go Go.RowKit Go.Proofs.Num
attribute [local irreducible] wpV wpN wpList
open Go.Proofs.Ya
theorem bcells_one9 {v : Nat} (h : v < 256) : bcells [UInt8.ofNat v] = [.int .u8 ((v : Nat) : Int)] := by
 have h9 : (UInt8.ofNat v).toNat = v := by
  rw [UInt8.toNat_ofNat']
  exact Nat.mod_eq_of_lt h
 show [Value.int .u8 (((UInt8.ofNat v).toNat : Nat) : Int)] = _
 rw [h9]
theorem rem_limb0 {P : Program} {T : TypeId} (x : Nat) (W : World) : (binOp .rem T (.int .u64 (limb x 0)) (.int .u64 2)).run P W = .ok (.int .u64 ((x % 2 : Nat) : Int)) W := by
 have h := nr_rem64 (P := P) (T := T) (x := limbN x 0) (y := 2) (by decide) W
 rw [show limbN x 0 % 2 = x % 2 by unfold limbN; rw [Nat.mul_zero, Nat.pow_zero, Nat.div_one]; omega] at h
 exact h
theorem nr_add8 {P : Program} {T : TypeId} (x y : Nat) (W : World) : (binOp .add T (.int .u8 (x : Int)) (.int .u8 (y : Int))).run P W = .ok (.int .u8 (((x + y) % 256 : Nat) : Int)) W :=
 run_add (by rw [← wrap_u8N]; rfl) W
def rText (x y : Nat) : List UInt8 := if x % 2 = 1 then (bytesN 32 (leastF y)).take 31 ++ [UInt8.ofNat ((byteN (bytesN 32 (leastF y)) 31 + 128) % 256)] else bytesN 32 (leastF y)
theorem rText_yes {x y : Nat} (h : x % 2 = 1) : rText x y = (bytesN 32 (leastF y)).take 31 ++ [UInt8.ofNat ((byteN (bytesN 32 (leastF y)) 31 + 128) % 256)] := if_pos h
theorem rText_no {x y : Nat} (h : ¬ x % 2 = 1) : rText x y = bytesN 32 (leastF y) := if_neg h
set_option maxHeartbeats 2000000 in
theorem rText_c {a b : Nat} {w : World} (ha : a < 2 ^ 256) (hb : b < 2 ^ 256) :
  Calls Try.prog 27 #[.agg (fel a ++ fel b : List Value).toArray] w fun e w' => e = .returned (.string (bs (rText a b))) ∧ Below w.heap.size w w' := by
 go_enter Try.func27, Try.ntmps27
 have M := Mem.start w
 refine wp_seq_k (fun K1 hK1 => ?_)
 refine wp_region_seq ?_
 refine wpL_var (t := 32) (cs := fel a ++ fel b) (by rfl) (fun W => ?_) (fun g3 w4 Sw4 Hg3 Bg3 => ?_)
 ·
  (first | rfl | go_simp)
 replace M := ((M.sees Sw4).addS (N := 8) (cs := fel a ++ fel b) (segs := [(0, fel a), (4, fel b)]) (M.ge Hg3) (M.fresh Hg3) Bg3 (by simp [flen]) ⟨rfl, rfl, trivial⟩)
 clear Bg3
 simp only [putT, List.set]
 refine wpL_assign (v := .string (bs ([]))) (by rfl) (by rfl) (by rfl) ?_
 simp only [putT, List.set]
 refine wpL_nil (no_panic ?_)
 refine hK1 _ _ ?_
 refine wp_seq_k (fun K5 hK5 => ?_)
 refine wp_region_seq ?_
 refine wpL_chunk 3 (by rfl) (fun Lk hLk => ?_)
 simp only [List.take, List.drop]
 refine wpV_val (v := .pointer (some ⟨g3, 4, none⟩)) (by rfl) (by rfl) (fun W hW => ?_) ?_
 ·
  (go_simp; exact rfl)
 simp only [putT, List.set]
 refine wpV_load (cs := fel b) (by rfl) rfl rfl (M.r 0 1 rfl rfl) (M.lt 0 rfl) Try.underlying24 rfl info24 ?_
 simp only [putT, List.set]
 refine wpV_callf (v := .string (bs (bytesN 32 (leastF b)))) (args := #[fe b]) (by rfl) rfl Try.func53 (by kernel_rfl) (by kernel_rfl) rfl (fun W hW => rbytes04_c hb) ?_
 simp only [putT, List.set]
 refine wpV_nil (hLk _ (fun w7 Sw7 => ?_))
 clear hLk Lk
 simp only [List.take, List.drop]
 replace M := M.sees Sw7
 refine wpL_assign (v := .string (bs (bytesN 32 (leastF b)))) (by rfl) (by rfl) (by rfl) ?_
 simp only [putT, List.set]
 refine wpL_nil (no_panic ?_)
 refine hK5 _ _ ?_
 refine wp_seq_k (fun K8 hK8 => ?_)
 refine wp_seq_k (fun K9 hK9 => ?_)
 refine wp_region_seq ?_
 refine wpL_chunk 5 (by rfl) (fun Lk hLk => ?_)
 simp only [List.take, List.drop]
 refine wpV_val (v := .pointer (some ⟨g3, 0, none⟩)) (by rfl) (by rfl) (fun W hW => ?_) ?_
 ·
  (go_simp; exact rfl)
 simp only [putT, List.set]
 refine wpV_val (v := .pointer (some ⟨g3, 0, none⟩)) (by rfl) (by rfl) (fun W hW => ?_) ?_
 ·
  (go_simp; exact rfl)
 simp only [putT, List.set]
 refine wpV_load1 (v := .int .u64 (limb a 0)) (by rfl) rfl rfl (range_one (range_sub (M.r 0 0 rfl rfl) 0 1 0 (xs := [.int .u64 (limb a 0)]) rfl rfl)) (M.lt 0 rfl) Try.underlying22 rfl ?_
 simp only [putT, List.set]
 refine wpV_bin (v := .int .u64 ((a % 2 : Nat) : Int)) (by rfl) rfl rfl rfl (fun W => rem_limb0 _ W) ?_
 simp only [putT, List.set]
 refine wpV_bin (v := .bool (decide (a % 2 = 1))) (by rfl) rfl rfl rfl (fun W => run_eqlN (a % 2) 1 _ _ W) ?_
 simp only [putT, List.set]
 refine wpV_nil (hLk _ (fun w11 Sw11 => ?_))
 clear hLk Lk
 simp only [List.take, List.drop]
 replace M := M.sees Sw11
 refine wpL_nil (no_panic ?_)
 refine hK9 _ _ ?_
 cases hc12 : (decide (a % 2 = 1))
 ·
  have hodd : ¬ a % 2 = 1 := of_decide_eq_false hc12
  refine wp_cond_false rfl ?_
  refine wp_skip ?_
  refine hK8 _ _ ?_
  refine wp_seq_k (fun K13 hK13 => ?_)
  refine wp_region_seq ?_
  refine wpL_move (v := .string (bs (bytesN 32 (leastF b)))) (by rfl) (by rfl) (by rfl) ?_
  simp only [putT, List.set]
  refine wpL_assign (v := .string (bs (bytesN 32 (leastF b)))) (by rfl) (by rfl) (by rfl) ?_
  simp only [putT, List.set]
  refine wpL_nil (no_panic ?_)
  refine hK13 _ _ ?_
  refine wp_ret ?_
  repeat (first | with_reducible refine then_ret ?_ | with_reducible refine inblock_ret ?_)
  refine bodyPost_ret (v := .string (bs (bytesN 32 (leastF b)))) (res1 rfl (.tmp (by rfl))) rfl ?_
  have BE := M.below
  exact ⟨by rw [rText_no hodd], BE⟩
 ·
  have hodd : a % 2 = 1 := of_decide_eq_true hc12
  refine wp_cond_true rfl ?_
  refine wp_seq_k (fun K15 hK15 => ?_)
  refine wp_region_treeN (by kernel_rfl) (fun w17 Sw17 => ?_)
  replace M := M.sees Sw17
  refine any_first 0 (v := .string (bs (bytesN 32 (leastF b)))) (by rfl) (by kernel_rfl) nopanic_not (by rfl) (by exact yl_move rfl rfl) ?_
  simp only [putT, List.set]
  refine any_first 2 (v := .string (bs (bytesN 32 (leastF b)))) (by rfl) (by kernel_rfl) nopanic_not (by rfl) (by exact yl_move rfl rfl) ?_
  simp only [putT, List.set]
  refine any_step [1, 3] (by kernel_rfl) rfl (any_two ?_ (any_one ?_))
  ·
   refine any_opL 1 (by rfl) ?_
   simp only [List.take, List.drop]
   refine wpL_chunk 1 (by rfl) (fun Lk hLk => ?_)
   simp only [List.take, List.drop]
   refine wpV_takeS (l := bytesN 32 (leastF b)) (hi := 31) (by rfl) rfl rfl rfl Try.underlying9 (by rw [bytesN_len]; decide) ?_
   simp only [putT, List.set]
   refine wpV_nil (hLk _ (fun w18 Sw18 => ?_))
   clear hLk Lk
   simp only [List.take, List.drop]
   replace M := M.sees Sw18
   refine wpL_nil (then_normal ?_)
   refine any_step [3] (by kernel_rfl) rfl (any_one ?_)
   refine any_opL 3 (by rfl) ?_
   simp only [List.take, List.drop]
   refine wpL_chunk 1 (by rfl) (fun Lk hLk => ?_)
   simp only [List.take, List.drop]
   refine wpV_indexb (n := 31) (by rw [bytesN_len]; decide) (by rfl) rfl rfl rfl Try.underlying9 ?_
   simp only [putT, List.set]
   refine wpV_nil (hLk _ (fun w19 Sw19 => ?_))
   clear hLk Lk
   simp only [List.take, List.drop]
   replace M := M.sees Sw19
   refine wpL_nil (then_normal ?_)
   refine any_step [4] (by kernel_rfl) rfl (any_one ?_)
   refine any_opL 4 (by rfl) ?_
   simp only [List.take, List.drop]
   refine wpL_chunk 1 (by rfl) (fun Lk hLk => ?_)
   simp only [List.take, List.drop]
   refine wpV_bin (v := .int .u8 (((byteN (bytesN 32 (leastF b)) 31 + 128) % 256 : Nat) : Int)) (by rfl) rfl rfl rfl (fun W => (by exact nr_add8 _ _ W)) ?_
   simp only [putT, List.set]
   refine wpV_nil (hLk _ (fun w20 Sw20 => ?_))
   clear hLk Lk
   simp only [List.take, List.drop]
   replace M := M.sees Sw20
   refine wpL_nil (then_normal ?_)
   refine any_step [5] (by kernel_rfl) rfl (any_one ?_)
   refine any_opL 5 (by rfl) ?_
   simp only [List.take, List.drop]
   refine wpL_rowN (vs := [.int .u8 (((byteN (bytesN 32 (leastF b)) 31 + 128) % 256 : Nat) : Int)]) (z := .int .u8 0) (bytes := 1) (by rfl) (by rfl) Try.underlying62 (by kernel_rfl) (by decide) (by kernel_rfl) (fun g21 w22 Sw22 Hg21 Bg21 => ?_)
   replace M := ((M.sees Sw22).add (N := 1) (cs := [.int .u8 (((byteN (bytesN 32 (leastF b)) 31 + 128) % 256 : Nat) : Int)]) (M.ge Hg21) (M.fresh Hg21) Bg21 rfl)
   clear Bg21
   simp only [putT, List.set]
   refine wpL_nil (then_normal ?_)
   refine any_step [6] (by kernel_rfl) rfl (any_one ?_)
   refine any_opL 6 (by rfl) ?_
   simp only [List.take, List.drop]
   refine wpL_chunk 1 (by rfl) (fun Lk hLk => ?_)
   simp only [List.take, List.drop]
   replace M := M.read1 (cs := bcells [UInt8.ofNat ((byteN (bytesN 32 (leastF b)) 31 + 128) % 256)]) 0 rfl (by rw [bcells_one9 (Nat.mod_lt _ (by decide))]; exact (M.r 0 0 rfl rfl))
   simp only [List.set] at M
   refine wpV_b2s (l := [UInt8.ofNat ((byteN (bytesN 32 (leastF b)) 31 + 128) % 256)]) (by rfl) rfl rfl rfl Try.underlying62 Try.underlying5 Try.underlying9 (M.r 0 0 rfl rfl) (M.lt 0 rfl) ?_
   simp only [putT, List.set]
   refine wpV_nil (hLk _ (fun w23 Sw23 => ?_))
   clear hLk Lk
   simp only [List.take, List.drop]
   replace M := M.sees Sw23
   refine wpL_nil (then_normal ?_)
   refine any_step [7] (by kernel_rfl) rfl (any_one ?_)
   refine any_opL 7 (by rfl) ?_
   simp only [List.take, List.drop]
   refine wpL_chunk 1 (by rfl) (fun Lk hLk => ?_)
   simp only [List.take, List.drop]
   refine wpV_binS (v := .string (bs (((bytesN 32 (leastF b)).take 31) ++ ([UInt8.ofNat ((byteN (bytesN 32 (leastF b)) 31 + 128) % 256)])))) (by rfl) rfl rfl rfl (run_add_bs _ _ _ (by simp [List.length_take, bytesN_len])) ?_
   simp only [putT, List.set]
   refine wpV_nil (hLk _ (fun w24 Sw24 => ?_))
   clear hLk Lk
   simp only [List.take, List.drop]
   replace M := M.sees Sw24
   refine wpL_nil (then_normal ?_)
   refine any_first 8 (v := .string (bs (((bytesN 32 (leastF b)).take 31) ++ ([UInt8.ofNat ((byteN (bytesN 32 (leastF b)) 31 + 128) % 256)])))) (by rfl) (by kernel_rfl) nopanic_not (by rfl) (by exact yl_assign rfl rfl) ?_
   simp only [putT, List.set]
   refine any_end (by kernel_rfl) (no_panic ?_)
   refine hK15 _ _ ?_
   refine wp_ret ?_
   repeat (first | with_reducible refine then_ret ?_ | with_reducible refine inblock_ret ?_)
   refine bodyPost_ret (v := .string (bs (((bytesN 32 (leastF b)).take 31) ++ ([UInt8.ofNat ((byteN (bytesN 32 (leastF b)) 31 + 128) % 256)])))) (res1 rfl (.tmp (by rfl))) rfl ?_
   have BE := M.below
   exact ⟨by rw [rText_yes hodd], BE⟩
  ·
   refine any_opL 3 (by rfl) ?_
   simp only [List.take, List.drop]
   refine wpL_chunk 1 (by rfl) (fun Lk hLk => ?_)
   simp only [List.take, List.drop]
   refine wpV_indexb (n := 31) (by rw [bytesN_len]; decide) (by rfl) rfl rfl rfl Try.underlying9 ?_
   simp only [putT, List.set]
   refine wpV_nil (hLk _ (fun w25 Sw25 => ?_))
   clear hLk Lk
   simp only [List.take, List.drop]
   replace M := M.sees Sw25
   refine wpL_nil (then_normal ?_)
   refine any_step [1, 4] (by kernel_rfl) rfl (any_two ?_ (any_one ?_))
   ·
    refine any_opL 1 (by rfl) ?_
    simp only [List.take, List.drop]
    refine wpL_chunk 1 (by rfl) (fun Lk hLk => ?_)
    simp only [List.take, List.drop]
    refine wpV_takeS (l := bytesN 32 (leastF b)) (hi := 31) (by rfl) rfl rfl rfl Try.underlying9 (by rw [bytesN_len]; decide) ?_
    simp only [putT, List.set]
    refine wpV_nil (hLk _ (fun w26 Sw26 => ?_))
    clear hLk Lk
    simp only [List.take, List.drop]
    replace M := M.sees Sw26
    refine wpL_nil (then_normal ?_)
    refine any_step [4] (by kernel_rfl) rfl (any_one ?_)
    refine any_opL 4 (by rfl) ?_
    simp only [List.take, List.drop]
    refine wpL_chunk 1 (by rfl) (fun Lk hLk => ?_)
    simp only [List.take, List.drop]
    refine wpV_bin (v := .int .u8 (((byteN (bytesN 32 (leastF b)) 31 + 128) % 256 : Nat) : Int)) (by rfl) rfl rfl rfl (fun W => (by exact nr_add8 _ _ W)) ?_
    simp only [putT, List.set]
    refine wpV_nil (hLk _ (fun w27 Sw27 => ?_))
    clear hLk Lk
    simp only [List.take, List.drop]
    replace M := M.sees Sw27
    refine wpL_nil (then_normal ?_)
    refine any_step [5] (by kernel_rfl) rfl (any_one ?_)
    refine any_opL 5 (by rfl) ?_
    simp only [List.take, List.drop]
    refine wpL_rowN (vs := [.int .u8 (((byteN (bytesN 32 (leastF b)) 31 + 128) % 256 : Nat) : Int)]) (z := .int .u8 0) (bytes := 1) (by rfl) (by rfl) Try.underlying62 (by kernel_rfl) (by decide) (by kernel_rfl) (fun g28 w29 Sw29 Hg28 Bg28 => ?_)
    replace M := ((M.sees Sw29).add (N := 1) (cs := [.int .u8 (((byteN (bytesN 32 (leastF b)) 31 + 128) % 256 : Nat) : Int)]) (M.ge Hg28) (M.fresh Hg28) Bg28 rfl)
    clear Bg28
    simp only [putT, List.set]
    refine wpL_nil (then_normal ?_)
    refine any_step [6] (by kernel_rfl) rfl (any_one ?_)
    refine any_opL 6 (by rfl) ?_
    simp only [List.take, List.drop]
    refine wpL_chunk 1 (by rfl) (fun Lk hLk => ?_)
    simp only [List.take, List.drop]
    replace M := M.read1 (cs := bcells [UInt8.ofNat ((byteN (bytesN 32 (leastF b)) 31 + 128) % 256)]) 0 rfl (by rw [bcells_one9 (Nat.mod_lt _ (by decide))]; exact (M.r 0 0 rfl rfl))
    simp only [List.set] at M
    refine wpV_b2s (l := [UInt8.ofNat ((byteN (bytesN 32 (leastF b)) 31 + 128) % 256)]) (by rfl) rfl rfl rfl Try.underlying62 Try.underlying5 Try.underlying9 (M.r 0 0 rfl rfl) (M.lt 0 rfl) ?_
    simp only [putT, List.set]
    refine wpV_nil (hLk _ (fun w30 Sw30 => ?_))
    clear hLk Lk
    simp only [List.take, List.drop]
    replace M := M.sees Sw30
    refine wpL_nil (then_normal ?_)
    refine any_step [7] (by kernel_rfl) rfl (any_one ?_)
    refine any_opL 7 (by rfl) ?_
    simp only [List.take, List.drop]
    refine wpL_chunk 1 (by rfl) (fun Lk hLk => ?_)
    simp only [List.take, List.drop]
    refine wpV_binS (v := .string (bs (((bytesN 32 (leastF b)).take 31) ++ ([UInt8.ofNat ((byteN (bytesN 32 (leastF b)) 31 + 128) % 256)])))) (by rfl) rfl rfl rfl (run_add_bs _ _ _ (by simp [List.length_take, bytesN_len])) ?_
    simp only [putT, List.set]
    refine wpV_nil (hLk _ (fun w31 Sw31 => ?_))
    clear hLk Lk
    simp only [List.take, List.drop]
    replace M := M.sees Sw31
    refine wpL_nil (then_normal ?_)
    refine any_first 8 (v := .string (bs (((bytesN 32 (leastF b)).take 31) ++ ([UInt8.ofNat ((byteN (bytesN 32 (leastF b)) 31 + 128) % 256)])))) (by rfl) (by kernel_rfl) nopanic_not (by rfl) (by exact yl_assign rfl rfl) ?_
    simp only [putT, List.set]
    refine any_end (by kernel_rfl) (no_panic ?_)
    refine hK15 _ _ ?_
    refine wp_ret ?_
    repeat (first | with_reducible refine then_ret ?_ | with_reducible refine inblock_ret ?_)
    refine bodyPost_ret (v := .string (bs (((bytesN 32 (leastF b)).take 31) ++ ([UInt8.ofNat ((byteN (bytesN 32 (leastF b)) 31 + 128) % 256)])))) (res1 rfl (.tmp (by rfl))) rfl ?_
    have BE := M.below
    exact ⟨by rw [rText_yes hodd], BE⟩
   ·
    refine any_opL 4 (by rfl) ?_
    simp only [List.take, List.drop]
    refine wpL_chunk 1 (by rfl) (fun Lk hLk => ?_)
    simp only [List.take, List.drop]
    refine wpV_bin (v := .int .u8 (((byteN (bytesN 32 (leastF b)) 31 + 128) % 256 : Nat) : Int)) (by rfl) rfl rfl rfl (fun W => (by exact nr_add8 _ _ W)) ?_
    simp only [putT, List.set]
    refine wpV_nil (hLk _ (fun w32 Sw32 => ?_))
    clear hLk Lk
    simp only [List.take, List.drop]
    replace M := M.sees Sw32
    refine wpL_nil (then_normal ?_)
    refine any_step [1, 5] (by kernel_rfl) rfl (any_two ?_ (any_one ?_))
    ·
     refine any_opL 1 (by rfl) ?_
     simp only [List.take, List.drop]
     refine wpL_chunk 1 (by rfl) (fun Lk hLk => ?_)
     simp only [List.take, List.drop]
     refine wpV_takeS (l := bytesN 32 (leastF b)) (hi := 31) (by rfl) rfl rfl rfl Try.underlying9 (by rw [bytesN_len]; decide) ?_
     simp only [putT, List.set]
     refine wpV_nil (hLk _ (fun w33 Sw33 => ?_))
     clear hLk Lk
     simp only [List.take, List.drop]
     replace M := M.sees Sw33
     refine wpL_nil (then_normal ?_)
     refine any_step [5] (by kernel_rfl) rfl (any_one ?_)
     refine any_opL 5 (by rfl) ?_
     simp only [List.take, List.drop]
     refine wpL_rowN (vs := [.int .u8 (((byteN (bytesN 32 (leastF b)) 31 + 128) % 256 : Nat) : Int)]) (z := .int .u8 0) (bytes := 1) (by rfl) (by rfl) Try.underlying62 (by kernel_rfl) (by decide) (by kernel_rfl) (fun g34 w35 Sw35 Hg34 Bg34 => ?_)
     replace M := ((M.sees Sw35).add (N := 1) (cs := [.int .u8 (((byteN (bytesN 32 (leastF b)) 31 + 128) % 256 : Nat) : Int)]) (M.ge Hg34) (M.fresh Hg34) Bg34 rfl)
     clear Bg34
     simp only [putT, List.set]
     refine wpL_nil (then_normal ?_)
     refine any_step [6] (by kernel_rfl) rfl (any_one ?_)
     refine any_opL 6 (by rfl) ?_
     simp only [List.take, List.drop]
     refine wpL_chunk 1 (by rfl) (fun Lk hLk => ?_)
     simp only [List.take, List.drop]
     replace M := M.read1 (cs := bcells [UInt8.ofNat ((byteN (bytesN 32 (leastF b)) 31 + 128) % 256)]) 0 rfl (by rw [bcells_one9 (Nat.mod_lt _ (by decide))]; exact (M.r 0 0 rfl rfl))
     simp only [List.set] at M
     refine wpV_b2s (l := [UInt8.ofNat ((byteN (bytesN 32 (leastF b)) 31 + 128) % 256)]) (by rfl) rfl rfl rfl Try.underlying62 Try.underlying5 Try.underlying9 (M.r 0 0 rfl rfl) (M.lt 0 rfl) ?_
     simp only [putT, List.set]
     refine wpV_nil (hLk _ (fun w36 Sw36 => ?_))
     clear hLk Lk
     simp only [List.take, List.drop]
     replace M := M.sees Sw36
     refine wpL_nil (then_normal ?_)
     refine any_step [7] (by kernel_rfl) rfl (any_one ?_)
     refine any_opL 7 (by rfl) ?_
     simp only [List.take, List.drop]
     refine wpL_chunk 1 (by rfl) (fun Lk hLk => ?_)
     simp only [List.take, List.drop]
     refine wpV_binS (v := .string (bs (((bytesN 32 (leastF b)).take 31) ++ ([UInt8.ofNat ((byteN (bytesN 32 (leastF b)) 31 + 128) % 256)])))) (by rfl) rfl rfl rfl (run_add_bs _ _ _ (by simp [List.length_take, bytesN_len])) ?_
     simp only [putT, List.set]
     refine wpV_nil (hLk _ (fun w37 Sw37 => ?_))
     clear hLk Lk
     simp only [List.take, List.drop]
     replace M := M.sees Sw37
     refine wpL_nil (then_normal ?_)
     refine any_first 8 (v := .string (bs (((bytesN 32 (leastF b)).take 31) ++ ([UInt8.ofNat ((byteN (bytesN 32 (leastF b)) 31 + 128) % 256)])))) (by rfl) (by kernel_rfl) nopanic_not (by rfl) (by exact yl_assign rfl rfl) ?_
     simp only [putT, List.set]
     refine any_end (by kernel_rfl) (no_panic ?_)
     refine hK15 _ _ ?_
     refine wp_ret ?_
     repeat (first | with_reducible refine then_ret ?_ | with_reducible refine inblock_ret ?_)
     refine bodyPost_ret (v := .string (bs (((bytesN 32 (leastF b)).take 31) ++ ([UInt8.ofNat ((byteN (bytesN 32 (leastF b)) 31 + 128) % 256)])))) (res1 rfl (.tmp (by rfl))) rfl ?_
     have BE := M.below
     exact ⟨by rw [rText_yes hodd], BE⟩
    ·
     refine any_opL 5 (by rfl) ?_
     simp only [List.take, List.drop]
     refine wpL_rowN (vs := [.int .u8 (((byteN (bytesN 32 (leastF b)) 31 + 128) % 256 : Nat) : Int)]) (z := .int .u8 0) (bytes := 1) (by rfl) (by rfl) Try.underlying62 (by kernel_rfl) (by decide) (by kernel_rfl) (fun g38 w39 Sw39 Hg38 Bg38 => ?_)
     replace M := ((M.sees Sw39).add (N := 1) (cs := [.int .u8 (((byteN (bytesN 32 (leastF b)) 31 + 128) % 256 : Nat) : Int)]) (M.ge Hg38) (M.fresh Hg38) Bg38 rfl)
     clear Bg38
     simp only [putT, List.set]
     refine wpL_nil (then_normal ?_)
     refine any_step [1, 6] (by kernel_rfl) rfl (any_two ?_ (any_one ?_))
     ·
      refine any_opL 1 (by rfl) ?_
      simp only [List.take, List.drop]
      refine wpL_chunk 1 (by rfl) (fun Lk hLk => ?_)
      simp only [List.take, List.drop]
      refine wpV_takeS (l := bytesN 32 (leastF b)) (hi := 31) (by rfl) rfl rfl rfl Try.underlying9 (by rw [bytesN_len]; decide) ?_
      simp only [putT, List.set]
      refine wpV_nil (hLk _ (fun w40 Sw40 => ?_))
      clear hLk Lk
      simp only [List.take, List.drop]
      replace M := M.sees Sw40
      refine wpL_nil (then_normal ?_)
      refine any_step [6] (by kernel_rfl) rfl (any_one ?_)
      refine any_opL 6 (by rfl) ?_
      simp only [List.take, List.drop]
      refine wpL_chunk 1 (by rfl) (fun Lk hLk => ?_)
      simp only [List.take, List.drop]
      replace M := M.read1 (cs := bcells [UInt8.ofNat ((byteN (bytesN 32 (leastF b)) 31 + 128) % 256)]) 0 rfl (by rw [bcells_one9 (Nat.mod_lt _ (by decide))]; exact (M.r 0 0 rfl rfl))
      simp only [List.set] at M
      refine wpV_b2s (l := [UInt8.ofNat ((byteN (bytesN 32 (leastF b)) 31 + 128) % 256)]) (by rfl) rfl rfl rfl Try.underlying62 Try.underlying5 Try.underlying9 (M.r 0 0 rfl rfl) (M.lt 0 rfl) ?_
      simp only [putT, List.set]
      refine wpV_nil (hLk _ (fun w41 Sw41 => ?_))
      clear hLk Lk
      simp only [List.take, List.drop]
      replace M := M.sees Sw41
      refine wpL_nil (then_normal ?_)
      refine any_step [7] (by kernel_rfl) rfl (any_one ?_)
      refine any_opL 7 (by rfl) ?_
      simp only [List.take, List.drop]
      refine wpL_chunk 1 (by rfl) (fun Lk hLk => ?_)
      simp only [List.take, List.drop]
      refine wpV_binS (v := .string (bs (((bytesN 32 (leastF b)).take 31) ++ ([UInt8.ofNat ((byteN (bytesN 32 (leastF b)) 31 + 128) % 256)])))) (by rfl) rfl rfl rfl (run_add_bs _ _ _ (by simp [List.length_take, bytesN_len])) ?_
      simp only [putT, List.set]
      refine wpV_nil (hLk _ (fun w42 Sw42 => ?_))
      clear hLk Lk
      simp only [List.take, List.drop]
      replace M := M.sees Sw42
      refine wpL_nil (then_normal ?_)
      refine any_first 8 (v := .string (bs (((bytesN 32 (leastF b)).take 31) ++ ([UInt8.ofNat ((byteN (bytesN 32 (leastF b)) 31 + 128) % 256)])))) (by rfl) (by kernel_rfl) nopanic_not (by rfl) (by exact yl_assign rfl rfl) ?_
      simp only [putT, List.set]
      refine any_end (by kernel_rfl) (no_panic ?_)
      refine hK15 _ _ ?_
      refine wp_ret ?_
      repeat (first | with_reducible refine then_ret ?_ | with_reducible refine inblock_ret ?_)
      refine bodyPost_ret (v := .string (bs (((bytesN 32 (leastF b)).take 31) ++ ([UInt8.ofNat ((byteN (bytesN 32 (leastF b)) 31 + 128) % 256)])))) (res1 rfl (.tmp (by rfl))) rfl ?_
      have BE := M.below
      exact ⟨by rw [rText_yes hodd], BE⟩
     ·
      refine any_opL 6 (by rfl) ?_
      simp only [List.take, List.drop]
      refine wpL_chunk 1 (by rfl) (fun Lk hLk => ?_)
      simp only [List.take, List.drop]
      replace M := M.read1 (cs := bcells [UInt8.ofNat ((byteN (bytesN 32 (leastF b)) 31 + 128) % 256)]) 0 rfl (by rw [bcells_one9 (Nat.mod_lt _ (by decide))]; exact (M.r 0 0 rfl rfl))
      simp only [List.set] at M
      refine wpV_b2s (l := [UInt8.ofNat ((byteN (bytesN 32 (leastF b)) 31 + 128) % 256)]) (by rfl) rfl rfl rfl Try.underlying62 Try.underlying5 Try.underlying9 (M.r 0 0 rfl rfl) (M.lt 0 rfl) ?_
      simp only [putT, List.set]
      refine wpV_nil (hLk _ (fun w43 Sw43 => ?_))
      clear hLk Lk
      simp only [List.take, List.drop]
      replace M := M.sees Sw43
      refine wpL_nil (then_normal ?_)
      refine any_step [1] (by kernel_rfl) rfl (any_one ?_)
      refine any_opL 1 (by rfl) ?_
      simp only [List.take, List.drop]
      refine wpL_chunk 1 (by rfl) (fun Lk hLk => ?_)
      simp only [List.take, List.drop]
      refine wpV_takeS (l := bytesN 32 (leastF b)) (hi := 31) (by rfl) rfl rfl rfl Try.underlying9 (by rw [bytesN_len]; decide) ?_
      simp only [putT, List.set]
      refine wpV_nil (hLk _ (fun w44 Sw44 => ?_))
      clear hLk Lk
      simp only [List.take, List.drop]
      replace M := M.sees Sw44
      refine wpL_nil (then_normal ?_)
      refine any_step [7] (by kernel_rfl) rfl (any_one ?_)
      refine any_opL 7 (by rfl) ?_
      simp only [List.take, List.drop]
      refine wpL_chunk 1 (by rfl) (fun Lk hLk => ?_)
      simp only [List.take, List.drop]
      refine wpV_binS (v := .string (bs (((bytesN 32 (leastF b)).take 31) ++ ([UInt8.ofNat ((byteN (bytesN 32 (leastF b)) 31 + 128) % 256)])))) (by rfl) rfl rfl rfl (run_add_bs _ _ _ (by simp [List.length_take, bytesN_len])) ?_
      simp only [putT, List.set]
      refine wpV_nil (hLk _ (fun w45 Sw45 => ?_))
      clear hLk Lk
      simp only [List.take, List.drop]
      replace M := M.sees Sw45
      refine wpL_nil (then_normal ?_)
      refine any_first 8 (v := .string (bs (((bytesN 32 (leastF b)).take 31) ++ ([UInt8.ofNat ((byteN (bytesN 32 (leastF b)) 31 + 128) % 256)])))) (by rfl) (by kernel_rfl) nopanic_not (by rfl) (by exact yl_assign rfl rfl) ?_
      simp only [putT, List.set]
      refine any_end (by kernel_rfl) (no_panic ?_)
      refine hK15 _ _ ?_
      refine wp_ret ?_
      repeat (first | with_reducible refine then_ret ?_ | with_reducible refine inblock_ret ?_)
      refine bodyPost_ret (v := .string (bs (((bytesN 32 (leastF b)).take 31) ++ ([UInt8.ofNat ((byteN (bytesN 32 (leastF b)) 31 + 128) % 256)])))) (res1 rfl (.tmp (by rfl))) rfl ?_
      have BE := M.below
      exact ⟨by rw [rText_yes hodd], BE⟩
end Go.Proofs.Yc

