import Derived.WalkKit
import Derived.WalkSpells
import Derived.Laws.Pointers
import Derived.RowKit3
import Derived.Below
import Derived.Outline
import Derived.LoopN
import Derived.Lib.Hide
import Derived.Handy
import Derived.Laws.Bits64b
import Derived.Test.YtdcmmnindlhghaaPtV
import Derived.Test.YtdcmmnindlhghaaPtW
set_option linter.unusedSimpArgs false
set_option linter.unusedVariables false
namespace Go.Proofs.Yc
open Go Go.RowKit Go.Proofs.Num
attribute [local irreducible] wpV wpN wpList
open Go.Proofs.Ya
theorem Parse_text {p : P4} {w : World} (hp : rightP p = true) :
  Calls Try.prog 10 #[.string (bs (textQ (affX p) (affY p)))] w fun e w' => e = .returned (.tuple #[.agg (fel (affP (affX p) (affY p)).x ++ fel (affP (affX p) (affY p)).y ++ fel (affP (affX p) (affY p)).z ++ fel (affP (affX p) (affY p)).t : List Value).toArray, .int .i64 0]) ∧ Below w.heap.size w w' := by
 have hx := affX_ltp p
 have hy := affY_ltp p
 have ho := (ofRightP hp).2.on
 have hr := rootX_on hx ho
 have hf := fp_text (x := affX p) hy
 have hb := textQ_odd (x := affX p) hy
 generalize affX p = x at *
 generalize affY p = y at *
 have hx2 : x < 2 ^ 256 := Nat.lt_trans hx (by decide)
 have hy2 : y < 2 ^ 256 := Nat.lt_trans hy (by decide)
 by_cases h : x % 2 = 1
 ·
  have h9 := Parse_odd (l := textQ x y) (x := fsub 0 x) (y := y) (w := w) (textQ_len _ _) (fsub_lt ..) hy2 hf.1 hf.2 (by rw [hr, if_neg (by omega)]) (hb.trans (decide_eq_true h)) (decide_eq_false fun e => by rw [fsub_zero_iff hx] at e; omega)
  rw [fsub_twice hx] at h9
  exact h9
 ·
  exact Parse_even (l := textQ x y) (x := x) (y := y) (w := w) (textQ_len _ _) hx2 hy2 hf.1 hf.2 (by rw [hr, if_pos (by omega)]) (hb.trans (decide_eq_false h))
end Go.Proofs.Yc

