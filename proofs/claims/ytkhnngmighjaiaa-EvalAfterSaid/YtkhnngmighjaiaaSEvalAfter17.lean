import Derived.Test.YtkhnngmighjaiaaSEvalAfter0
import Derived.Test.YtkhnngmighjaiaaSEvalAfter8
import Derived.Deep.WholeRow
import Derived.StillTailTactics
import Derived.Shelf.Bits.Mul64
import Derived.Laws.CopyOwn
import Derived.Laws.Rows
namespace Go.Proofs.Ytkhnngmighjaiaa.Arr
open Go.RowKit Go.Proofs Go.Proofs.YtkhnngmighjaiaaW.PrintWords
set_option linter.unusedVariables false
@[reducible] def ptrOf : Value → Value
  | .slice A _ _ => .pointer A
  | v => v
def lenOf : Value → Nat
  | .slice _ n _ => n
  | _ => 0
@[simp, go_sem] theorem ptrOf_slice (A : Option Addr) (n c : Nat) : ptrOf (.slice A n c) = .pointer A := rfl
end Go.Proofs.Ytkhnngmighjaiaa.Arr
