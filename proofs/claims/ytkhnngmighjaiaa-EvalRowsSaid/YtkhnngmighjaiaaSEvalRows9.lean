import Derived.Test.YtkhnngmighjaiaaSEvalRows8
import Derived.WalkSpells
import Derived.Defers
import Derived.Recover
import Derived.WalkSmall
import Derived.Deep.RegionHeld3
import Derived.Laws.EntriesVeiled
import Derived.Laws.Externs
import Derived.Shelf.Spec.BitsCarry
import Derived.Maps.OwnOps
import Derived.Maps.Views
namespace Go.Proofs.Ytkhnngmighjaiaa.Hand
open Go.RowKit Go.Proofs.YtkhnngmighjaiaaW.PrintWords Go.Proofs.YtkhnngmighjaiaaW.PrintLast Go.Proofs.YtkhnngmighjaiaaW.PrintMore
set_option linter.unusedVariables false
set_option linter.unusedSimpArgs false
def anyQ {α : Type} (q : α → Option Bool) : List α → Option Bool
  | [] => some false
  | x :: l => (q x).bind fun b => if b = true then some true else anyQ q l
def Uniq (l : List Int) : Prop := ∀ i j : Nat, i < j → ∀ (hj : j < l.length) (hi : i < l.length), l[i] ≠ l[j]
theorem Uniq.step {l : List Int} {n : Nat} (hn : n < l.length) (hu : Uniq (l.take n)) (h : l[n] ∉ l.take n) : Uniq (l.take (n + 1)) := by
  intro i j hij hj hi
  rw [List.length_take] at hi hj
  rw [List.getElem_take, List.getElem_take]
  by_cases e : j = n
  · subst e
    intro e
    exact h (List.mem_iff_getElem.2 ⟨i, by rw [List.length_take]; omega, by rw [List.getElem_take]; exact e⟩)
  · have := hu i j hij (by rw [List.length_take]; omega) (by rw [List.length_take]; omega)
    rw [List.getElem_take, List.getElem_take] at this
    exact this
end Go.Proofs.Ytkhnngmighjaiaa.Hand
