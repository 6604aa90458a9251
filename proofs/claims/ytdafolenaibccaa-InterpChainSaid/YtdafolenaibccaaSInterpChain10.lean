import Derived.Test.YtdafolenaibccaaSInterpChain9
import Derived.WalkSpells
import Derived.Defers
import Derived.Recover
import Derived.WalkSmall
import Derived.Deep.RegionHeld3
import Derived.Laws.EntriesVeiled
import Derived.Laws.Externs
import Derived.Shelf.Spec.BitsCarry
import Derived.Maps.OwnOps
import Derived.Maps.Views
namespace Go.Proofs.Ytdafolenaibccaa.Hand
open Go.RowKit Go.Proofs.YtdafolenaibccaaW.PrintWords Go.Proofs.YtdafolenaibccaaW.PrintLast Go.Proofs.YtdafolenaibccaaW.PrintMore
set_option linter.unusedVariables false
set_option linter.unusedSimpArgs false
open Go.Maps in
def cntMap (l : List Int) : DataW Unit := l.foldl (fun m x => m.put (.int .u64 x) (.lit (.int .i64 1))) (.map [])
theorem cntMap_snoc (l : List Int) (x : Int) : cntMap (l ++ [x]) = (cntMap l).put (.int .u64 x) (.lit (.int .i64 1)) := by simp [cntMap, List.foldl_append]
theorem cntMap_isMap (l : List Int) : Go.Maps.IsMap (cntMap l) := by
  have : ∀ (l : List Int) (m : DataW Unit), Go.Maps.IsMap m → Go.Maps.IsMap (l.foldl (fun m x => m.put (.int .u64 x) (.lit (.int .i64 1))) m) := by
    intro l
    induction l with
    | nil => intro m h; exact h
    | cons x l ih => intro m h; exact ih _ (h.put _ _)
  exact this l _ Go.Maps.isMap_empty
theorem cntMap_at (x : Int) (l : List Int) : (cntMap l).atKey (.int .u64 x) (.lit (.int .i64 0)) = .lit (.int .i64 (if x ∈ l then 1 else 0)) := by
  have : ∀ (l : List Int) (m : DataW Unit) (c : Int), Go.Maps.IsMap m → m.atKey (.int .u64 x) (.lit (.int .i64 0)) = .lit (.int .i64 c) →
      (l.foldl (fun m x => m.put (.int .u64 x) (.lit (.int .i64 1))) m).atKey (.int .u64 x) (.lit (.int .i64 0)) = .lit (.int .i64 (if x ∈ l then 1 else c)) := by
    intro l
    induction l with
    | nil => intro m c _ h; simpa using h
    | cons y l ih =>
      intro m c hm h
      by_cases e : x = y
      · subst e
        have := ih (m.put (.int .u64 x) (.lit (.int .i64 1))) 1 (hm.put _ _) (Go.Maps.atKey_put_same hm (show WideAt.IsKeyLit (.int .u64 x) from trivial) _ _)
        simpa using this
      · have := ih (m.put (.int .u64 y) (.lit (.int .i64 1))) c (hm.put _ _) ((Go.Maps.atKey_put_other (by intro h; injection h with _ h; exact e h) _ _).trans h)
        simpa [e] using this
  have := this l (.map []) 0 Go.Maps.isMap_empty rfl
  simpa [cntMap] using this
def Uniq (l : List Int) : Prop := ∀ i j : Nat, i < j → ∀ (hj : j < l.length) (hi : i < l.length), l[i] ≠ l[j]
theorem Uniq.no {l : List Int} {n : Nat} (hn : n < l.length) (h : l[n] ∈ l.take n) : ¬ Uniq l := by
  intro hu
  obtain ⟨i, hi, e⟩ := List.mem_iff_getElem.1 h
  rw [List.length_take] at hi
  rw [List.getElem_take] at e
  exact hu i n (by omega) hn (by omega) e
theorem Uniq.step {l : List Int} {n : Nat} (hn : n < l.length) (hu : Uniq (l.take n)) (h : l[n] ∉ l.take n) : Uniq (l.take (n + 1)) := by
  intro i j hij hj hi
  rw [List.length_take] at hi hj
  rw [List.getElem_take, List.getElem_take]
  by_cases e : j = n
  · subst e
    intro e
    exact h (List.mem_iff_getElem.2 ⟨i, by rw [List.length_take]; omega, by rw [List.getElem_take]; exact e⟩)
  · have := hu i j hij (by rw [List.length_take]; omega) (by rw [List.length_take]; omega)
    rw [List.getElem_take, List.getElem_take] at this
    exact this
end Go.Proofs.Ytdafolenaibccaa.Hand
