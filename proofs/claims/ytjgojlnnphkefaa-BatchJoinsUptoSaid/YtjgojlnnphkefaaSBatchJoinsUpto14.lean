import Derived.Test.YtjgojlnnphkefaaSBatchJoinsUpto13
import Derived.Test.YtjgojlnnphkefaaRows
namespace Go.Proofs.Ytjgojlnnphkefaa.Open
open Go.RowKit Go.Proofs.YtjgojlnnphkefaaW.PrintWords Go.ChangeShapes Go.WideShapes
set_option linter.unusedVariables false
set_option linter.unusedSimpArgs false
def OpensB (P : Program) {α : Type} (d : Kd α) (t : TypeId) (Wf : α → Prop) (Bk : α → Nat) : Prop :=
  P.cellsOf t = d.sz ∧ ∀ {H : Type} (enc : TypeId × Value → H) (W : World) (fuel : Nat) (cs : List Value) (x : DataW H × List MemPlace),
    DataW.trod enc P W 0 (fun _ => true) true fuel t cs = some x → (∀ n ∈ x.1.weights P t, n ≤ reachBytes) → ∃ a, d.K W a cs ∧ Wf a ∧ Bk a ≤ Rows.uptoBulk x.1
theorem bulk_one {H : Type} (d : DataW H) : 1 ≤ Rows.uptoBulk d := by
  cases d with
  | lit l => cases l <;> simp [Rows.uptoBulk]
  | nil => simp [Rows.uptoBulk]
  | ptr d => simp [Rows.uptoBulk]
  | slice elems spare => simp [Rows.uptoBulk]
  | agg parts => simp [Rows.uptoBulk]
  | iface t d => simp [Rows.uptoBulk]
  | map entries => simp [Rows.uptoBulk]
  | held h => simp [Rows.uptoBulk]
theorem opensB_plain {P : Program} {α : Type} {d : Kd α} {t : TypeId} {Wf : α → Prop} (h : Opens P d t Wf) : OpensB P d t Wf (fun _ => 1) := by
  refine ⟨h.1, fun enc W fuel cs x hx hw => ?_⟩
  obtain ⟨a, h1, h2⟩ := h.2 enc W fuel cs x hx hw
  exact ⟨a, h1, h2, bulk_one _⟩
theorem bulk_sum {H : Type} {α : Type} (Bk : α → Nat) : ∀ (l : List α) (ds : List (DataW H)), l.length ≤ ds.length → (∀ (i : Nat) (a : α) (x : DataW H), l[i]? = some a → ds[i]? = some x → Bk a ≤ Rows.uptoBulk x) → (l.map Bk).sum ≤ Rows.uptoBulkAll ds
  | [], _, _, _ => by simp
  | a :: l, [], h, _ => by simp at h
  | a :: l, x :: ds, h, hq => by
    have h1 := hq 0 a x rfl rfl
    have h2 := bulk_sum Bk l ds (by simpa using h) (fun i a x h1 h2 => hq (i + 1) a x h1 h2)
    simp only [List.map_cons, List.sum_cons, Rows.uptoBulkAll]
    omega
theorem opensB_slice {P : Program} {α : Type} {d : Kd α} {t e : TypeId} {Wf : α → Prop} {Bk : α → Nat} (ht : P.underlying t = some (.slice e)) (hc : P.cellsOf t = 1) (hs : 0 < d.sz) {B : Nat} (hB : P.bytesOf e = B) (he : OpensB P d e Wf Bk) :
    OpensB P (Kd.slice e d) t (fun l => l.length ≤ maxLen ∧ l.length * B ≤ 140737488351232 ∧ ∀ x ∈ l, Wf x) (fun l => 1 + (l.map Bk).sum) := by
  refine ⟨hc, fun enc W fuel cs x h hw => ?_⟩
  rcases DataW.trod_slice ht h with ⟨rfl, rfl⟩ | ⟨a, len, cap, elems, rest, n, _, rfl, rfl, hb, hl, hm, hlen, hel, hsp, hns⟩
  · exact ⟨[], ⟨none, 0, rfl, Nat.le_refl _, rfl, Nat.zero_le _, fun h => by simp at h⟩, ⟨by simp, by simp, fun x hx => by cases hx⟩, by simpa using bulk_one _⟩
  · have each : ∀ i, i < len → ∃ p, (∃ c, c.length = d.sz ∧ d.K W p c ∧ ∀ j u, c[j]? = some u → W.cell? (a.add (i * d.sz + j)) = some u) ∧ Wf p ∧ ∀ y, (elems.map (·.1))[i]? = some y → Bk p ≤ Rows.uptoBulk y := by
      intro i hi
      have hE := hel i hi
      have hlt : i < elems.length := by omega
      rw [List.getElem?_eq_getElem hlt, Option.bind_eq_some_iff] at hE
      obtain ⟨c, hcs, hr⟩ := hE
      obtain ⟨_, hcl, hcell⟩ := World.cells?_some hcs
      obtain ⟨p, hp, hwf, hbk⟩ := he.2 enc W n c _ hr (fun m hm => by
        have hin : m ∈ DataW.weightsAll P e (elems.map (·.1)) := weightsAll_mem (List.mem_map.2 ⟨elems[i], List.getElem_mem _, rfl⟩) hm
        refine hw m ?_
        simp only [DataW.weights, ht, List.mem_cons, List.mem_append]
        exact .inr (.inl hin))
      refine ⟨p, ⟨c, by rw [hcl, he.1], hp, fun j u hu => ?_⟩, hwf, fun y hy => by
        rw [List.getElem?_map, List.getElem?_eq_getElem hlt] at hy
        obtain rfl := Option.some.inj hy
        exact hbk⟩
      have hj : j < P.cellsOf e := by rw [← hcl]; exact (List.getElem?_eq_some_iff.1 hu).1
      rw [← hu, ← hcell j hj, he.1, addr_add]
    obtain ⟨l, hll, hq⟩ := pick len each
    have hz := hw (((elems.map (·.1)).length + (rest.map (·.1)).length) * P.bytesOf e) (by simp only [DataW.weights, ht, List.mem_cons]; exact .inl trivial)
    have hz2 : len * B ≤ 140737488351232 := by
      have h1 : len * B ≤ ((elems.map (·.1)).length + (rest.map (·.1)).length) * P.bytesOf e := by
        rw [hB]
        exact Nat.mul_le_mul_right _ (by simp only [List.length_map]; omega)
      exact Nat.le_trans h1 hz
    refine ⟨l, ⟨some a, cap, by rw [hll], by omega, rfl, ?_, fun _ => ⟨a, rfl, fun j p hj => (hq j p hj).1⟩⟩, ⟨by simp only [maxLen] at *; omega, by rw [hll]; exact hz2, fun x hx => ?_⟩, ?_⟩
    · rw [hll]; simp only [maxLen] at hm; omega
    · obtain ⟨i, hi⟩ := List.getElem?_of_mem hx
      exact (hq i x hi).2.1
    · have hs := bulk_sum Bk l (elems.map (·.1)) (by rw [List.length_map]; omega) (fun i p y h1 h2 => (hq i p h1).2.2 y h2)
      simp only [Rows.uptoBulk]
      omega
theorem opensB_at {P : Program} {α : Type} {d : Kd α} {t : TypeId} {Wf : α → Prop} {Bk : α → Nat} (h : OpensB P d t Wf Bk) {H : Type} {enc : TypeId × Value → H} {W : World} {v : Value} {x : DataW H} {p : List MemPlace}
    (hT : DataW.Trod enc P W 0 (fun _ => true) true t v x p) {ts : List TypeId} {ds : List (DataW H)} {j : Nat} (hsz : (DataW.weightsEach P ts ds).all (· ≤ reachBytes) = true) (ht : ts[j]? = some t) (hd : ds[j]? = some x) :
    ∃ a, d.K W a v.cells.toList ∧ Wf a ∧ Bk a ≤ Rows.uptoBulk x := by
  obtain ⟨fuel, hf⟩ := hT
  exact h.2 enc W fuel _ _ hf (fun n hn => by simpa using List.all_eq_true.1 hsz _ (DataW.weights_mem_each ht hd n hn))
end Go.Proofs.Ytjgojlnnphkefaa.Open
