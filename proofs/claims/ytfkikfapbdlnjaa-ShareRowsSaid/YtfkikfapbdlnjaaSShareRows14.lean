import Derived.Test.YtfkikfapbdlnjaaSShareRows9
import Derived.SizedLaws
import Derived.ChangeArms
import Derived.OpenShut
namespace Go.Proofs.Ytfkikfapbdlnjaa.Open
open Go.RowKit Go.Proofs.YtfkikfapbdlnjaaW.PrintWords Go.ChangeShapes Go.WideShapes
set_option linter.unusedVariables false
set_option linter.unusedSimpArgs false
def Opens (P : Program) {α : Type} (d : Kd α) (t : TypeId) (Wf : α → Prop) : Prop :=
  P.cellsOf t = d.sz ∧ ∀ {H : Type} (enc : TypeId × Value → H) (W : World) (fuel : Nat) (cs : List Value) (x : DataW H × List MemPlace),
    DataW.trod enc P W 0 (fun _ => true) true fuel t cs = some x → (∀ n ∈ x.1.weights P t, n ≤ reachBytes) → ∃ a, d.K W a cs ∧ Wf a
theorem opens_int {P : Program} {t : TypeId} {k : IntKind} (ht : P.underlying t = some (.int k)) (hc : P.cellsOf t = 1) : Opens P (Kd.int k) t (fun n => (Lit.int k n).wf = true) := by
  refine ⟨hc, fun enc W fuel cs x h _ => ?_⟩
  obtain ⟨n, rfl, _, hw⟩ := DataW.trod_int ht h
  exact ⟨n, rfl, hw⟩
theorem pick {α : Type} {Q : Nat → α → Prop} : ∀ n, (∀ i, i < n → ∃ a, Q i a) → ∃ l : List α, l.length = n ∧ ∀ i a, l[i]? = some a → Q i a
  | 0, _ => ⟨[], rfl, fun i a h => by simp at h⟩
  | n + 1, h => by
    obtain ⟨l, hl, hq⟩ := pick n (fun i hi => h i (by omega))
    obtain ⟨a, ha⟩ := h n (by omega)
    refine ⟨l ++ [a], by simp [hl], fun i b hb => ?_⟩
    by_cases hi : i < n
    · rw [List.getElem?_append_left (by omega)] at hb
      exact hq i b hb
    · have : i = n := by
        have := (List.getElem?_eq_some_iff.1 hb).1
        simp [hl] at this
        omega
      subst this
      rw [List.getElem?_append_right (by omega), hl] at hb
      simp at hb
      subst hb
      exact ha
theorem addr_add (a : Addr) (i j : Nat) : (a.add i).add j = a.add (i + j) := by
  unfold Addr.add
  by_cases hi : i = 0
  · subst hi; simp
  · by_cases hj : j = 0
    · subst hj; simp
    · simp [hi, hj, Nat.add_assoc]
theorem weightsAll_mem {H : Type} {P : Program} {e : TypeId} {n : Nat} : ∀ {ds : List (DataW H)} {d : DataW H}, d ∈ ds → n ∈ d.weights P e → n ∈ DataW.weightsAll P e ds
  | [], _, h, _ => by cases h
  | y :: r, d, h, hn => by
    simp only [DataW.weightsAll, List.mem_append]
    rcases List.mem_cons.1 h with rfl | h
    · exact .inl hn
    · exact .inr (weightsAll_mem h hn)
theorem opens_slice {P : Program} {α : Type} {d : Kd α} {t e : TypeId} {Wf : α → Prop} (ht : P.underlying t = some (.slice e)) (hc : P.cellsOf t = 1) (hs : 0 < d.sz) {B : Nat} (hB : P.bytesOf e = B) (he : Opens P d e Wf) :
    Opens P (Kd.slice e d) t (fun l => l.length ≤ maxLen ∧ l.length * B ≤ 140737488351232 ∧ ∀ x ∈ l, Wf x) := by
  refine ⟨hc, fun enc W fuel cs x h hw => ?_⟩
  rcases DataW.trod_slice ht h with ⟨rfl, rfl⟩ | ⟨a, len, cap, elems, rest, n, _, rfl, rfl, hb, hl, hm, hlen, hel, hsp, hns⟩
  · exact ⟨[], ⟨none, 0, rfl, Nat.le_refl _, rfl, Nat.zero_le _, fun h => by simp at h⟩, by simp, by simp, fun x hx => by cases hx⟩
  · have each : ∀ i, i < len → ∃ p, (∃ c, c.length = d.sz ∧ d.K W p c ∧ ∀ j u, c[j]? = some u → W.cell? (a.add (i * d.sz + j)) = some u) ∧ Wf p := by
      intro i hi
      have hE := hel i hi
      have hlt : i < elems.length := by omega
      rw [List.getElem?_eq_getElem hlt, Option.bind_eq_some_iff] at hE
      obtain ⟨c, hcs, hr⟩ := hE
      obtain ⟨_, hcl, hcell⟩ := World.cells?_some hcs
      obtain ⟨p, hp, hwf⟩ := he.2 enc W n c _ hr (fun m hm => by
        have hin : m ∈ DataW.weightsAll P e (elems.map (·.1)) := weightsAll_mem (List.mem_map.2 ⟨elems[i], List.getElem_mem _, rfl⟩) hm
        refine hw m ?_
        simp only [DataW.weights, ht, List.mem_cons, List.mem_append]
        exact .inr (.inl hin))
      refine ⟨p, ⟨c, by rw [hcl, he.1], hp, fun j u hu => ?_⟩, hwf⟩
      have hj : j < P.cellsOf e := by rw [← hcl]; exact (List.getElem?_eq_some_iff.1 hu).1
      rw [← hu, ← hcell j hj, he.1, addr_add]
    obtain ⟨l, hll, hq⟩ := pick len each
    have hz := hw (((elems.map (·.1)).length + (rest.map (·.1)).length) * P.bytesOf e) (by simp only [DataW.weights, ht, List.mem_cons]; exact .inl trivial)
    have hz2 : len * B ≤ 140737488351232 := by
      have h1 : len * B ≤ ((elems.map (·.1)).length + (rest.map (·.1)).length) * P.bytesOf e := by
        rw [hB]
        exact Nat.mul_le_mul_right _ (by simp only [List.length_map]; omega)
      exact Nat.le_trans h1 hz
    refine ⟨l, ⟨some a, cap, by rw [hll], by omega, rfl, ?_, fun _ => ⟨a, rfl, fun j p hj => (hq j p hj).1⟩⟩, by simp only [maxLen] at *; omega, by rw [hll]; exact hz2, fun x hx => ?_⟩
    · rw [hll]; simp only [maxLen] at hm; omega
    · obtain ⟨i, hi⟩ := List.getElem?_of_mem hx
      exact (hq i x hi).2
def offs (P : Program) : Nat → List TypeId → List Nat
  | _, [] => []
  | o, t :: ts => o :: offs P (o + P.cellsOf t) ts
def OpensL (P : Program) {α : Type} (d : Kd α) (ts : List TypeId) (Wf : α → Prop) : Prop :=
  ∀ {H : Type} (enc : TypeId × Value → H) (W : World) (n : Nat) (cs : List Value) (xs : List (DataW H × List MemPlace)) (o : Nat), cs.length = o + d.sz → xs.length = ts.length →
    (∀ (i : Nat) (t : TypeId) (q : Nat), ts[i]? = some t → (offs P o ts)[i]? = some q → DataW.trod enc P W 0 (fun _ => true) true n t ((cs.drop q).take (P.cellsOf t)) = xs[i]?) →
    (∀ m ∈ DataW.weightsEach P ts (xs.map (·.1)), m ≤ reachBytes) → ∃ a, d.K W a (cs.drop o) ∧ Wf a
theorem opensL_one {P : Program} {α : Type} {d : Kd α} {t : TypeId} {Wf : α → Prop} (h : Opens P d t Wf) : OpensL P d [t] Wf := by
  intro H enc W n cs xs o hl hx ht hw
  have h0 := ht 0 t o rfl rfl
  obtain ⟨x, rfl⟩ : ∃ x, xs = [x] := by
    rcases xs with _ | ⟨x, _ | _⟩
    · simp at hx
    · exact ⟨x, rfl⟩
    · simp at hx
  rw [List.take_of_length_le (by rw [List.length_drop, h.1]; omega)] at h0
  exact h.2 enc W n _ x h0 (fun m hm => hw m (by simp [DataW.weightsEach, hm]))
theorem opensL_cons {P : Program} {α β : Type} {d : Kd α} {d' : Kd β} {t : TypeId} {ts : List TypeId} {Wf : α → Prop} {Wf' : β → Prop} (h : Opens P d t Wf) (h' : OpensL P d' ts Wf') :
    OpensL P (Kd.pair d d') (t :: ts) (fun p => Wf p.1 ∧ Wf' p.2) := by
  intro H enc W n cs xs o hl hx ht hw
  have hsz : (Kd.pair d d').sz = d.sz + d'.sz := rfl
  rw [hsz] at hl
  have h0 := ht 0 t o rfl rfl
  obtain ⟨x, xs, rfl⟩ : ∃ x r, xs = x :: r := by
    rcases xs with _ | ⟨x, r⟩
    · simp at hx
    · exact ⟨x, r, rfl⟩
  obtain ⟨a, ha, hwa⟩ := h.2 enc W n _ x h0 (fun m hm => hw m (by simp [DataW.weightsEach, hm]))
  obtain ⟨b, hb, hwb⟩ := h' enc W n cs xs (o + P.cellsOf t) (by rw [h.1]; omega) (by simpa using hx) (fun i t' q h1 h2 => ht (i + 1) t' q h1 h2) (fun m hm => hw m (by simp [DataW.weightsEach, hm]))
  refine ⟨(a, b), ⟨_, _, ?_, ha, hb⟩, hwa, hwb⟩
  rw [← List.drop_drop, List.take_append_drop]
theorem opens_struct {P : Program} {α β : Type} {d : Kd α} {t : TypeId} {fs : Array Field} {ts : List TypeId} {Wf : α → Prop} (ht : P.underlying t = some (.struct fs)) (hc : P.cellsOf t = d.sz)
    (h1 : fs.toList.map (·.type) = ts) (h2 : fs.toList.map (·.offset) = offs P 0 ts) (h : OpensL P d ts Wf) (proj : β → α) (mk : α → β) (hmk : ∀ p, proj (mk p) = p) : Opens P (Kd.iso d proj) t (fun b => Wf (proj b)) := by
  refine ⟨hc, fun enc W fuel cs x hx hw => ?_⟩
  obtain ⟨xs, n, _, rfl, hl, hxl, hf⟩ := DataW.trod_struct ht hx
  obtain ⟨a, ha, hwa⟩ := h enc W n cs xs 0 (by omega) (by rw [hxl, ← h1]; simp) (fun i t' q e1 e2 => by
      rw [← h1, List.getElem?_map] at e1
      rw [← h2, List.getElem?_map] at e2
      obtain ⟨f, hf1, rfl⟩ := Option.map_eq_some_iff.1 e1
      rw [hf1] at e2
      obtain rfl : f.offset = q := by simpa using e2
      exact hf i f (by rw [← Array.getElem?_toList]; exact hf1)) (fun m hm => hw m (by simp only [DataW.weights, ht, h1]; exact hm))
  rw [List.drop_zero] at ha
  exact ⟨mk a, (by show d.K W (proj (mk a)) cs; rw [hmk]; exact ha), by show Wf (proj (mk a)); rw [hmk]; exact hwa⟩
theorem opens_at {P : Program} {α : Type} {d : Kd α} {t : TypeId} {Wf : α → Prop} (h : Opens P d t Wf) {H : Type} {enc : TypeId × Value → H} {W : World} {v : Value} {x : DataW H} {p : List MemPlace}
    (hT : DataW.Trod enc P W 0 (fun _ => true) true t v x p) {ts : List TypeId} {ds : List (DataW H)} {j : Nat} (hsz : (DataW.weightsEach P ts ds).all (· ≤ reachBytes) = true) (ht : ts[j]? = some t) (hd : ds[j]? = some x) :
    ∃ a, d.K W a v.cells.toList ∧ Wf a := by
  obtain ⟨fuel, hf⟩ := hT
  exact h.2 enc W fuel _ _ hf (fun n hn => by simpa using List.all_eq_true.1 hsz _ (DataW.weights_mem_each ht hd n hn))
end Go.Proofs.Ytfkikfapbdlnjaa.Open
