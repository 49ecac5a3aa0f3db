/-
  OPENS. How an argument that can be read as data is read as a value of one of the print's kinds ('Kd'): whole numbers, bools, strings, slices, structs, nested as they come.
  No toy and no law of the program stands here: lemmas alone. Written for this claim by the session's own generator (wip/gen).
-/
import Derived.Test.YtconffflmbakgaaVWords
import Derived.ChangeArms
import Derived.WideShapes
import Derived.SizedLaws
import Derived.DataReads
import Derived.KernelRfl
namespace Go.Proofs.Ytconffflmbakgaa.Opens
open Go.Proofs.YtconffflmbakgaaW.PrintWords

/-- Whatever reads as type t is of kind d, and what is read is right (wf). -/
def Opens {α : Type} (P : Program) (t : TypeId) (d : Kd α) (wf : α → Prop) : Prop :=
  ∀ (H : Type) (enc : TypeId × Value → H) (w : World) (base : Nat) (spare : Nat → Bool) (held : Bool) (fuel : Nat) (cs : List Value) (x : DataW H × List MemPlace),
    DataW.trod enc P w base spare held fuel t cs = some x → (∀ m ∈ x.1.weights P t, m ≤ reachBytes) → ∃ a, d.K w a cs ∧ wf a

theorem opens_int {P : Program} {t : TypeId} {k : IntKind} (ht : P.underlying t = some (.int k)) : Opens P t (Kd.int k) (fun n => (Lit.int k n).wf = true) := by
  intro H enc w base spare held fuel cs x h _
  obtain ⟨n, rfl, -, hw⟩ := DataW.trod_int ht h
  exact ⟨n, rfl, hw⟩
theorem opens_bool {P : Program} {t : TypeId} (ht : P.underlying t = some .bool) : Opens P t Kd.bool (fun _ => True) := by
  intro H enc w base spare held fuel cs x h _
  obtain ⟨n, rfl, -⟩ := DataW.trod_bool ht h
  exact ⟨n, rfl, trivial⟩
theorem opens_string {P : Program} {t : TypeId} (ht : P.underlying t = some .string) : Opens P t Kd.string (fun s => s.size ≤ 140737488351232) := by
  intro H enc w base spare held fuel cs x h hw
  obtain ⟨s, rfl, rfl, -⟩ := DataW.trod_string ht h
  refine ⟨s, rfl, ?_⟩
  have := hw s.data.toList.length (by simp [DataW.weights])
  simpa [reachBytes] using this

theorem weightsAll_mem {H : Type} {P : Program} {e : TypeId} : ∀ {ds : List (DataW H)} {d : DataW H}, d ∈ ds → ∀ m ∈ d.weights P e, m ∈ DataW.weightsAll P e ds
  | d0 :: r, d, hd, m, hm => by
    simp only [DataW.weightsAll, List.mem_append]
    rcases List.mem_cons.1 hd with rfl | hd
    · exact Or.inl hm
    · exact Or.inr (weightsAll_mem hd m hm)
  | [], _, hd, _, _ => by simp at hd

theorem addr_add_add (a : Addr) (m n : Nat) : a.add (m + n) = (a.add m).add n := by
  unfold Addr.add
  by_cases h1 : m = 0
  · subst h1; simp
  · by_cases h2 : n = 0
    · subst h2; simp
    · have h3 : m + n ≠ 0 := by omega
      simp only [if_neg h1, if_neg h2, if_neg h3, Nat.add_assoc]

theorem opens_slice {P : Program} {t e : TypeId} {α : Type} {d : Kd α} {wf : α → Prop} (ht : P.underlying t = some (.slice e)) (hc : P.cellsOf e = d.sz) {B : Nat} (hB : P.bytesOf e = B) (he : Opens P e d wf) :
    Opens P t (Kd.slice e d) (fun xs => xs.length * B ≤ 140737488351232 ∧ ∀ x ∈ xs, wf x) := by
  intro H enc w base spare held fuel cs x h hw
  rcases DataW.trod_slice ht h with ⟨rfl, rfl⟩ | ⟨a, len, cap, elems, rest, n, rfl, rfl, rfl, hb, hl, hcap, hlen, hE, -, -⟩
  · exact ⟨[], ⟨none, 0, rfl, Nat.le_refl _, ⟨rfl, by simp, fun h0 => absurd h0 (by simp)⟩⟩, by simp, by simp⟩
  · have hw2 : ∀ y ∈ elems, ∀ m ∈ y.1.weights P e, m ≤ reachBytes := by
      intro y hy m hm
      refine hw m ?_
      simp only [DataW.weights, ht, List.mem_cons, List.mem_append]
      exact Or.inr (Or.inl (weightsAll_mem (List.mem_map_of_mem hy) m hm))
    have hw1 : len * B ≤ 140737488351232 := by
      have h1 := hw (((elems.map (·.1)).length + (rest.map (·.1)).length) * P.bytesOf e) (by simp only [DataW.weights, ht]; exact List.mem_cons_self)
      rw [hB, List.length_map, hlen] at h1
      have h2 : len * B ≤ (len + (rest.map (·.1)).length) * B := Nat.mul_le_mul_right _ (Nat.le_add_right _ _)
      exact Nat.le_trans h2 (by simpa [reachBytes] using h1)
    have key : ∀ i : Fin len, ∃ y : α, wf y ∧ ∃ c : List Value, c.length = d.sz ∧ d.K w y c ∧ ∀ j u, c[j]? = some u → w.cell? (a.add (i.1 * d.sz + j)) = some u := by
      intro ⟨i, hi⟩
      have h1 := hE i hi
      have hlt : i < elems.length := by omega
      rw [List.getElem?_eq_getElem hlt, Option.bind_eq_some_iff] at h1
      obtain ⟨c, h2, h3⟩ := h1
      obtain ⟨-, hcl, hcc⟩ := World.cells?_some h2
      obtain ⟨y, hK, hy⟩ := he H enc w base spare held n c _ h3 (hw2 _ (List.getElem_mem hlt))
      refine ⟨y, hy, c, by rw [hcl, hc], hK, fun j u hj => ?_⟩
      have hjl : j < c.length := (List.getElem?_eq_some_iff.1 hj).1
      have h4 := hcc j (by omega)
      rw [hj] at h4
      rw [← h4, hc]
      congr 1
      exact addr_add_add a _ _
    refine ⟨List.ofFn fun i : Fin len => (key i).choose, ⟨some a, cap, by simp, by simpa using hl, ⟨rfl, by simp; unfold maxLen at hcap; omega, fun _ => ⟨a, rfl, fun j p hj => ?_⟩⟩⟩, by simpa using hw1, ?_⟩
    · have hjl : j < len := by
        have := (List.getElem?_eq_some_iff.1 hj).1
        simpa using this
      have hp : p = (key ⟨j, hjl⟩).choose := by
        rw [List.getElem?_ofFn] at hj
        simp [hjl] at hj
        exact hj.symm
      subst hp
      obtain ⟨-, c, h1, h2, h3⟩ := (key ⟨j, hjl⟩).choose_spec
      exact ⟨c, h1, h2, h3⟩
    · intro x hx
      obtain ⟨i, rfl⟩ := List.mem_ofFn.1 hx
      exact (key i).choose_spec.1

/-- The fields of a struct from cell o on. -/
def OpensAt {α : Type} (P : Program) (fs : List Field) (o : Nat) (d : Kd α) (wf : α → Prop) : Prop :=
  ∀ (H : Type) (enc : TypeId × Value → H) (w : World) (base : Nat) (spare : Nat → Bool) (held : Bool) (n : Nat) (cs : List Value) (xs : List (DataW H × List MemPlace)),
    xs.length = fs.length → (∀ (i : Nat) (f : Field), fs[i]? = some f → DataW.trod enc P w base spare held n f.type ((cs.drop f.offset).take (P.cellsOf f.type)) = xs[i]?) →
    (∀ m ∈ DataW.weightsEach P (fs.map (·.type)) (xs.map (·.1)), m ≤ reachBytes) → cs.length = o + d.sz → ∃ a, d.K w a (cs.drop o) ∧ wf a

theorem at_last {P : Program} {f : Field} {o : Nat} {α : Type} {d : Kd α} {wf : α → Prop} (h : Opens P f.type d wf) (ho : f.offset = o) (hc : P.cellsOf f.type = d.sz) : OpensAt P [f] o d wf := by
  intro H enc w base spare held n cs xs hl hx hw hcs
  have h1 := hx 0 f rfl
  obtain ⟨x, rfl⟩ : ∃ x, xs = [x] := by
    match xs, hl with
    | [x], _ => exact ⟨x, rfl⟩
  rw [ho, hc, List.take_of_length_le (by rw [List.length_drop]; omega)] at h1
  exact h H enc w base spare held n _ x h1 (fun m hm => hw m (by simpa [DataW.weightsEach] using hm))

theorem at_cons {P : Program} {f : Field} {fs : List Field} {o : Nat} {α β : Type} {d : Kd α} {d' : Kd β} {wf : α → Prop} {wf' : β → Prop} (h : Opens P f.type d wf) (ho : f.offset = o) (hc : P.cellsOf f.type = d.sz) (hr : OpensAt P fs (o + d.sz) d' wf') :
    OpensAt P (f :: fs) o (Kd.pair d d') (fun p => wf p.1 ∧ wf' p.2) := by
  intro H enc w base spare held n cs xs hl hx hw hcs
  obtain ⟨x, xs, rfl⟩ : ∃ x ys, xs = x :: ys := by
    match xs, hl with
    | x :: ys, _ => exact ⟨x, ys, rfl⟩
  have h1 := hx 0 f rfl
  rw [ho, hc] at h1
  obtain ⟨a, hK, ha⟩ := h H enc w base spare held n _ x h1 (fun m hm => hw m (by simp only [List.map_cons, DataW.weightsEach, List.mem_append]; exact Or.inl hm))
  have hz : (Kd.pair d d').sz = d.sz + d'.sz := rfl
  obtain ⟨b, hK', hb⟩ := hr H enc w base spare held n cs xs (by simpa using hl) (fun i g hi => hx (i + 1) g (by simpa using hi)) (fun m hm => hw m (by simp only [List.map_cons, DataW.weightsEach, List.mem_append]; exact Or.inr hm)) (by rw [hcs, hz]; omega)
  refine ⟨(a, b), ⟨_, _, ?_, hK, hK'⟩, ha, hb⟩
  rw [← List.drop_drop]
  exact (List.take_append_drop _ _).symm

theorem opens_struct {P : Program} {t : TypeId} {fs : Array Field} {α : Type} {d : Kd α} {wf : α → Prop} (ht : P.underlying t = some (.struct fs)) (hc : P.cellsOf t = d.sz) (h : OpensAt P fs.toList 0 d wf) : Opens P t d wf := by
  intro H enc w base spare held fuel cs x hx hw
  obtain ⟨xs, n, rfl, rfl, hcl, hl, hf⟩ := DataW.trod_struct ht hx
  obtain ⟨a, hK, ha⟩ := h H enc w base spare held n cs xs (by simpa using hl) (fun i f hi => hf i f (by simpa using hi)) (fun m hm => hw m (by simpa [DataW.weights, ht] using hm)) (by rw [hcl, hc]; omega)
  exact ⟨a, by simpa using hK, ha⟩
theorem opens_iso {P : Program} {t : TypeId} {α β : Type} {d : Kd α} {wf : α → Prop} (f : β → α) (g : α → β) (hfg : ∀ a, f (g a) = a) (h : Opens P t d wf) : Opens P t (Kd.iso d f) (fun b => wf (f b)) := by
  intro H enc w base spare held fuel cs x hx hw
  obtain ⟨a, hK, ha⟩ := h H enc w base spare held fuel cs x hx hw
  refine ⟨g a, ?_, ?_⟩
  · show d.K w (f (g a)) cs
    rw [hfg]; exact hK
  · show wf (f (g a))
    rw [hfg]; exact ha

/-- Argument j of a call whose arguments read as data. -/
theorem opens_arg {α : Type} {P : Program} {t : TypeId} {d : Kd α} {wf : α → Prop} (h : Opens P t d wf) {H : Type} {enc : TypeId × Value → H} {w : World} {base : Nat} {spare : Nat → Bool} {held : Bool} {v : Value} {x : DataW H} {ps : List MemPlace} {ts : List TypeId} {ds : List (DataW H)} {j : Nat}
    (hsz : (DataW.weightsEach P ts ds).all (· ≤ reachBytes) = true) (ht : ts[j]? = some t) (hd : ds[j]? = some x) (ht' : DataW.Trod enc P w base spare held t v x ps) : ∃ a, d.K w a v.cells.toList ∧ wf a := by
  obtain ⟨fuel, hf⟩ := ht'
  refine h H enc w base spare held fuel _ _ hf (fun m hm => ?_)
  simpa using List.all_eq_true.1 hsz m (DataW.weights_mem_each ht hd m hm)
/-- A struct's cells, as a list, tell the struct. -/
theorem agg_of {cs : Array Value} {l : List Value} (h : (Value.agg cs).cells.toList = l) : cs = l.toArray := by
  have : cs.toList = l := by simpa [Value.cells] using h
  rw [← this]
end Go.Proofs.Ytconffflmbakgaa.Opens
