/-
  How the law's arguments, read as data, stand as rows that are only read.
-/
import Derived.Test.YtciieaidbiejmaaFData
import Derived.ChangeArms
import Derived.WideShapes
import Derived.SizedLaws
import Derived.DataReads
namespace Go.Proofs.Ytciieaidbiejmaa.DM
set_option linter.unusedVariables false
set_option linter.unusedSimpArgs false
/-- Every block may be read, all are kept. -/
def allRo (w : Go.World) : Fr := ⟨fun k => k < w.heap.size, fun k => k < w.heap.size, fun _ _ => False, fun _ => undef⟩
def RoL (w : Go.World) (vs : List Value) (rs : List RT) : Prop := vs.length = rs.length ∧ ∀ (i : Nat) (v : Value) (r : RT), vs[i]? = some v → rs[i]? = some r → RoC (allRo w) w v r
def Opens {α : Type} (P : Program) (t : TypeId) (r : α → List RT) (wf : α → Prop) : Prop :=
  ∀ (H : Type) (enc : TypeId × Value → H) (w : Go.World) (base : Nat) (spare : Nat → Bool) (held : Bool) (fuel : Nat) (cs : List Value) (x : DataW H × List MemPlace),
    DataW.trod enc P w base spare held fuel t cs = some x → (∀ m ∈ x.1.weights P t, m ≤ reachBytes) → ∃ a, RoL w cs (r a) ∧ wf a
theorem RoL.one {w : Go.World} {v : Value} {r : RT} (h : RoC (allRo w) w v r) : RoL w [v] [r] := ⟨rfl, fun i u q hu hq => by
  cases i with
  | zero => simp at hu hq; subst hu; subst hq; exact h
  | succ i => simp at hu⟩
theorem RoL.append {w : Go.World} {a b : List Value} {x y : List RT} (h : RoL w a x) (h' : RoL w b y) : RoL w (a ++ b) (x ++ y) := by
  refine ⟨by simp [h.1, h'.1], fun i v r hv hr => ?_⟩
  by_cases hi : i < a.length
  · rw [List.getElem?_append_left hi] at hv
    rw [List.getElem?_append_left (by rw [← h.1]; exact hi)] at hr
    exact h.2 i v r hv hr
  · rw [List.getElem?_append_right (by omega)] at hv
    rw [List.getElem?_append_right (by rw [← h.1]; omega), ← h.1] at hr
    exact h'.2 _ v r hv hr
theorem opens_int {P : Program} {t : TypeId} (ht : P.underlying t = some (.int .i64)) : Opens P t (fun n : Int => [.sc (.int .i64 n)]) IntOk := by
  intro H enc w base spare held fuel cs x h _
  obtain ⟨n, rfl, -, hw⟩ := DataW.trod_int ht h
  refine ⟨n, .one (.sc _ rfl), ?_⟩
  simp [Lit.wf, IntKind.min, IntKind.max, IntKind.bits, IntKind.signed] at hw
  unfold IntOk
  omega
theorem opens_bool {P : Program} {t : TypeId} (ht : P.underlying t = some .bool) : Opens P t (fun b : Bool => [.sc (.bool b)]) (fun _ => True) := by
  intro H enc w base spare held fuel cs x h _
  obtain ⟨n, rfl, -⟩ := DataW.trod_bool ht h
  exact ⟨n, .one (.sc _ rfl), trivial⟩
theorem opens_string {P : Program} {t : TypeId} (ht : P.underlying t = some .string) : Opens P t (fun s : ByteArray => [.sc (.string s)]) (fun s => s.size ≤ 281474976710656) := by
  intro H enc w base spare held fuel cs x h hw
  obtain ⟨s, rfl, rfl, -⟩ := DataW.trod_string ht h
  refine ⟨s, .one (.sc _ rfl), ?_⟩
  have := hw s.data.toList.length (by simp [DataW.weights])
  simp [reachBytes] at this
  omega
theorem weightsAll_mem {H : Type} {P : Program} {e : TypeId} : ∀ {ds : List (DataW H)} {d : DataW H}, d ∈ ds → ∀ m ∈ d.weights P e, m ∈ DataW.weightsAll P e ds
  | d0 :: r, d, hd, m, hm => by
    simp only [DataW.weightsAll, List.mem_append]
    rcases List.mem_cons.1 hd with rfl | hd
    · exact Or.inl hm
    · exact Or.inr (weightsAll_mem hd m hm)
  | [], _, hd, _, _ => by simp at hd
theorem addr_add_eq {a : Addr} (n : Nat) (h : a.spot = none) : a.add n = ⟨a.block, a.off + n, none⟩ := by
  unfold Addr.add
  split
  · rename_i h0; subst h0; cases a; simp_all
  · rfl
theorem cell_spot {w : Go.World} {a : Addr} {v : Value} (h : w.cell? a = some v) : a.spot = none ∧ a.block < w.heap.size := by
  unfold Go.World.cell? at h
  split at h
  · rename_i c t f hb
    split at h
    · cases h
    · rename_i hs
      refine ⟨by simpa using hs, ?_⟩
      exact (Array.getElem?_eq_some_iff.1 hb).1
  · cases h
theorem rows_at {α : Type} [Row α] : ∀ (ys : List α) (cs : List (List Value)) {w : Go.World}, cs.length = ys.length → (∀ (i : Nat) (c : List Value) (y : α), cs[i]? = some c → ys[i]? = some y → RoL w c (Row.r y)) → RoL w cs.flatten (rR ys)
  | [], [], w, _, _ => ⟨rfl, fun i v r h => by simp at h⟩
  | [], _ :: _, w, h, _ => by simp at h
  | _ :: _, [], w, h, _ => by simp at h
  | y :: ys, c :: cs, w, hl, h => by
    rw [List.flatten_cons, rR_cons]
    exact (h 0 c y rfl rfl).append (rows_at ys cs (by simpa using hl) fun i c' y' h1 h2 => h (i + 1) c' y' (by simpa using h1) (by simpa using h2))
theorem opens_slice {P : Program} {t e : TypeId} {α : Type} [Row α] (ht : P.underlying t = some (.slice e)) (hc : P.cellsOf e = Row.w α) {B : Nat} (hB : P.bytesOf e = B) (hB0 : 0 < B) (he : Opens P e (Row.r (α := α)) (Row.ok 281474976710656)) :
    Opens P t (fun l : List α => [.sl l.length (rR l)]) (okL 281474976710656) := by
  intro H enc w base spare held fuel cs x h hw
  rcases DataW.trod_slice ht h with ⟨rfl, rfl⟩ | ⟨a, len, cap, elems, rest, n, rfl, rfl, rfl, hb, hl, hcap, hlen, hE, -, -⟩
  · exact ⟨[], .one (.em _ _), Nat.zero_le _, by simp⟩
  · have hw2 : ∀ y ∈ elems, ∀ m ∈ y.1.weights P e, m ≤ reachBytes := by
      intro y hy m hm
      refine hw m ?_
      simp only [DataW.weights, ht, List.mem_cons, List.mem_append]
      exact Or.inr (Or.inl (weightsAll_mem (List.mem_map_of_mem hy) m hm))
    have hw1 : len ≤ 281474976710656 := by
      have h1 := hw (((elems.map (·.1)).length + (rest.map (·.1)).length) * P.bytesOf e) (by simp only [DataW.weights, ht]; exact List.mem_cons_self)
      rw [hB, List.length_map, hlen] at h1
      have h2 : len * 1 ≤ (len + (rest.map (·.1)).length) * B := Nat.mul_le_mul (Nat.le_add_right _ _) hB0
      simp only [List.length_map] at h1 h2
      simp [reachBytes] at h1
      omega
    have key : ∀ i : Fin len, ∃ y : α, Row.ok 281474976710656 y ∧ ∃ c : List Value, c.length = Row.w α ∧ RoL w c (Row.r y) ∧ ∀ j u, c[j]? = some u → w.cell? ((a.add (i.1 * Row.w α)).add j) = some u := by
      intro ⟨i, hi⟩
      have h1 := hE i hi
      have hlt : i < elems.length := by omega
      rw [List.getElem?_eq_getElem hlt, Option.bind_eq_some_iff] at h1
      obtain ⟨c, h2, h3⟩ := h1
      obtain ⟨-, hcl, hcc⟩ := Go.World.cells?_some h2
      obtain ⟨y, hK, hy⟩ := he H enc w base spare held n c _ h3 (hw2 _ (List.getElem_mem hlt))
      refine ⟨y, hy, c, by rw [hcl, hc], hK, fun j u hj => ?_⟩
      have hjl : j < c.length := (List.getElem?_eq_some_iff.1 hj).1
      have h4 := hcc j (by omega)
      rw [hj] at h4
      rw [← h4, hc]
    rcases Nat.eq_zero_or_pos len with h0 | h0
    · subst h0
      exact ⟨[], .one (.em _ _), Nat.zero_le _, by simp⟩
    have hspot : a.spot = none ∧ a.block < w.heap.size := by
      obtain ⟨y, -, c, h1, -, h3⟩ := key ⟨0, h0⟩
      have hc0 : 0 < c.length := by rw [h1]; exact Row.wp
      have := h3 0 c[0] (List.getElem?_eq_getElem hc0)
      simp only [Nat.zero_mul, Addr.add, if_true] at this
      exact cell_spot this
    refine ⟨List.ofFn fun i : Fin len => (key i).choose, ?_, by simpa using hw1, fun x hx => ?_⟩
    · have hR := rows_at (List.ofFn fun i : Fin len => (key i).choose) (List.ofFn fun i : Fin len => (key i).choose_spec.2.choose) (w := w) (by simp) (fun i c y h1 h2 => by
        have hi : i < len := by have := (List.getElem?_eq_some_iff.1 h1).1; simpa using this
        rw [List.getElem?_ofFn, dif_pos hi] at h1 h2
        obtain rfl := Option.some.inj h1
        obtain rfl := Option.some.inj h2
        exact (key ⟨i, hi⟩).choose_spec.2.choose_spec.2.1)
      have hcl : ∀ c ∈ (List.ofFn fun i : Fin len => (key i).choose_spec.2.choose), c.length = Row.w α := fun c hc => by
        obtain ⟨i, rfl⟩ := List.mem_ofFn.1 hc
        exact (key i).choose_spec.2.choose_spec.1
      refine .one ?_
      have := RoC.sl (S0 := allRo w) (w0 := w) a len cap (rR (List.ofFn fun i : Fin len => (key i).choose)) (List.ofFn fun i : Fin len => (key i).choose_spec.2.choose).flatten hspot.1 hspot.2 hl hR.1 (fun i v hv => ?_) hR.2
      · simpa using this
      · -- the cell i of the row
        have hil : i < (List.ofFn fun i : Fin len => (key i).choose_spec.2.choose).flatten.length := (List.getElem?_eq_some_iff.1 hv).1
        have hfl : (List.ofFn fun i : Fin len => (key i).choose_spec.2.choose).flatten = (List.ofFn fun i : Fin len => (key i).choose_spec.2.choose).flatMap id := by rw [List.flatMap_id]
        have hw0 : 0 < Row.w α := Row.wp
        have gen : ∀ (L : List (List Value)) (i : Nat) (v : Value), (∀ c ∈ L, c.length = Row.w α) → L.flatten[i]? = some v → ∃ c, L[i / Row.w α]? = some c ∧ c[i % Row.w α]? = some v := by
          intro L
          induction L with
          | nil => intro i v _ h; simp at h
          | cons c L ih =>
            intro i v hL h
            rw [List.flatten_cons] at h
            have hcw := hL c List.mem_cons_self
            by_cases hi : i < Row.w α
            · rw [List.getElem?_append_left (by omega)] at h
              exact ⟨c, by rw [Nat.div_eq_of_lt hi]; rfl, by rw [Nat.mod_eq_of_lt hi]; exact h⟩
            · rw [List.getElem?_append_right (by omega), hcw] at h
              obtain ⟨c', h1, h2⟩ := ih (i - Row.w α) v (fun c hc => hL c (List.mem_cons_of_mem _ hc)) h
              refine ⟨c', ?_, ?_⟩
              · rw [Nat.div_eq_sub_div hw0 (by omega), List.getElem?_cons_succ]; exact h1
              · rw [Nat.mod_eq_sub_mod (by omega)]; exact h2
        obtain ⟨c, h1, h2⟩ := gen _ i v hcl hv
        have hi : i / Row.w α < len := by have := (List.getElem?_eq_some_iff.1 h1).1; simpa using this
        rw [List.getElem?_ofFn, dif_pos hi] at h1
        obtain rfl := Option.some.inj h1
        have h3 := (key ⟨i / Row.w α, hi⟩).choose_spec.2.choose_spec.2.2 _ v h2
        rw [addr_add_eq _ hspot.1, addr_add_eq _ rfl] at h3
        have : i / Row.w α * Row.w α + i % Row.w α = i := Nat.div_add_mod' i _
        rw [← h3]
        congr 2
        simp only
        omega
    · obtain ⟨i, rfl⟩ := List.mem_ofFn.1 hx
      exact (key i).choose_spec.1
/-- The fields of a struct from cell o on. -/
def OpensAt {α : Type} (P : Program) (fs : List Field) (o : Nat) (r : α → List RT) (z : Nat) (wf : α → Prop) : Prop :=
  ∀ (H : Type) (enc : TypeId × Value → H) (w : Go.World) (base : Nat) (spare : Nat → Bool) (held : Bool) (n : Nat) (cs : List Value) (xs : List (DataW H × List MemPlace)),
    xs.length = fs.length → (∀ (i : Nat) (f : Field), fs[i]? = some f → DataW.trod enc P w base spare held n f.type ((cs.drop f.offset).take (P.cellsOf f.type)) = xs[i]?) →
    (∀ m ∈ DataW.weightsEach P (fs.map (·.type)) (xs.map (·.1)), m ≤ reachBytes) → cs.length = o + z → ∃ a, RoL w (cs.drop o) (r a) ∧ wf a
theorem at_last {P : Program} {f : Field} {o z : Nat} {α : Type} {r : α → List RT} {wf : α → Prop} (h : Opens P f.type r wf) (ho : f.offset = o) (hc : P.cellsOf f.type = z) : OpensAt P [f] o r z wf := by
  intro H enc w base spare held n cs xs hl hx hw hcs
  have h1 := hx 0 f rfl
  obtain ⟨x, rfl⟩ : ∃ x, xs = [x] := by
    match xs, hl with
    | [x], _ => exact ⟨x, rfl⟩
  rw [ho, hc, List.take_of_length_le (by rw [List.length_drop]; omega)] at h1
  exact h H enc w base spare held n _ x h1 (fun m hm => hw m (by simpa [DataW.weightsEach] using hm))
theorem at_cons {P : Program} {f : Field} {fs : List Field} {o z z' : Nat} {α β : Type} {r : α → List RT} {r' : β → List RT} {wf : α → Prop} {wf' : β → Prop} (h : Opens P f.type r wf) (ho : f.offset = o) (hc : P.cellsOf f.type = z) (hr : OpensAt P fs (o + z) r' z' wf') :
    OpensAt P (f :: fs) o (fun p : α × β => r p.1 ++ r' p.2) (z + z') (fun p => wf p.1 ∧ wf' p.2) := by
  intro H enc w base spare held n cs xs hl hx hw hcs
  obtain ⟨x, xs, rfl⟩ : ∃ x ys, xs = x :: ys := by
    match xs, hl with
    | x :: ys, _ => exact ⟨x, ys, rfl⟩
  have h1 := hx 0 f rfl
  rw [ho, hc] at h1
  obtain ⟨a, hK, ha⟩ := h H enc w base spare held n _ x h1 (fun m hm => hw m (by simp only [List.map_cons, DataW.weightsEach, List.mem_append]; exact Or.inl hm))
  obtain ⟨b, hK', hb⟩ := hr H enc w base spare held n cs xs (by simpa using hl) (fun i g hi => hx (i + 1) g (by simpa using hi)) (fun m hm => hw m (by simp only [List.map_cons, DataW.weightsEach, List.mem_append]; exact Or.inr hm)) (by rw [hcs]; omega)
  refine ⟨(a, b), ?_, ha, hb⟩
  have := hK.append hK'
  rwa [← List.drop_drop, List.take_append_drop] at this
theorem opens_struct {P : Program} {t : TypeId} {fs : Array Field} {α : Type} {z : Nat} {r : α → List RT} {wf : α → Prop} (ht : P.underlying t = some (.struct fs)) (hc : P.cellsOf t = z) (h : OpensAt P fs.toList 0 r z wf) : Opens P t r wf := by
  intro H enc w base spare held fuel cs x hx hw
  obtain ⟨xs, n, rfl, rfl, hcl, hl, hf⟩ := DataW.trod_struct ht hx
  obtain ⟨a, hK, ha⟩ := h H enc w base spare held n cs xs (by simpa using hl) (fun i f hi => hf i f (by simpa using hi)) (fun m hm => hw m (by simpa [DataW.weights, ht] using hm)) (by rw [hcl, hc]; omega)
  exact ⟨a, by simpa using hK, ha⟩
theorem opens_iso {P : Program} {t : TypeId} {α β : Type} {r : α → List RT} {r' : β → List RT} {wf : α → Prop} {wf' : β → Prop} (g : α → β) (hr : ∀ a, r' (g a) = r a) (hw : ∀ a, wf a → wf' (g a)) (h : Opens P t r wf) : Opens P t r' wf' := by
  intro H enc w base spare held fuel cs x hx hww
  obtain ⟨a, hK, ha⟩ := h H enc w base spare held fuel cs x hx hww
  exact ⟨g a, by rw [hr]; exact hK, hw a ha⟩
/-- Argument j of a call whose arguments read as data. -/
theorem opens_arg {α : Type} {P : Program} {t : TypeId} {r : α → List RT} {wf : α → Prop} (h : Opens P t r wf) {H : Type} {enc : TypeId × Value → H} {w : Go.World} {base : Nat} {spare : Nat → Bool} {held : Bool} {v : Value} {x : DataW H} {ps : List MemPlace} {ts : List TypeId} {ds : List (DataW H)} {j : Nat}
    (hsz : (DataW.weightsEach P ts ds).all (· ≤ reachBytes) = true) (ht : ts[j]? = some t) (hd : ds[j]? = some x) (ht' : DataW.Trod enc P w base spare held t v x ps) : ∃ a, RoL w v.cells.toList (r a) ∧ wf a := by
  obtain ⟨fuel, hf⟩ := ht'
  refine h H enc w base spare held fuel _ _ hf (fun m hm => ?_)
  simpa using List.all_eq_true.1 hsz m (DataW.weights_mem_each ht hd m hm)
theorem RoC.one' {S0 : Fr} {w0 : Go.World} {v : Value} {r : RT} (h : RoC S0 w0 v r) : v.oneCell' = true := h.one
/-- An argument of one cell, or of several, as it comes. -/
theorem arg_one {w : Go.World} {v : Value} {r : RT} (hv : v.cells.toList = [v]) (h : RoL w v.cells.toList [r]) : RelV (allRo w) w (fun _ => none) (argV 0 (.one (.r r))) v := by
  rw [hv] at h
  have := h.2 0 v r rfl rfl
  exact ⟨.t _ _ this, this.one⟩
theorem dcsFrom_r (i : Nat) : ∀ (j : Nat) (rs : List RT), dcsFrom i j (rs.map PC.r) = rs.map DC.t
  | _, [] => rfl
  | j, r :: rs => by simp only [List.map_cons, dcsFrom, dcsFrom_r i (j + 1) rs]; rfl
theorem arg_agg {w : Go.World} {cs : Array Value} {rs : List RT} (i : Nat) (h : RoL w cs.toList rs) : RelV (allRo w) w (fun _ => none) (argV i (.agg (rs.map .r))) (.agg cs) := by
  refine ⟨cs.toList, by simp, by simp [dcsFrom_r, h.1], fun j c u hc hu => ?_, fun u hu => ?_⟩
  · rw [dcsFrom_r, List.getElem?_map, Option.map_eq_some_iff] at hc
    obtain ⟨r, hr, rfl⟩ := hc
    exact .t _ _ (h.2 j u r hu hr)
  · obtain ⟨j, hj⟩ := List.getElem?_of_mem hu
    have hjl : j < rs.length := by rw [← h.1]; exact (List.getElem?_eq_some_iff.1 hj).1
    exact (h.2 j u _ hj (List.getElem?_eq_getElem hjl)).one
/-- A law whose contract says 'true' and reads its arguments alone. -/
theorem Spec.law {P : Program} {f : Nat} {ps qs : List PA} (hS : Spec P f ps [none] [db true] qs) (W : Go.World) {vals : List Value} (hl : vals.length = ps.length) (hr : ∀ (i : Nat) (pa : PA), ps[i]? = some pa → argH pa = none ∧ ∀ k, argG i pa k = .un)
    (hv : ∀ (i : Nat) (pa : PA) (v : Value), ps[i]? = some pa → vals[i]? = some v → RelV (allRo W) W (fun _ => none) (argV i pa) v) (hT : tabP W := by trivial) :
    Calls P f vals.toArray W fun e W' => e = .returned (.bool true) ∧ (∀ k, k < W.heap.size → W'.heap[k]? = W.heap[k]?) ∧ W.heap.size ≤ W'.heap.size ∧ W'.os = W.os ∧ W'.output = W.output ∧ W'.tape = W.tape := by
  have hI : Inv (allRo W) W (fun _ => none) [] W := by
    refine ⟨fun i t h => (by cases h), fun i t h => (by cases h), fun i j t t' _ h => (by cases h), fun i t b h => (by cases h), ⟨fun k _ => rfl, fun k h => h, ⟨hT, tab_lt hT⟩, Nat.le_refl _, fun k h => h, fun b j h => h.elim, rfl, rfl, rfl⟩, by simp, by simp, by simp, by simp⟩
  have h := hS.2 (allRo W) W (fun _ => none) vals hI hl (fun id => ?_) hv (fun i => ?_)
  · refine Calls.mono h ?_
    rintro e W' ⟨v, s1, M1, X, rfl, hI1, -, -, hX, -, rfl, -⟩
    refine ⟨?_, fun k hk => hI1.wd.fr k hk, hI1.wd.sz, hI1.wd.oo⟩
    match X, hX with
    | [x], hX =>
      simp only [List.map_cons, List.map_nil, List.cons.injEq, and_true] at hX
      cases x with
      | sc v => simp [er, T.map] at hX; subst hX; rfl
      | _ => simp [er, T.map] at hX
    | [], hX => simp at hX
    | _ :: _ :: _, hX => simp at hX
  · simp only [initFS]
    cases hp : ps[id]? with
    | none => rfl
    | some pa => exact (hr id pa hp).1
  · simp only [initFS]
    cases hp : ps[i / 64]? with
    | none => exact .un _
    | some pa => show RelC _ _ _ (argG (i / 64) pa (i % 64)) _; rw [(hr _ pa hp).2]; exact .un _
end Go.Proofs.Ytciieaidbiejmaa.DM
