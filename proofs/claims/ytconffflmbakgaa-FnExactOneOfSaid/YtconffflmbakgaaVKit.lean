/-
  KIT. Plain lemmas on the print's functions: loops by their index ('from some number of rounds on': Ev), sizes, copies, comparisons, marks. No Go, no memory. Written for this claim by the session's own generator (wip/gen).
-/
import Derived.Test.YtconffflmbakgaaVWords
namespace Go.Proofs.Ytconffflmbakgaa.Kit
set_option linter.unusedVariables false
set_option linter.unusedSimpArgs false
open Go.RowKit Go.Proofs.YtconffflmbakgaaW.PrintWords

theorem w64 {x : Int} (h1 : -9223372036854775808 ≤ x) (h2 : x ≤ 9223372036854775807) : wrap64 x = x := by unfold wrap64; omega
theorem ev_succ {α : Type} {g : Nat → Option α} {r : α} (h : Ev (fun k => g (k + 1)) r) : Ev g r := Ev.step (fun _ => rfl) h
theorem ev_eq {α : Type} {g : Nat → Option α} {r r' : α} (h : Ev g r) (e : r = r') : Ev g r' := e ▸ h
theorem ev_some {α : Type} {a : α} {g : Nat → Option α} (h : ∀ k, g k = some a) : Ev g a := ⟨0, fun k _ => h k⟩
theorem ev_pos {α : Type} {c : Prop} [Decidable c] {g g' : Nat → Option α} {r : α} (hc : c) (h : Ev g r) : Ev (fun k => if c then g k else g' k) r := by simpa only [if_pos hc] using h
theorem ev_neg {α : Type} {c : Prop} [Decidable c] {g g' : Nat → Option α} {r : α} (hc : ¬ c) (h : Ev g' r) : Ev (fun k => if c then g k else g' k) r := by simpa only [if_neg hc] using h
/-- Rounds may be told of each other. -/
theorem ev_both {α β : Type} {g : Nat → Option α} {f : Nat → Option β} {r : α} {q : β} (h : Ev g r) (h' : Ev f q) : ∃ K, ∀ k, K ≤ k → g k = some r ∧ f k = some q := by
  obtain ⟨K, h⟩ := h
  obtain ⟨K', h'⟩ := h'
  exact ⟨max K K', fun k hk => ⟨h k (by omega), h' k (by omega)⟩⟩

section lists
variable {α : Type} {xs : List α} {i : Nat} {a d : α} {rest : List α}
theorem lt_of_drop (h : xs.drop i = a :: rest) : i < xs.length := by
  have := congrArg List.length h
  simp at this
  omega
theorem get_of_drop (h : xs.drop i = a :: rest) : xs[i]? = some a := by
  have := congrArg (fun l => l[0]?) h
  simpa using this
theorem getD_of_drop (h : xs.drop i = a :: rest) : xs.getD i d = a := by
  rw [List.getD_eq_getElem?_getD, get_of_drop h]; rfl
theorem drop_of_drop (h : xs.drop i = a :: rest) : xs.drop (i + 1) = rest := by
  have := congrArg (fun l => l.drop 1) h
  simpa [List.drop_drop, Nat.add_comm] using this
end lists

/-- A loop over a list, by its index: f s rest is what it answers from state s on, where rest is left. -/
theorem loop {σ R α : Type} {xs : List α} (g : Nat → σ → Int → Option R) (f : σ → List α → R) (I : σ → Nat → List α → Prop)
    (hnil : ∀ s, I s xs.length [] → Ev (fun k => g k s (xs.length : Int)) (f s []))
    (hcons : ∀ s (i : Nat) a rest, xs.drop i = a :: rest → i < xs.length → xs[i]? = some a → I s i (a :: rest) → (∀ s', I s' (i + 1) rest → Ev (fun k => g k s' ((i : Int) + 1)) (f s' rest)) → Ev (fun k => g k s (i : Int)) (f s (a :: rest)))
    (s : σ) (h0 : I s 0 xs) : Ev (fun k => g k s 0) (f s xs) := by
  have key : ∀ (rest : List α) (i : Nat) (s : σ), i ≤ xs.length → xs.drop i = rest → I s i rest → Ev (fun k => g k s (i : Int)) (f s rest) := by
    intro rest
    induction rest with
    | nil =>
      intro i s hi hd hI
      have h1 : xs.length ≤ i := by simpa using hd
      obtain rfl : i = xs.length := by omega
      exact hnil s hI
    | cons a rest ih =>
      intro i s hi hd hI
      have hlt := lt_of_drop hd
      refine hcons s i a rest hd hlt (get_of_drop hd) hI (fun s' hs' => ?_)
      have := ih (i + 1) s' (by omega) (drop_of_drop hd) hs'
      simpa using this
  have := key xs 0 s (Nat.zero_le _) rfl h0
  simpa using this

/-! ### sizes: what is left of an allowance -/
def szv (t : Nat) (a : Int) : Int := if (t : Int) ≤ a then a - t else -1
theorem szv_zero {a : Int} (h : 0 ≤ a) : szv 0 a = a := by unfold szv; simp [h]
theorem szv_add {t u : Nat} {a : Int} (h : (t : Int) ≤ a) : szv (t + u) a = szv u (a - t) := by
  unfold szv
  split <;> split <;> first | omega | rfl
theorem szv_neg {t u : Nat} {a : Int} (h : ¬ (t : Int) ≤ a) : szv (t + u) a = -1 := by
  unfold szv
  rw [if_neg (by omega)]
theorem szv_nonneg {t : Nat} {a : Int} (h : ¬ szv t a < 0) : (t : Int) ≤ a := by
  unfold szv at h
  split at h
  · assumption
  · omega
theorem szv_lt {t : Nat} {a : Int} (h : szv t a < 0) (ha : 0 ≤ a) : ¬ (t : Int) ≤ a := by
  unfold szv at h
  split at h
  · omega
  · assumption
theorem szv_bounds {t : Nat} {a : Int} (h : ¬ szv t a < 0) (ha : a ≤ 1048576) : 0 ≤ szv t a ∧ szv t a ≤ 1048576 := by
  have := szv_nonneg h
  unfold szv
  rw [if_pos this]
  omega
def Szf (g : Nat → Int → Option Int) (t : Nat) : Prop := ∀ a, 0 ≤ a → a ≤ 1048576 → Ev (fun k => g k a) (szv t a)
theorem szf_ret : Szf (fun _ a => some a) 0 := fun a h _ => ev_eq (Ev.now a) (szv_zero h).symm
theorem szf_cast {g : Nat → Int → Option Int} {t t' : Nat} (h : Szf g t) (e : t = t') : Szf g t' := e ▸ h
theorem szf_str {s : Nat} {g : Nat → Int → Option Int} {t : Nat} (hs : s ≤ 140737488351232) (h : Szf g t) : Szf (fun k a => if (wrap64 (a - (s : Int))) < 0 then some (-1) else g k (wrap64 (a - (s : Int)))) (s + t) := by
  intro a h0 h1
  have e : wrap64 (a - (s : Int)) = a - s := w64 (by omega) (by omega)
  simp only [e]
  by_cases hc : (s : Int) ≤ a
  · simp only [if_neg (show ¬ a - (s : Int) < 0 by omega)]
    rw [szv_add hc]
    exact h _ (by omega) (by omega)
  · simp only [if_pos (show a - (s : Int) < 0 by omega)]
    rw [szv_neg hc]
    exact Ev.now _
theorem szf_seq {g g' : Nat → Int → Option Int} {t t' : Nat} (h : Szf g t) (h' : Szf g' t') : Szf (fun k a => (g k a).bind fun r => if r < 0 then some (-1) else g' k r) (t + t') := by
  intro a h0 h1
  refine Ev.bind (h a h0 h1) ?_
  by_cases hc : szv t a < 0
  · simp only [if_pos hc]
    rw [szv_neg (szv_lt hc h0)]
    exact Ev.now _
  · have hb := szv_bounds hc h1
    have hn := szv_nonneg hc
    simp only [if_neg hc]
    rw [szv_add hn]
    have := h' _ hb.1 hb.2
    have e : szv t a = a - t := by unfold szv; rw [if_pos hn]
    rw [e] at this ⊢
    exact this
/-- A function that answers at once. -/
theorem szf_now {f : Int → Option Int} {t : Nat} (h : Szf (fun _ a => f a) t) : Szf (fun _ a => f a) t := h
theorem szf_list {α : Type} {l : List α} {w : α → Nat} {L0 : Nat → List α → Int → Int → Option Int} {step : Nat → α → Int → Option Int} {rd : List α → Int → α}
    (hL : ∀ k x s i, L0 (k + 1) x s i = if i < (x.length : Int) then (if 0 ≤ i then ((step k (rd x i) s).bind fun t => if t < 0 then some (-1) else L0 k x t (wrap64 (i + 1))) else none) else some s)
    (hrd : ∀ (i : Nat) a, l[i]? = some a → rd l (i : Int) = a) (hl : l.length ≤ 140737488351232) (hstep : ∀ a ∈ l, Szf (fun k s => step k a s) (w a)) :
    Szf (fun k a => if (wrap64 (a - (l.length : Int))) < 0 then some (-1) else L0 k l (wrap64 (a - (l.length : Int))) 0) (l.length + (l.map w).sum) := by
  refine szf_str (g := fun k a => L0 k l a 0) hl ?_
  intro a h0 h1
  refine loop (xs := l) (fun k s i => L0 k l s i) (fun s rest => szv ((rest.map w).sum) s) (fun s _ rest => (0 ≤ s ∧ s ≤ 1048576) ∧ ∀ y ∈ rest, y ∈ l) ?_ ?_ a ⟨⟨h0, h1⟩, fun _ h => h⟩
  · intro s hI
    refine ev_succ ?_
    simp only [hL, if_neg (Int.lt_irrefl _)]
    simp only [List.map_nil, List.sum_nil]
    rw [szv_zero hI.1.1]
    exact Ev.now _
  · intro s i a rest hd hlt hget ⟨hs, hm⟩ ih
    refine ev_succ ?_
    have e : wrap64 ((i : Int) + 1) = (i : Int) + 1 := w64 (by omega) (by omega)
    simp only [hL, if_pos (show (i : Int) < (l.length : Int) by omega), if_pos (show (0 : Int) ≤ (i : Int) by omega), hrd i a hget, e]
    simp only [List.map_cons, List.sum_cons]
    refine Ev.bind (hstep a (hm a List.mem_cons_self) s hs.1 hs.2) ?_
    by_cases hc : szv (w a) s < 0
    · simp only [if_pos hc]
      rw [szv_neg (szv_lt hc hs.1)]
      exact Ev.now _
    · have hb := szv_bounds hc hs.2
      have hn := szv_nonneg hc
      simp only [if_neg hc]
      rw [szv_add hn]
      have e2 : szv (w a) s = s - w a := by unfold szv; rw [if_pos hn]
      rw [← e2]
      exact ih _ ⟨hb, fun y hy => hm y (List.mem_cons_of_mem _ hy)⟩
/-- The same where the step is one subtraction. -/
theorem szf_list1 {α : Type} {l : List α} {w : α → Nat} {L0 : Nat → List α → Int → Int → Option Int} {rd : List α → Int → α}
    (hL : ∀ k x s i, L0 (k + 1) x s i = if i < (x.length : Int) then (if 0 ≤ i then (if (wrap64 (s - (w (rd x i) : Int))) < 0 then some (-1) else L0 k x (wrap64 (s - (w (rd x i) : Int))) (wrap64 (i + 1))) else none) else some s)
    (hrd : ∀ (i : Nat) a, l[i]? = some a → rd l (i : Int) = a) (hl : l.length ≤ 140737488351232) (hw : ∀ a ∈ l, w a ≤ 140737488351232) :
    Szf (fun k a => if (wrap64 (a - (l.length : Int))) < 0 then some (-1) else L0 k l (wrap64 (a - (l.length : Int))) 0) (l.length + (l.map w).sum) := by
  refine szf_list (step := fun _ a s => if (wrap64 (s - (w a : Int))) < 0 then some (-1) else some (wrap64 (s - (w a : Int)))) (rd := rd) ?_ hrd hl ?_
  · intro k x s i
    rw [hL]
    by_cases h1 : i < (x.length : Int)
    · by_cases h2 : 0 ≤ i
      · simp only [if_pos h1, if_pos h2]
        by_cases h3 : (wrap64 (s - (w (rd x i) : Int))) < 0
        · simp only [if_pos h3, Option.bind_some]; simp
        · simp only [if_neg h3, Option.bind_some]
      · simp only [if_pos h1, if_neg h2]
    · simp only [if_neg h1]
  · intro a ha
    exact szf_cast (szf_str (hw a ha) szf_ret) (by omega)

/-! ### copies -/
theorem set_take_succ {β : Type} {y : List β} {i : Nat} {b : β} (h : i < y.length) : (y.set i b).take (i + 1) = y.take i ++ [b] := by
  have hl : i < (y.set i b).length := by simpa using h
  rw [List.take_succ_eq_append_getElem hl, List.take_set_of_le (Nat.le_refl _)]
  simp
theorem to_list {α β τ : Type} {l : List α} {z : β} {conv : α → β} {mk : τ → β} {t : α → τ} {L0 : Nat → List α → List β → Int → Option (List β)} {step : Nat → α → Option τ} {rd : List α → Int → α} {B : Nat}
    (hL : ∀ k x y i, L0 (k + 1) x y i = if i < (x.length : Int) then (if 0 ≤ i then ((step k (rd x i)).bind fun b => if i < (y.length : Int) then L0 k x (y.set (i : Int).toNat (mk b)) (wrap64 (i + 1)) else none) else none) else some y)
    (hrd : ∀ (i : Nat) a, l[i]? = some a → rd l (i : Int) = a) (hl : l.length ≤ B) (hB : B ≤ 140737488355328) (hstep : ∀ a ∈ l, Ev (fun k => step k a) (t a) ∧ mk (t a) = conv a) :
    Ev (fun k => if 0 ≤ (l.length : Int) then (if ((l.length : Int) : Int).toNat ≤ B then L0 k l (List.replicate ((l.length : Int) : Int).toNat z) 0 else none) else none) (l.map conv) := by
  simp only [if_pos (show (0 : Int) ≤ (l.length : Int) by omega), Int.toNat_natCast, if_pos hl]
  have key := loop (xs := l) (fun k (y : List β) i => L0 k l y i) (fun y rest => y.take (l.length - rest.length) ++ rest.map conv) (fun y i rest => y.length = l.length ∧ i + rest.length = l.length ∧ ∀ x ∈ rest, x ∈ l) ?_ ?_ (List.replicate l.length z) ⟨by simp, by simp, fun _ h => h⟩
  · simpa using key
  · intro y ⟨h1, _⟩
    refine ev_succ ?_
    simp only [hL, if_neg (Int.lt_irrefl _)]
    refine ev_eq (Ev.now _) ?_
    simp [← h1]
  · intro y i a rest hd hlt hget ⟨h1, h2, hm⟩ ih
    refine ev_succ ?_
    have e : wrap64 ((i : Int) + 1) = (i : Int) + 1 := w64 (by omega) (by omega)
    simp only [hL, if_pos (show (i : Int) < (l.length : Int) by omega), if_pos (show (0 : Int) ≤ (i : Int) by omega), hrd i a hget, e]
    obtain ⟨hs, hmk⟩ := hstep a (hm a List.mem_cons_self)
    refine Ev.bind hs ?_
    simp only [if_pos (show (i : Int) < (y.length : Int) by omega), Int.toNat_natCast, hmk]
    have h2' : i + rest.length + 1 = l.length := by simp at h2; omega
    refine ev_eq (ih _ ⟨by simpa using h1, by omega, fun x hx => hm x (List.mem_cons_of_mem _ hx)⟩) ?_
    have e1 : l.length - rest.length = i + 1 := by omega
    have e2 : l.length - (a :: rest).length = i := by simp; omega
    simp only [e1, e2]
    rw [set_take_succ (by omega)]
    simp
/-- The same where the element is copied as it stands. -/
theorem to_list1 {α : Type} {l : List α} {z : α} {L0 : Nat → List α → List α → Int → Option (List α)} {rd : List α → Int → α} {B : Nat}
    (hL : ∀ k x y i, L0 (k + 1) x y i = if i < (x.length : Int) then (if 0 ≤ i then (if i < (y.length : Int) then L0 k x (y.set (i : Int).toNat (rd x i)) (wrap64 (i + 1)) else none) else none) else some y)
    (hrd : ∀ (i : Nat) a, l[i]? = some a → rd l (i : Int) = a) (hl : l.length ≤ B) (hB : B ≤ 140737488355328) :
    Ev (fun k => if 0 ≤ (l.length : Int) then (if ((l.length : Int) : Int).toNat ≤ B then L0 k l (List.replicate ((l.length : Int) : Int).toNat z) 0 else none) else none) l := by
  have := to_list (l := l) (z := z) (conv := id) (mk := id) (t := id) (L0 := L0) (step := fun _ a => some a) (rd := rd) (B := B) (by intro k x y i; rw [hL]; rfl) hrd hl hB (fun a _ => ⟨Ev.now _, rfl⟩)
  simpa using this

/-! ### comparisons of a value with itself -/
theorem eq_list {α : Type} {z : Option Bool} {l : List α} {L0 : Nat → List α → List α → Int → Option Bool} {step : Nat → α → α → Option Bool} {rd : List α → Int → α}
    (hL : ∀ k x y i, L0 (k + 1) x y i = if i < (x.length : Int) then (if 0 ≤ i then (if i < (y.length : Int) then ((step k (rd x i) (rd y i)).bind fun t => if t = true then L0 k x y (wrap64 (i + 1)) else z) else none) else none) else some true)
    (hrd : ∀ (i : Nat) a, l[i]? = some a → rd l (i : Int) = a) (hl : l.length ≤ 140737488351232) (hstep : ∀ a ∈ l, Ev (fun k => step k a a) true) :
    Ev (fun k => if (l.length : Int) = (l.length : Int) then L0 k l l 0 else z) true := by
  refine ev_pos rfl ?_
  refine loop (xs := l) (fun k (_ : Unit) i => L0 k l l i) (fun _ _ => true) (fun _ _ rest => ∀ x ∈ rest, x ∈ l) ?_ ?_ () (fun _ h => h)
  · intro _ _
    refine ev_succ ?_
    simp only [hL, if_neg (Int.lt_irrefl _)]
    exact Ev.now _
  · intro _ i a rest hd hlt hget hm ih
    refine ev_succ ?_
    have e : wrap64 ((i : Int) + 1) = (i : Int) + 1 := w64 (by omega) (by omega)
    simp only [hL, if_pos (show (i : Int) < (l.length : Int) by omega), if_pos (show (0 : Int) ≤ (i : Int) by omega), hrd i a hget, e]
    refine Ev.bind (hstep a (hm a List.mem_cons_self)) ?_
    simp only [if_true]
    exact ih () (fun x hx => hm x (List.mem_cons_of_mem _ hx))
theorem eq_list1 {α γ : Type} [DecidableEq γ] {z : Option Bool} {l : List α} {c : α → γ} {L0 : Nat → List α → List α → Int → Option Bool} {rd : List α → Int → α}
    (hL : ∀ k x y i, L0 (k + 1) x y i = if i < (x.length : Int) then (if 0 ≤ i then (if i < (y.length : Int) then (if c (rd x i) = c (rd y i) then L0 k x y (wrap64 (i + 1)) else z) else none) else none) else some true)
    (hrd : ∀ (i : Nat) a, l[i]? = some a → rd l (i : Int) = a) (hl : l.length ≤ 140737488351232) :
    Ev (fun k => if (l.length : Int) = (l.length : Int) then L0 k l l 0 else z) true := by
  refine eq_list (step := fun _ a b => some (decide (c a = c b))) (rd := rd) ?_ hrd hl (fun a _ => by simpa using Ev.now true)
  intro k x y i
  rw [hL]
  by_cases h1 : i < (x.length : Int)
  · by_cases h2 : 0 ≤ i
    · by_cases h3 : i < (y.length : Int)
      · simp only [if_pos h1, if_pos h2, if_pos h3, Option.bind_some, decide_eq_true_eq]
      · simp only [if_pos h1, if_pos h2, if_neg h3]
    · simp only [if_pos h1, if_neg h2]
  · simp only [if_neg h1]
theorem eqf_end : Ev (fun _ => some true) true := Ev.now _
theorem eqf_if {γ : Type} [DecidableEq γ] {z : Option Bool} {x : γ} {g : Nat → Option Bool} (h : Ev g true) : Ev (fun k => if x = x then g k else z) true := ev_pos rfl h
theorem eqf_bool {b : Bool} {z : Option Bool} {g : Nat → Option Bool} (h : Ev g true) : Ev (fun k => if (b != b) = true then z else g k) true := ev_neg (by simp) h
theorem eqf_call {z : Option Bool} {g g' : Nat → Option Bool} (h : Ev g true) (h' : Ev g' true) : Ev (fun k => (g k).bind fun t => if t = true then g' k else z) true := Ev.bind h (ev_pos rfl h')

/-! ### reading a list at an index -/
theorem rdOf_get {α : Type} {l : List α} {d : α} (i : Nat) (a : α) (h : l[i]? = some a) : rdOf d l (i : Int) = a := by
  simp [rdOf, List.getD_eq_getElem?_getD, h]
theorem getD_get {α : Type} {l : List α} {d : α} (i : Nat) (a : α) (h : l[i]? = some a) : l.getD (i : Int).toNat d = a := by
  simp [List.getD_eq_getElem?_getD, h]
/-- A loop that counts. -/
theorem count_ev {α : Type} {xs : List α} (p : α → Bool) (g : Nat → Int → Int → Option Int) (hl : xs.length ≤ 140737488351232)
    (hnil : ∀ k c, g (k + 1) c (xs.length : Int) = some c)
    (hcons : ∀ k c (i : Nat) a, xs[i]? = some a → i < xs.length → 0 ≤ c → c ≤ 140737488351232 → g (k + 1) c (i : Int) = if p a = true then g k (c + 1) ((i : Int) + 1) else g k c ((i : Int) + 1)) :
    Ev (fun k => g k 0 0) ((xs.filter p).length : Int) := by
  have key := loop (xs := xs) (fun k c i => g k c i) (fun c rest => c + ((rest.filter p).length : Int)) (fun c i rest => 0 ≤ c ∧ c ≤ i ∧ i + rest.length = xs.length) ?_ ?_ 0 ⟨by omega, by simp, by simp⟩
  · simpa using key
  · intro c _
    refine ev_succ ?_
    simp only [hnil]
    refine ev_eq (Ev.now _) ?_
    simp
  · intro c i a rest hd hlt hget ⟨h1, h2, h3⟩ ih
    refine ev_succ ?_
    simp only [hcons _ c i a hget hlt h1 (by omega)]
    have h3' : i + 1 + rest.length = xs.length := by simp at h3; omega
    by_cases hp : p a = true
    · simp only [if_pos hp]
      refine ev_eq (ih (c + 1) ⟨by omega, by omega, h3'⟩) ?_
      simp [hp]; omega
    · simp only [if_neg hp]
      refine ev_eq (ih c ⟨by omega, by omega, h3'⟩) ?_
      simp [hp]
theorem ev_const {α : Type} {x : Option α} {r : α} (h : Ev (fun _ => x) r) : x = some r := by
  obtain ⟨K, h⟩ := h
  exact h K (Nat.le_refl _)
/-- A loop that goes through a whole list and carries a state along. -/
theorem fold_ev {σ R α : Type} {xs : List α} (g : Nat → σ → Int → Option R) (step : σ → α → σ) (fin : σ → R) (I : σ → Nat → Prop)
    (hnil : ∀ k s, I s xs.length → g (k + 1) s (xs.length : Int) = some (fin s))
    (hcons : ∀ s (i : Nat) a, xs[i]? = some a → i < xs.length → I s i → (∀ r, Ev (fun k => g k (step s a) ((i : Int) + 1)) r → Ev (fun k => g k s (i : Int)) r) ∧ I (step s a) (i + 1))
    (s : σ) (h0 : I s 0) : Ev (fun k => g k s 0) (fin (xs.foldl step s)) := by
  refine loop (xs := xs) g (fun s rest => fin (rest.foldl step s)) (fun s i _ => I s i) ?_ ?_ s h0
  · intro s hI
    exact ev_succ (ev_some fun k => hnil k s hI)
  · intro s i a rest hd hlt hget hI ih
    obtain ⟨h1, h2⟩ := hcons s i a hget hlt hI
    exact h1 _ (ih (step s a) h2)
/-- A loop that collects at most one element a round. -/
theorem collect_ev {α β : Type} {xs : List α} (f : α → List β) (hf : ∀ a, (f a).length ≤ 1) (g : Nat → List β → Int → Option (List β))
    (hnil : ∀ k y, g (k + 1) y (xs.length : Int) = some y)
    (hcons : ∀ y (i : Nat) a, xs[i]? = some a → i < xs.length → y.length ≤ i → ∀ r, Ev (fun k => g k (y ++ f a) ((i : Int) + 1)) r → Ev (fun k => g k y (i : Int)) r) :
    Ev (fun k => g k [] 0) (xs.flatMap f) := by
  have key := fold_ev (xs := xs) g (fun y a => y ++ f a) (fun y => y) (fun y i => y.length ≤ i) (fun k y _ => hnil k y) (fun y i a hget hlt hI => ⟨hcons y i a hget hlt hI, by
    have := hf a
    rw [List.length_append]; omega⟩) [] (by simp)
  refine ev_eq key ?_
  have : ∀ (l : List α) (y : List β), l.foldl (fun y a => y ++ f a) y = y ++ l.flatMap f := by
    intro l
    induction l with
    | nil => intro y; simp
    | cons a l ih => intro y; simp [ih, List.append_assoc]
  simpa using this xs []
/-- Two lists, element for element. -/
def all2 {α : Type} (e : α → α → Bool) : List α → List α → Bool
  | a :: x, b :: y => e a b && all2 e x y
  | [], [] => true
  | _, _ => false
theorem all2_ev {α : Type} {xs ys : List α} (e : α → α → Bool) (g : Nat → Int → Option Bool) (hl : xs.length = ys.length)
    (hnil : ∀ k, g (k + 1) (xs.length : Int) = some true)
    (hcons : ∀ (i : Nat) a b, xs[i]? = some a → ys[i]? = some b → i < xs.length → (e a b = true → ∀ r, Ev (fun k => g k ((i : Int) + 1)) r → Ev (fun k => g k (i : Int)) r) ∧ (e a b = false → Ev (fun k => g k (i : Int)) false)) :
    Ev (fun k => g k 0) (all2 e xs ys) := by
  refine loop (xs := xs) (fun k (_ : Unit) i => g k i) (fun _ rest => all2 e rest (ys.drop (xs.length - rest.length))) (fun _ i rest => i + rest.length = xs.length) ?_ ?_ () (by simp) |> fun h => by simpa using h
  · intro _ _
    refine ev_succ (ev_some fun k => ?_)
    rw [hnil k]
    simp [hl, all2]
  · intro _ i a rest hd hlt hget hI ih
    have hi : xs.length - (a :: rest).length = i := by simp only [List.length_cons] at hI ⊢; omega
    have hi' : xs.length - rest.length = i + 1 := by simp only [List.length_cons] at hI; omega
    have hy : i < ys.length := by omega
    have hg := List.getElem?_eq_getElem hy
    have hdr : ys.drop i = ys[i] :: ys.drop (i + 1) := List.drop_eq_getElem_cons hy
    obtain ⟨h1, h2⟩ := hcons i a ys[i] hget hg hlt
    rw [hi, hdr]
    simp only [all2]
    cases he : e a ys[i] with
    | true =>
      have := ih () (by simp only [List.length_cons] at hI; omega)
      rw [hi'] at this
      simpa using h1 he _ this
    | false => simpa using h2 he
theorem mem_sum {α : Type} {l : List α} {w : α → Nat} {a : α} (ha : a ∈ l) : w a ≤ (l.map w).sum := by
  induction l with
  | nil => simp at ha
  | cons b l ih =>
    rcases List.mem_cons.1 ha with rfl | ha
    · simp only [List.map_cons, List.sum_cons]; omega
    · have := ih ha
      simp only [List.map_cons, List.sum_cons]; omega
theorem mem_w {α : Type} {l : List α} {w : α → Nat} {a : α} (h : l.length + (l.map w).sum ≤ 1048576) (ha : a ∈ l) : w a ≤ 1048576 := by
  have := mem_sum (w := w) ha
  omega

theorem flat_w {α β : Type} {f : α → List β} {w : α → Nat} {w' : β → Nat} (hf : ∀ a, (f a).length ≤ 1) (hw : ∀ a, ((f a).map w').sum ≤ w a) (l : List α) : (l.flatMap f).length + ((l.flatMap f).map w').sum ≤ l.length + (l.map w).sum := by
  induction l with
  | nil => simp
  | cons a l ih =>
    have h1 := hf a
    have h2 := hw a
    simp only [List.flatMap_cons, List.length_append, List.map_append, List.sum_append, List.length_cons, List.map_cons, List.sum_cons]
    omega
/-! ### marks: a list's elements overwritten in order, and read back -/
def markAll {β : Type} (mk : Int → β → β) (adv : β → Nat) : Int → List β → List β
  | _, [] => []
  | c, a :: l => mk c a :: markAll mk adv (c + (adv a : Int)) l
theorem markAll_length {β : Type} (mk : Int → β → β) (adv : β → Nat) : ∀ (l : List β) (c : Int), (markAll mk adv c l).length = l.length
  | [], _ => rfl
  | a :: l, c => by simp [markAll, markAll_length mk adv l]
theorem sum_const {β : Type} (m : Nat) : ∀ l : List β, (l.map fun _ => m).sum = m * l.length
  | [] => rfl
  | a :: l => by simp only [List.map_cons, List.sum_cons, sum_const m l, List.length_cons, Nat.mul_add]; omega
theorem mark_ev {β : Type} {l : List β} (mk : Int → β → β) (adv : β → Nat) (P : β → Prop) (g : Nat → List β × Int → Int → Option (Int × List β))
    (hnil : ∀ k (s : List β × Int), g (k + 1) s (s.1.length : Int) = some (s.2, s.1))
    (hcons : ∀ (y : List β) (c : Int) (i : Nat) a, y[i]? = some a → i < y.length → y.length ≤ 1048576 → P a → 1 ≤ c → c + (adv a : Int) ≤ 1125899906842624 → ∀ r, Ev (fun k => g k (y.set i (mk c a), c + (adv a : Int)) ((i : Int) + 1)) r → Ev (fun k => g k (y, c) (i : Int)) r)
    (hl : l.length ≤ 1048576) (hP : ∀ a ∈ l, P a) (c0 : Int) (h1 : 1 ≤ c0) (h2 : c0 + ((l.map adv).sum : Int) ≤ 1125899906842624) :
    Ev (fun k => g k (l, c0) 0) (c0 + ((l.map adv).sum : Int), markAll mk adv c0 l) := by
  refine loop (xs := l) g (fun s rest => (s.2 + ((rest.map adv).sum : Int), s.1.take (l.length - rest.length) ++ markAll mk adv s.2 rest))
    (fun s i rest => s.1.length = l.length ∧ i + rest.length = l.length ∧ s.1.drop i = rest ∧ (∀ a ∈ rest, P a) ∧ 1 ≤ s.2 ∧ s.2 + ((rest.map adv).sum : Int) ≤ 1125899906842624) ?_ ?_ (l, c0) ⟨rfl, by simp, rfl, hP, h1, h2⟩ |> fun h => by simpa using h
  · intro s ⟨hs1, _⟩
    refine ev_succ (ev_some fun k => ?_)
    rw [← hs1, hnil k s]
    simp [markAll, ← hs1]
  · intro s i a rest hd hlt hget ⟨hs1, hs2, hs3, hs4, hs5, hs6⟩ ih
    have hgi := get_of_drop hs3
    have hr1 : i + 1 + rest.length = l.length := by simp only [List.length_cons] at hs2; omega
    simp only [List.map_cons, List.sum_cons] at hs6
    have key := ih (s.1.set i (mk s.2 a), s.2 + (adv a : Int)) ⟨by simpa using hs1, hr1, ?_, fun b hb => hs4 b (List.mem_cons_of_mem _ hb), by omega, by omega⟩
    · refine hcons s.1 s.2 i a hgi (by omega) (by omega) (hs4 a List.mem_cons_self) hs5 (by omega) _ (ev_eq key ?_)
      have e1 : l.length - rest.length = i + 1 := by omega
      have e2 : l.length - (a :: rest).length = i := by simp only [List.length_cons]; omega
      simp only [e1, e2, List.map_cons, List.sum_cons, markAll]
      rw [set_take_succ (by omega)]
      simp [Int.add_assoc]
    · have := drop_of_drop hs3
      rw [← this]
      simp [List.drop_set]
theorem held_ev {β : Type} {l : List β} (mk : Int → β → β) (adv : β → Nat) (P : β → Prop) (c0 : Int) (x : List β) (hx : x = markAll mk adv c0 l) (g : Nat → Int → Int → Option Int)
    (hnil : ∀ k c, g (k + 1) c (x.length : Int) = some c)
    (hcons : ∀ (c : Int) (i : Nat) a, x[i]? = some (mk c a) → i < x.length → P a → 1 ≤ c → c + (adv a : Int) ≤ 1125899906842624 → ∀ r, Ev (fun k => g k (c + (adv a : Int)) ((i : Int) + 1)) r → Ev (fun k => g k c (i : Int)) r)
    (hP : ∀ a ∈ l, P a) (h1 : 1 ≤ c0) (h2 : c0 + ((l.map adv).sum : Int) ≤ 1125899906842624) :
    Ev (fun k => g k c0 0) (c0 + ((l.map adv).sum : Int)) := by
  have hxl : x.length = l.length := by rw [hx, markAll_length]
  refine loop (xs := l) g (fun c rest => c + ((rest.map adv).sum : Int))
    (fun c i rest => i + rest.length = l.length ∧ x.drop i = markAll mk adv c rest ∧ (∀ a ∈ rest, P a) ∧ 1 ≤ c ∧ c + ((rest.map adv).sum : Int) ≤ 1125899906842624) ?_ ?_ c0 ⟨by simp, by simpa using hx, hP, h1, h2⟩
  · intro c _
    refine ev_succ (ev_some fun k => ?_)
    rw [← hxl, hnil k c]
    simp
  · intro c i a rest hd hlt hget ⟨hs2, hs3, hs4, hs5, hs6⟩ ih
    simp only [markAll] at hs3
    have hgi := get_of_drop hs3
    have hr1 : i + 1 + rest.length = l.length := by simp only [List.length_cons] at hs2; omega
    simp only [List.map_cons, List.sum_cons] at hs6
    refine hcons c i a hgi (by omega) (hs4 a List.mem_cons_self) hs5 (by omega) _ (ev_eq (ih (c + (adv a : Int)) ⟨hr1, drop_of_drop hs3, fun b hb => hs4 b (List.mem_cons_of_mem _ hb), by omega, by omega⟩) ?_)
    simp [Int.add_assoc]
open Classical in
noncomputable def mtOf (g : Nat → Int → Option ByteArray) (c : Int) : ByteArray := if h : ∃ r, Ev (fun k => g k c) r then h.choose else ByteArray.empty
theorem mtOf_ev {g : Nat → Int → Option ByteArray} {c : Int} (h : ∃ r, Ev (fun k => g k c) r) : Ev (fun k => g k c) (mtOf g c) := by
  unfold mtOf
  rw [dif_pos h]
  exact h.choose_spec
theorem markText_ex {F : Nat → Int → Option ByteArray} {L0 : Nat → Int → ByteArray → Option ByteArray}
    (hF : ∀ k a, F k a = if a ≤ 0 then some (⟨#[109, 48]⟩ : ByteArray) else L0 k a (⟨#[]⟩ : ByteArray))
    (hL : ∀ k x y, L0 (k + 1) x y = if x > 0 then ((some (([(wrap64 (48 + (Int.tmod x 10))) % 256] : List Int) : List Int)).bind fun z => if (strOfNums z).size + y.size ≤ 9223372036854775807 then L0 k (wrap64 (Int.tdiv x 10)) ((strOfNums z) ++ y) else none) else (if 1 + y.size ≤ 9223372036854775807 then some ((⟨#[109]⟩ : ByteArray) ++ y) else none))
    (c : Int) (hc : c ≤ 1125899906842624) : ∃ r, Ev (fun k => F k c) r := by
  have key : ∀ (n : Nat) (x : Int) (y : ByteArray), x.toNat ≤ n → x ≤ 1125899906842624 → y.size + x.toNat ≤ 1125899906842624 → ∃ r, Ev (fun k => L0 k x y) r := by
    intro n
    induction n with
    | zero =>
      intro x y h1 h2 h3
      refine ⟨(⟨#[109]⟩ : ByteArray) ++ y, ev_succ ?_⟩
      simp only [hL, if_neg (show ¬ x > 0 by omega), if_pos (show 1 + y.size ≤ 9223372036854775807 by omega)]
      exact Ev.now _
    | succ n ih =>
      intro x y h1 h2 h3
      by_cases hx : x > 0
      · have hz : (strOfNums [(wrap64 (48 + (Int.tmod x 10))) % 256]).size = 1 := by simp [strOfNums, ByteArray.size]
        have hd : Int.tdiv x 10 = x / 10 := Int.tdiv_eq_ediv_of_nonneg (by omega)
        have hw : wrap64 (Int.tdiv x 10) = x / 10 := by rw [hd]; exact w64 (by omega) (by omega)
        obtain ⟨r, hr⟩ := ih (x / 10) (strOfNums [(wrap64 (48 + (Int.tmod x 10))) % 256] ++ y) (by omega) (by omega) (by rw [ByteArray.size_append, hz]; omega)
        refine ⟨r, ev_succ ?_⟩
        simp only [hL, if_pos hx, Option.bind_some, hw, if_pos (show (strOfNums [(wrap64 (48 + (Int.tmod x 10))) % 256]).size + y.size ≤ 9223372036854775807 by omega)]
        exact hr
      · refine ⟨(⟨#[109]⟩ : ByteArray) ++ y, ev_succ ?_⟩
        simp only [hL, if_neg hx, if_pos (show 1 + y.size ≤ 9223372036854775807 by omega)]
        exact Ev.now _
  by_cases h0 : c ≤ 0
  · exact ⟨_, ev_some fun k => by rw [hF, if_pos h0]⟩
  · obtain ⟨r, hr⟩ := key c.toNat c ⟨#[]⟩ (Nat.le_refl _) hc (by show 0 + _ ≤ _; omega)
    refine ⟨r, ?_⟩
    simp only [hF, if_neg h0]
    exact hr
end Go.Proofs.Ytconffflmbakgaa.Kit
