/-
  FnExactFreePages: the pure part: what the law computes is true, whatever the input.
-/
import Derived.Test.YtakelegiamdmaaaFamFnExactFreePages
namespace Go.Proofs.Ytakelegiamdmaaa.Pure
open Go.RowKit Go.Proofs.YtakelegiamdmaaaW.PrintWords Go.Proofs.YtakelegiamdmaaaW.PrintLast Go.Proofs.YtakelegiamdmaaaW.PrintMore Go.Proofs.Ytakelegiamdmaaa.PFnExactFreePages Go.Proofs.Ytakelegiamdmaaa.Kit
set_option linter.unusedVariables false
set_option linter.unusedSimpArgs false
def geoB (t p i q : Int) : Bool := decide (1 ≤ t ∧ t ≤ 3 ∧ 5 ≤ p ∧ p ≤ 12 ∧ 2 ≤ i ∧ i ≤ 6 ∧ 1 ≤ q ∧ q ≤ p - 4)
theorem in_ev (a b c : Int) : spec_l01In.f a b c = some (decide (b ≤ a ∧ a ≤ c)) := by
  unfold spec_l01In.f
  split <;> simp <;> omega
theorem within_ev (a b c : Int) : impl_within.f a b c = some (decide (b ≤ a ∧ a ≤ c)) := by
  unfold impl_within.f
  split <;> simp <;> omega
theorem spec_geo (t p i q : Int) : spec_GeoOk.f t p i q = some (geoB t p i q) := by
  unfold spec_GeoOk.f geoB
  simp only [in_ev, Option.bind_some, decide_eq_true_eq]
  by_cases h1 : 1 ≤ t ∧ t ≤ 3
  · by_cases h2 : 5 ≤ p ∧ p ≤ 12
    · have e : wrap64 (p - 4) = p - 4 := w64 (by omega) (by omega)
      by_cases h3 : 2 ≤ i ∧ i ≤ 6
      · simp only [if_pos h1, if_pos h2, if_pos h3, e]
        congr 1
        simp only [decide_eq_decide]
        omega
      · simp only [if_pos h1, if_pos h2, if_neg h3]
        symm; congr 1; simp only [decide_eq_false_iff_not]; omega
    · simp only [if_pos h1, if_neg h2]
      symm; congr 1; simp only [decide_eq_false_iff_not]; omega
  · simp only [if_neg h1]
    symm; congr 1; simp only [decide_eq_false_iff_not]; omega
theorem impl_geo (t p i q : Int) : impl_GeoOk.f t p i q = some (geoB t p i q) := by
  rw [← spec_geo]
  unfold spec_GeoOk.f impl_GeoOk.f
  simp only [in_ev, within_ev]
theorem brought_ev (n a b : Int) (h : a ≤ b) : Ev (fun k => spec_Brought.f k n a b) (if n < a then a else if n > b then b else n) := by
  unfold spec_Brought.f
  refine ev_neg (by omega) (ev_succ ?_)
  simp only [spec_Brought.j0, decide_eq_true_eq]
  refine ev_some fun _ => ?_
  repeat' split
  all_goals rfl

def pf (n : Nat) : Int := ((n : Int) + 31) / 32
theorem spec_pf (n : Nat) (h : n ≤ 1048576) : spec_PagesFor.f (n : Int) = some (pf n) := by
  unfold spec_PagesFor.f pf
  split
  · congr 1; omega
  · have e1 : wrap64 ((n : Int) - 1) = (n : Int) - 1 := w64 (by omega) (by omega)
    have e2 : Int.tdiv ((n : Int) - 1) 32 = ((n : Int) - 1) / 32 := Int.tdiv_eq_ediv_of_nonneg (by omega)
    rw [e1, e2]
    have e3 : wrap64 (((n : Int) - 1) / 32) = ((n : Int) - 1) / 32 := w64 (by omega) (by omega)
    rw [e3, w64 (by omega) (by omega)]
    congr 1; omega
theorem impl_pf (n : Nat) (h : n ≤ 1048576) : impl_PagesFor.f (n : Int) = some (pf n) := by
  unfold impl_PagesFor.f pf
  have e2 : Int.tdiv (n : Int) 32 = (n : Int) / 32 := Int.tdiv_eq_ediv_of_nonneg (by omega)
  have e3 : Int.tmod (n : Int) 32 = (n : Int) % 32 := Int.tmod_eq_emod_of_nonneg (by omega)
  have e4 : wrap64 ((n : Int) / 32) = (n : Int) / 32 := w64 (by omega) (by omega)
  have e5 : wrap64 ((n : Int) / 32 + 1) = (n : Int) / 32 + 1 := w64 (by omega) (by omega)
  rw [e2, e3, e4, e5]
  split
  · omega
  · split
    · congr 1; omega
    · congr 1; omega
/-- What a list of items needs. -/
def need (c : Int) (x : S146) : Int := if x.f1 = true then c else c + pf x.f2.size
theorem pf_bounds (n : Nat) (h : n ≤ 1048576) : 0 ≤ pf n ∧ pf n ≤ 32769 := by unfold pf; omega
theorem spec_pages (xs : List S146) (hl : xs.length ≤ 1048576) (hs : ∀ x ∈ xs, x.f2.size ≤ 1048576) : Ev (fun k => spec_PagesIn.f k xs) (xs.foldl need 0) := by
  refine fold_ev (xs := xs) (fun k c i => spec_PagesIn.l0 k c i xs) need (fun c => c) (fun c i => 0 ≤ c ∧ c ≤ 32769 * i) ?_ ?_ 0 ⟨by omega, by omega⟩
  · intro k c _
    simp only [spec_PagesIn.l0, if_neg (Int.lt_irrefl _)]
  · intro c i a hget hlt ⟨h1, h2⟩
    have hsz := hs a (List.mem_of_getElem? hget)
    have hb := pf_bounds _ hsz
    have e1 : wrap64 ((i : Int) + 1) = (i : Int) + 1 := w64 (by omega) (by omega)
    have hr : rd_T146 xs (i : Int) = a := getD_get i a hget
    have e2 : wrap64 (c + pf a.f2.size) = c + pf a.f2.size := w64 (by omega) (by omega)
    refine ⟨fun r ih => ev_succ ?_, ?_⟩
    · simp only [spec_PagesIn.l0, e1, hr, if_pos (show (i : Int) < (xs.length : Int) by omega), if_pos (show (0 : Int) ≤ (i : Int) by omega), spec_pf _ hsz, Option.bind_some, e2]
      unfold need at ih
      split
      · rename_i h; simpa only [if_pos h] using ih
      · rename_i h; simpa only [if_neg h] using ih
    · unfold need
      split <;> omega
theorem impl_pages (xs : List S146) (hl : xs.length ≤ 1048576) (hs : ∀ x ∈ xs, x.f2.size ≤ 1048576) : Ev (fun k => impl_PagesIn.f k xs) (xs.foldl need 0) := by
  refine fold_ev (xs := xs) (fun k c i => impl_PagesIn.l0 k c xs xs.length i) need (fun c => c) (fun c i => 0 ≤ c ∧ c ≤ 32769 * i) ?_ ?_ 0 ⟨by omega, by omega⟩
  · intro k c _
    simp only [impl_PagesIn.l0, if_neg (Int.lt_irrefl _)]
  · intro c i a hget hlt ⟨h1, h2⟩
    have hsz := hs a (List.mem_of_getElem? hget)
    have hb := pf_bounds _ hsz
    have e1 : wrap64 ((i : Int) + 1) = (i : Int) + 1 := w64 (by omega) (by omega)
    have hr : rd_T146 xs (i : Int) = a := getD_get i a hget
    have e2 : wrap64 (c + pf a.f2.size) = c + pf a.f2.size := w64 (by omega) (by omega)
    refine ⟨fun r ih => ev_succ ?_, ?_⟩
    · simp only [impl_PagesIn.l0, e1, hr, if_pos (show (i : Int) < (xs.length : Int) by omega), if_pos (show (0 : Int) ≤ (i : Int) by omega), impl_pf _ hsz, Option.bind_some, e2]
      unfold need at ih
      split
      · rename_i h; simpa only [if_pos h] using ih
      · rename_i h; simpa only [if_neg h] using ih
    · unfold need
      split <;> omega
theorem need_bounds (xs : List S146) : ∀ (c : Int), (∀ x ∈ xs, x.f2.size ≤ 1048576) → 0 ≤ c → 0 ≤ xs.foldl need c ∧ xs.foldl need c ≤ c + 32769 * (xs.length : Int) := by
  induction xs with
  | nil => intro c _ h; simp; omega
  | cons a xs ih =>
    intro c hs hc
    have hb := pf_bounds _ (hs a List.mem_cons_self)
    have h1 : 0 ≤ need c a ∧ need c a ≤ c + 32769 := by unfold need; split <;> omega
    have := ih (need c a) (fun x hx => hs x (List.mem_cons_of_mem _ hx)) h1.1
    simp only [List.foldl_cons, List.length_cons]
    omega
theorem FnExactFreePages : Go.Proofs.Ytakelegiamdmaaa.PFnExactFreePages.Stated := by
  intro a0 a1 a2 a3 l0 y0 y1 y2 y3 y4
  unfold laws_FnExactFreePages.f
  refine Ev.rounds (Ev.bind (szView_sz l0 y4 1048576 (by decide) (by decide)) ?_)
  refine (Classical.em _).elim (fun hc => ev_pos hc (Ev.now _)) (fun hc => ev_neg hc ?_)
  have hW := szv_nonneg hc
  have hto := toView_to l0 (by omega)
  have hg : Ev (fun _ => laws_toGeo.f a0 a1 a2 a3) (a0, a1, a2, a3) := ev_some fun _ => rfl
  have hsz : ∀ x ∈ l0.map c145, x.f2.size ≤ 1048576 := by
    intro x hx
    obtain ⟨y, hy, rfl⟩ := List.mem_map.1 hx
    have h1 := mem_w (w := w145) (show l0.length + (l0.map w145).sum ≤ 1048576 by omega) hy
    have h2 : (c145 y).f2.size ≤ w145 y := by show y.f2.size ≤ _; unfold w145; omega
    omega
  have hs : ∃ r, Ev (fun k => spec_FreePages.f k a0 a1 a2 a3 (l0.map c145)) r ∧ Ev (fun k => impl_FreePages.f k a0 a1 a2 a3 (l0.map c145)) r := by
    unfold spec_FreePages.f impl_FreePages.f
    simp only [spec_geo, impl_geo, Option.bind_some]
    by_cases hG : geoB a0 a1 a2 a3 = true
    · simp only [if_pos hG]
      have hG' : 1 ≤ a0 ∧ a0 ≤ 3 ∧ 5 ≤ a1 ∧ a1 ≤ 12 ∧ 2 ≤ a2 ∧ a2 ≤ 6 ∧ 1 ≤ a3 ∧ a3 ≤ a1 - 4 := by simpa [geoB] using hG
      have hl : (l0.map c145).length ≤ 1048576 := by rw [List.length_map]; omega
      have hb := need_bounds (l0.map c145) 0 hsz (by omega)
      have e2 : wrap64 (a3 - (l0.map c145).foldl need 0) = a3 - (l0.map c145).foldl need 0 := w64 (by omega) (by omega)
      refine ⟨_, Ev.bind (spec_pages _ hl hsz) (Ev.bind (brought_ev _ _ _ (by omega)) (Ev.now _)), Ev.bind (impl_pages _ hl hsz) (ev_some fun _ => ?_)⟩
      rw [e2]
      congr 1
      unfold mx
      repeat' split
      all_goals omega
    · simp only [if_neg hG]
      exact ⟨_, Ev.now _, Ev.now _⟩
  obtain ⟨r, hs1, hs2⟩ := hs
  refine Ev.bind hg ?_
  refine Ev.bind hto ?_
  refine Ev.bind hs1 ?_
  refine Ev.bind hto ?_
  refine Ev.bind hg ?_
  refine Ev.bind hs2 ?_
  refine ev_pos rfl ?_
  refine Ev.bind hto ?_
  refine Ev.bind (eqView_eq (l0.map c145) (by have := cws145 l0; omega)) ?_
  exact ev_pos rfl (Ev.now _)
end Go.Proofs.Ytakelegiamdmaaa.Pure
