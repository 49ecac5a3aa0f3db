import Derived.Test.YtjjdjkkhhcbogaaGreatFG27
import Derived.Test.YtjjdjkkhhcbogaaGreatFG26
namespace Go.Proofs.YtjjdjkkhhcbogaaGreat.DM
set_option linter.unusedVariables false
set_option linter.unusedSimpArgs false
set_option maxRecDepth 4000
set_option maxHeartbeats 8000000
theorem specStepJob_spec (S : System) (t : Int) (hS : Row.sz S ≤ 2 ^ 36) : Spec Tryz.prog 35 [raSystem S, ri t] [some 8, some 5, none] (System.d (stepJob S t).1 ++ (Result.d (stepJob S t).2.1 ++ [di (stepJob S t).2.2])) [raSystem S, ri t] := by
  rcases Bool.eq_false_or_eq_true (sysTen S t) with ht | hn
  · obtain ⟨A, j, B, hJ, hjA, hjt⟩ := sysTen_job ht
    rcases Bool.eq_false_or_eq_true j.Busy with hb | hb
    · exact specStepBusy S t hS ht (fun j' h' => by rw [hjt] at h'; obtain rfl := Option.some.inj h'; exact hb)
    · exact specStepIdle S t hS ht (fun j' h' => by rw [hjt] at h'; obtain rfl := Option.some.inj h'; exact hb)
  · exact specStepBad S t hS hn
theorem szL_cells' (n : Nat) : ∀ l : List Cell, (∀ c ∈ l, fitsC n c) → szL l = 17 * l.length
  | [], _ => rfl
  | c :: l, h => by
    have := szL_cells' n l fun c' hc' => h c' (List.mem_cons_of_mem _ hc')
    have h1 := (h c List.mem_cons_self).2.2
    simp only [szL, this, List.length_cons, Cell_sz, h1]; omega
theorem stepM_sz1 {m : Memory} (h : memOk m.Kept m.Cells = true) (s : Step) : Row.sz (stepM m s) ≤ Row.sz m + 17 := by
  have hb := stepM_bd m s
  have h1 := szL_cells' _ _ (memOk_fits (stepM_ok h s))
  have h2 := szL_cells' _ _ (memOk_fits h)
  rw [Memory_sz, Memory_sz, h1, h2]; omega
theorem sysTen_set {s : System} {A B : List Job} {j y : Job} {t : Int} (h : sysTen s t = true) (hJ : s.Jobs = A ++ j :: B) {m : Memory} (hm : memOk m.Kept m.Cells = true) (hk : m.Kept.size = s.Memory.Kept.size) (hy : atOk y = true) (Z : List Sealing) : sysTen ⟨s.Geo, m, A ++ y :: B, Z⟩ t = true := by
  simp only [sysTen, sysOk, placed, Bool.and_eq_true, decide_eq_true_eq, hJ, List.all_append, List.all_cons, List.length_append, List.length_cons] at h ⊢
  obtain ⟨⟨⟨h1, h2, h3⟩, h4, h5, h6, h7⟩, h8⟩ := h
  exact ⟨⟨⟨h1, hm, by rw [hk]; exact h3⟩, h4, h5, hy, h7⟩, h8⟩
/-- What a step of a job keeps. -/
def StepKeeps (s : System) (t : Int) (j : Job) (p : System × Result × Int) : Prop :=
  sysTen p.1 t = true ∧ Row.sz p.1 ≤ Row.sz s + 17 ∧ Row.sz p.2.1 ≤ Row.sz s ∧ ∃ y, p.1.Jobs[t.toNat]? = some y ∧ (y.Busy = true → y.Steps.length - y.At.toNat < j.Steps.length - j.At.toNat)
theorem keeps_fin {s : System} {A B : List Job} {j y : Job} (h : sysTen s A.length = true) (hJ : s.Jobs = A ++ j :: B) {m : Memory} {Z : List Sealing} {r : Result} {c : Int} (hm : memOk m.Kept m.Cells = true) (hk : m.Kept.size = s.Memory.Kept.size) (hmz : Row.sz m ≤ Row.sz s.Memory + 17)
    (hy : atOk y = true) (hzy : szL Z + Row.sz y ≤ szL s.Seals + Row.sz j) (hr : Row.sz r ≤ Row.sz j) (hb : y.Busy = true → y.Steps.length - y.At.toNat < j.Steps.length - j.At.toNat) : StepKeeps s A.length j (setJob ⟨s.Geo, m, s.Jobs, Z⟩ A.length y, r, c) := by
  have hs : setJob ⟨s.Geo, m, s.Jobs, Z⟩ A.length y = ⟨s.Geo, m, A ++ y :: B, Z⟩ := by simp only [setJob, hJ, set_mid]
  have hJz : szL s.Jobs = szL A + (1 + Row.sz j + szL B) := by rw [hJ, szL_append]; rfl
  have hJy : szL (A ++ y :: B) = szL A + (1 + Row.sz y + szL B) := by rw [szL_append]; rfl
  unfold StepKeeps
  rw [hs]
  refine ⟨sysTen_set h hJ hm hk hy Z, ?_, ?_, y, by simp, hb⟩
  · rw [System_sz, System_sz]; simp only [hJz, hJy]; omega
  · rw [System_sz, hJz]; simp only; omega
theorem step_facts {s : System} {t : Int} (h : sysTen s t = true) {j : Job} (hj : s.Jobs[t.toNat]? = some j) : StepKeeps s t j (stepEnd (stepMid s j) t.toNat) := by
  obtain ⟨A, j0, B, hJ, rfl, hjt⟩ := sysTen_job h
  obtain rfl : j0 = j := Option.some.inj (hjt.symm.trans hj)
  have hok := h
  simp only [sysTen, Bool.and_eq_true] at hok
  obtain ⟨hgi, hmo, hjl, hjo⟩ := sysOk_in hok.1
  have hin := hjo j0 (by rw [hJ]; simp)
  have hZ0 : Row.sz jobZ = 0 := by simp [jobZ, Job_sz, Ask_sz, Result_sz, szL]
  have hR0 : Row.sz resZ = 0 := by simp [resZ, Result_sz, szL]
  have hjz := Job_sz j0
  have hres : Row.sz (if j0.Mount = true then resZ else j0.Result) ≤ Row.sz j0 := by split <;> omega
  have hzat : atOk jobZ = true := by simp [atOk, jobZ, inB]
  rw [Int.toNat_natCast]
  unfold stepMid
  cases hx : j0.Steps[j0.At.toNat]? with
  | none =>
    have hge : j0.Steps.length ≤ j0.At.toNat := List.getElem?_eq_none_iff.1 hx
    simp only [stepEnd]
    rw [if_neg (by omega)]
    exact keeps_fin h hJ hmo rfl (by omega) hzat (by omega) hres (fun h => by cases h)
  | some x =>
    have hlt : j0.At.toNat < j0.Steps.length := (List.getElem?_eq_some_iff.1 hx).1
    have hm1 := stepM_ok hmo x
    have hm2 := (stepM_bd s.Memory x).1
    have hm3 := stepM_sz1 hmo x
    have ha1 : (j0.At + 1).toNat = j0.At.toNat + 1 := by omega
    by_cases hk : x.Kind = 3
    · simp only [if_pos hk, stepEnd, jobNext, ha1]
      by_cases hl : j0.At.toNat + 1 < j0.Steps.length
      · rw [if_pos hl]
        refine keeps_fin h hJ hm1 hm2 hm3 (by simp [atOk, inB]; omega) (by rw [szL_append, Job_sz]; simp [szL]; omega) (by omega) (fun _ => by simp only; omega)
      · rw [if_neg hl]
        exact keeps_fin h hJ hm1 hm2 hm3 hzat (by rw [szL_append]; omega) hres (fun h => by cases h)
    · simp only [if_neg hk, stepEnd, jobNext, ha1]
      by_cases hl : j0.At.toNat + 1 < j0.Steps.length
      · rw [if_pos hl]
        refine keeps_fin h hJ hm1 hm2 hm3 (by simp [atOk, inB]; omega) (by rw [Job_sz]; simp only; omega) (by omega) (fun _ => by simp only; omega)
      · rw [if_neg hl]
        exact keeps_fin h hJ hm1 hm2 hm3 hzat (by omega) hres (fun h => by cases h)
/-- Is the job of a tenant busy; how many steps it has left. -/
def busyAt (s : System) (t : Int) : Bool := match s.Jobs[t.toNat]? with
  | some j => j.Busy
  | none => false
def leftAt (s : System) (t : Int) : Nat := match s.Jobs[t.toNat]? with
  | some j => if j.Busy = true then j.Steps.length - j.At.toNat + 1 else 0
  | none => 0
def runL : Nat → System → Int → Result → System × Result
  | 0, s, _, r => (s, r)
  | n + 1, s, t, r => if busyAt s t = true then runL n (stepJob s t).1 t (stepJob s t).2.1 else (s, r)
def runJob (s : System) (t : Int) : System × Result := if sysTen s t = true then runL (leftAt s t) s t resZ else (s, resZ)
theorem stepJob_busy {s : System} {t : Int} (h : sysTen s t = true) (hb : busyAt s t = true) : ∃ j, s.Jobs[t.toNat]? = some j ∧ j.Busy = true ∧ stepJob s t = stepEnd (stepMid s j) t.toNat := by
  obtain ⟨A, j, B, hJ, rfl, hjt⟩ := sysTen_job h
  have hjt' : s.Jobs[A.length]? = some j := by simpa using hjt
  have hbz : j.Busy = true := by simpa [busyAt, hjt'] using hb
  refine ⟨j, hjt, hbz, ?_⟩
  unfold stepJob
  rw [if_pos h, hjt]
  simp [hbz]
theorem step_run {s : System} {t : Int} (h : sysTen s t = true) (hb : busyAt s t = true) : sysTen (stepJob s t).1 t = true ∧ Row.sz (stepJob s t).1 ≤ Row.sz s + 17 ∧ Row.sz (stepJob s t).2.1 ≤ Row.sz s ∧ leftAt (stepJob s t).1 t < leftAt s t := by
  obtain ⟨j, hj, hbz, e⟩ := stepJob_busy h hb
  obtain ⟨h1, h2, h3, y, hy, h4⟩ := step_facts h hj
  rw [e]
  refine ⟨h1, h2, h3, ?_⟩
  simp only [leftAt, hy, hj, if_pos hbz]
  by_cases hyb : y.Busy = true
  · rw [if_pos hyb]; have := h4 hyb; omega
  · rw [if_neg hyb]; omega
theorem stepJob_sz (s : System) (t : Int) : Row.sz (stepJob s t).1 ≤ Row.sz s + 17 ∧ Row.sz (stepJob s t).2.1 ≤ Row.sz s := by
  have hR0 : Row.sz resZ = 0 := by simp [resZ, Result_sz, szL]
  by_cases h : sysTen s t = true
  · by_cases hb : busyAt s t = true
    · exact ⟨(step_run h hb).2.1, (step_run h hb).2.2.1⟩
    · obtain ⟨A, j, B, hJ, rfl, hjt⟩ := sysTen_job h
      have hjt' : s.Jobs[A.length]? = some j := by simpa using hjt
      have hbz : j.Busy = false := by simpa [busyAt, hjt'] using hb
      have e : stepJob s A.length = (s, resZ, 3) := by
        unfold stepJob
        rw [if_pos h, hjt]
        simp [hbz]
      rw [e]; simp only; omega
  · have e : stepJob s t = (s, resZ, 15) := by unfold stepJob; rw [if_neg h]
    rw [e]; simp only; omega
theorem runL_sz : ∀ (n : Nat) (s : System) (t : Int) (r : Result) (B : Nat), sysTen s t = true → Row.sz s + 17 * n ≤ B → Row.sz r ≤ B → Row.sz (runL n s t r).1 ≤ B ∧ Row.sz (runL n s t r).2 ≤ B
  | 0, s, t, r, B, h, hs, hr => ⟨by simpa [runL] using hs, hr⟩
  | n + 1, s, t, r, B, h, hs, hr => by
    unfold runL
    split
    · rename_i hb
      obtain ⟨h1, h2, h3, -⟩ := step_run h hb
      exact runL_sz n _ t _ B h1 (by omega) (by omega)
    · exact ⟨by simp only; omega, hr⟩
theorem leftAt_le (s : System) (t : Int) : leftAt s t ≤ Row.sz s + 1 := by
  unfold leftAt
  cases hj : s.Jobs[t.toNat]? with
  | none => simp only; omega
  | some j =>
    simp only
    have hl := (List.getElem?_eq_some_iff.1 hj).1
    have he := (List.getElem?_eq_some_iff.1 hj).2
    have h1 := szL_at s.Jobs t.toNat hl
    rw [he] at h1
    have h2 := Job_sz j
    have h3 := szL_len j.Steps
    have h4 := System_sz s
    split <;> omega
theorem runJob_sz (s : System) (t : Int) : Row.sz (runJob s t).1 ≤ 20 * Row.sz s + 40 ∧ Row.sz (runJob s t).2 ≤ 20 * Row.sz s + 40 := by
  have hR0 : Row.sz resZ = 0 := by simp [resZ, Result_sz, szL]
  have hl := leftAt_le s t
  unfold runJob
  split
  · rename_i h
    exact runL_sz _ s t resZ _ h (by omega) (by omega)
  · simp only; omega
end Go.Proofs.YtjjdjkkhhcbogaaGreat.DM
