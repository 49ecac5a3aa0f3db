import Derived.Test.YtjjdjkkhhcbogaaGreatFG21
namespace Go.Proofs.YtjjdjkkhhcbogaaGreat.DM
set_option linter.unusedVariables false
set_option linter.unusedSimpArgs false
set_option maxRecDepth 4000
set_option maxHeartbeats 8000000
theorem rD_flat {α : Type} [Row α] (h : ∀ x : α, (Row.d x).all flatD = true) : ∀ l : List α, (rD l).all flatD = true
  | [] => rfl
  | x :: l => by rw [rD_cons, List.all_append, h x, rD_flat h l]; rfl
@[simp] theorem rD_flat_Int (l : List Int) : (rD l).all flatD = true := rD_flat (fun _ => rfl) l
@[simp] theorem rD_flat_BA (l : List ByteArray) : (rD l).all flatD = true := rD_flat (fun _ => rfl) l
@[simp] theorem rD_flat_Write (l : List Write) : (rD l).all flatD = true := rD_flat (fun _ => rfl) l
@[simp] theorem rD_flat_Step (l : List Step) : (rD l).all flatD = true := rD_flat (fun _ => rfl) l
@[simp] theorem rD_flat_Sealing (l : List Sealing) : (rD l).all flatD = true := rD_flat (fun _ => rfl) l
def resZ : Result := ⟨0, ByteArray.empty, 0, false, []⟩
def sysTen (s : System) (t : Int) : Bool := sysOk s && inB t 0 (s.Geo.Tenants - 1)
def jobNext (j : Job) (z : List Sealing) : Job := ⟨j.Ask, j.Result, j.Steps, z, j.At + 1, j.Busy, j.Mount⟩
def stepMid (s : System) (j : Job) : System × Job := match j.Steps[j.At.toNat]? with
  | some x => if x.Kind = 3 then (⟨s.Geo, stepM s.Memory x, s.Jobs, s.Seals ++ j.Seals⟩, jobNext j []) else (⟨s.Geo, stepM s.Memory x, s.Jobs, s.Seals⟩, jobNext j j.Seals)
  | none => (s, j)
def setJob (s : System) (t : Nat) (j : Job) : System := ⟨s.Geo, s.Memory, s.Jobs.set t j, s.Seals⟩
def stepEnd (p : System × Job) (t : Nat) : System × Result × Int := if p.2.At.toNat < p.2.Steps.length then (setJob p.1 t p.2, resZ, 0) else (setJob p.1 t jobZ, if p.2.Mount = true then resZ else p.2.Result, 1)
def stepJob (s : System) (t : Int) : System × Result × Int := if sysTen s t = true then (match s.Jobs[t.toNat]? with
  | some j => if j.Busy = true then stepEnd (stepMid s j) t.toNat else (s, resZ, 3)
  | none => (s, resZ, 3)) else (s, resZ, 15)
theorem sysOk_in {s : System} (h : sysOk s = true) : GeoIn s.Geo ∧ memOk s.Memory.Kept s.Memory.Cells = true ∧ (s.Jobs.length : Int) = s.Geo.Tenants ∧ ∀ j ∈ s.Jobs, 0 ≤ j.At ∧ j.At ≤ j.Steps.length := by
  simp only [sysOk, placed, Bool.and_eq_true, decide_eq_true_eq, List.all_eq_true] at h
  obtain ⟨⟨h1, h2, h3⟩, h4, h5⟩ := h
  exact ⟨geoIn h1, h2, h4, fun j hj => inB_iff.1 (h5 j hj)⟩
theorem sysTen_job {s : System} {t : Int} (h : sysTen s t = true) : ∃ (A : List Job) (j : Job) (B : List Job), s.Jobs = A ++ j :: B ∧ t = (A.length : Int) ∧ s.Jobs[t.toNat]? = some j := by
  simp only [sysTen, Bool.and_eq_true] at h
  obtain ⟨h1, h2⟩ := h
  obtain ⟨-, -, h3, -⟩ := sysOk_in h1
  have h4 := inB_iff.1 h2
  have hl : t.toNat < s.Jobs.length := by omega
  refine ⟨s.Jobs.take t.toNat, s.Jobs[t.toNat], s.Jobs.drop (t.toNat + 1), ?_, ?_, List.getElem?_eq_getElem hl⟩
  · rw [← List.drop_eq_getElem_cons hl, List.take_append_drop]
  · rw [List.length_take, Nat.min_eq_left (by omega)]; omega
theorem set_mid {α : Type} (A : List α) (x y : α) (B : List α) : (A ++ x :: B).set A.length y = A ++ y :: B := by
  rw [List.set_append_right _ _ (Nat.le_refl _), Nat.sub_self]; rfl
theorem rD_mid (A : List Job) (j : Job) (B : List Job) : rD (A ++ j :: B) = rD A ++ (Job.d j ++ rD B) := by rw [rD_append, rD_cons]; rfl

end Go.Proofs.YtjjdjkkhhcbogaaGreat.DM
