/-
  FnExactGeoLine: the pure part: what the law computes is true, whatever the input.
-/
import Derived.Test.YtklghegofjigoaaDoorOpenFnExactGeoLine
import Derived.Test.YtklghegofjigoaaDoorKit2
namespace Go.Proofs.YtklghegofjigoaaDoor.Pure
open Go.RowKit Go.Proofs.YtklghegofjigoaaDoorW.PrintWords Go.Proofs.YtklghegofjigoaaDoorW.PrintLast Go.Proofs.YtklghegofjigoaaDoorW.PrintMore Go.Proofs.YtklghegofjigoaaDoor.QFnExactGeoLine Go.Proofs.YtklghegofjigoaaDoor.Kit
set_option linter.unusedVariables false
set_option linter.unusedSimpArgs false

theorem fig_ev (d : Int) (h0 : 0 ≤ d) (h1 : d < 10) : spec_l01Figure.f d = some (48 + d) := by
  unfold spec_l01Figure.f
  rw [if_pos h1, w64 (by omega) (by omega)]
  congr 1
  omega
theorem num1 (d : Nat) : strOfNums [48 + (d : Int)] = ⟨[UInt8.ofNat (48 + d)].toArray⟩ := by
  refine ba_ext ?_
  rw [nums_data]
  have e : (48 + (d : Int)).toNat = 48 + d := by omega
  simp [e]
theorem dec_l (n : Nat) : ∀ (y : ByteArray), n ≠ 0 → y.size + n ≤ 9223372036854775807 → Ev (fun k => spec_Decimal.l0 k (n : Int) false y) ((⟨(Lib.decDigits n).toArray⟩ : ByteArray) ++ y) := by
  induction n using Nat.strongRecOn with
  | _ n ih =>
    intro y h0 h1
    have g0 : ¬ (n : Int) = 0 := by omega
    have g1 : Int.tmod (n : Int) 10 = ((n % 10 : Nat) : Int) := by rw [Int.tmod_eq_emod_of_nonneg (by omega)]; omega
    have g2 : Int.tdiv (n : Int) 10 = ((n / 10 : Nat) : Int) := by rw [Int.tdiv_eq_ediv_of_nonneg (by omega)]; omega
    have g3 : ¬ ((n % 10 : Nat) : Int) < 0 := by omega
    have g4 := fig_ev ((n % 10 : Nat) : Int) (by omega) (by omega)
    have g6 : (strOfNums [48 + ((n % 10 : Nat) : Int)]).size + y.size ≤ 9223372036854775807 := by rw [nums_size]; simp only [List.length_cons, List.length_nil]; omega
    have g7 : ((n / 10 : Nat) : Int) ≤ 9223372036854775807 := by omega
    have g5 : wrap64 ((n / 10 : Nat) : Int) = ((n / 10 : Nat) : Int) := w64 (by omega) g7
    refine ev_succ ?_
    simp only [spec_Decimal.l0, if_neg g0, g1, if_neg g3, g4, Option.bind_some, if_pos g6, g2, g5]
    rw [num1]
    by_cases hs : n < 10
    · have e : n / 10 = 0 := by omega
      refine ev_succ ?_
      simp only [spec_Decimal.l0, e, Int.ofNat_zero, Int.natCast_zero, if_true, Bool.false_eq_true, if_false]
      have e2 : n % 10 = n := by omega
      rw [Lib.decDigits, dif_pos hs, e2]
      exact Ev.now _
    · have hz : (⟨[UInt8.ofNat (48 + n % 10)].toArray⟩ : ByteArray).size = 1 := rfl
      have key := ih (n / 10) (by omega) ((⟨[UInt8.ofNat (48 + n % 10)].toArray⟩ : ByteArray) ++ y) (by omega) (by rw [ByteArray.size_append, hz]; omega)
      refine ev_eq key ?_
      conv => rhs; rw [Lib.decDigits, dif_neg hs]
      refine ba_ext ?_
      simp [ba_append]
theorem dec_ev (n : Int) (h0 : 0 ≤ n) (h1 : n ≤ 9223372036854775807) : Ev (fun k => spec_Decimal.f k n) (⟨(Lib.decDigits n.toNat).toArray⟩ : ByteArray) := by
  unfold spec_Decimal.f
  by_cases hz : n = 0
  · refine ev_pos hz ?_
    subst hz
    exact ev_eq (Ev.now _) (by rw [show (0 : Int).toNat = 0 from rfl, Lib.decDigits, dif_pos (by decide)]; rfl)
  · refine ev_neg hz ?_
    have e : ((n.toNat : Nat) : Int) = n := by omega
    have key := dec_l n.toNat (⟨#[]⟩ : ByteArray) (by omega) (by show 0 + _ ≤ _; omega)
    rw [e] at key
    have e2 : decide (n < 0) = false := decide_eq_false (by omega)
    simp only [e2]
    refine ev_eq key ?_
    refine ba_ext ?_
    simp [ba_append]
def geoB (t p i q : Int) : Bool := decide (1 ≤ t ∧ t ≤ 3 ∧ 5 ≤ p ∧ p ≤ 12 ∧ 2 ≤ i ∧ i ≤ 6 ∧ 1 ≤ q ∧ q ≤ p - 4)
theorem in_ev (a b c : Int) : spec_l01In.f a b c = some (decide (b ≤ a ∧ a ≤ c)) := by
  unfold spec_l01In.f
  split <;> simp <;> omega
theorem within_ev (a b c : Int) : impl_within.f a b c = some (decide (b ≤ a ∧ a ≤ c)) := by
  unfold impl_within.f
  split <;> simp <;> omega
theorem spec_geo (t p i q : Int) : spec_GeoOk.f t p i q = some (geoB t p i q) := by
  unfold spec_GeoOk.f geoB
  simp only [in_ev, Option.bind_some, decide_eq_true_eq]
  by_cases h1 : 1 ≤ t ∧ t ≤ 3
  · by_cases h2 : 5 ≤ p ∧ p ≤ 12
    · have e : wrap64 (p - 4) = p - 4 := w64 (by omega) (by omega)
      by_cases h3 : 2 ≤ i ∧ i ≤ 6
      · simp only [if_pos h1, if_pos h2, if_pos h3, e]
        congr 1
        simp only [decide_eq_decide]
        omega
      · simp only [if_pos h1, if_pos h2, if_neg h3]
        symm; congr 1; simp only [decide_eq_false_iff_not]; omega
    · simp only [if_pos h1, if_neg h2]
      symm; congr 1; simp only [decide_eq_false_iff_not]; omega
  · simp only [if_neg h1]
    symm; congr 1; simp only [decide_eq_false_iff_not]; omega
theorem impl_geo (t p i q : Int) : impl_GeoOk.f t p i q = some (geoB t p i q) := by
  rw [← spec_geo]
  unfold spec_GeoOk.f impl_GeoOk.f
  simp only [in_ev, within_ev]

theorem now_of {α : Type} {g : Option α} {r : α} (h : g = some r) : Ev (fun _ => g) r := ⟨0, fun _ _ => h⟩
def D (n : Int) : ByteArray := ⟨(Lib.decDigits n.toNat).toArray⟩
theorem D_size (n : Int) (h : n < 100) : (D n).size ≤ 2 := by
  have e : (D n).size = (Lib.decDigits n.toNat).length := by simp [D, ByteArray.size]
  rw [e]
  by_cases h1 : n.toNat < 10
  · rw [Lib.decDigits_one h1]; simp
  · rw [Lib.decDigits_two h1 (by omega)]; simp
theorem impl_dec (n : Int) (h0 : 0 ≤ n) (h1 : n < 100) : impl_Decimal.f n = some (D n) := by
  unfold impl_Decimal.f strconv_Itoa.f
  rw [if_pos ⟨h0, h1⟩]
  rfl
theorem core (a0 a1 a2 a3 : Int) : ∃ r, Ev (fun k => spec_GeoLine.f k a0 a1 a2 a3) r ∧ impl_GeoLine.f a0 a1 a2 a3 = some r := by
  unfold spec_GeoLine.f impl_GeoLine.f
  simp only [spec_geo, impl_geo, Option.bind_some]
  by_cases hg : geoB a0 a1 a2 a3 = true
  · have hb : 1 ≤ a0 ∧ a0 ≤ 3 ∧ 5 ≤ a1 ∧ a1 ≤ 12 ∧ 2 ≤ a2 ∧ a2 ≤ 6 ∧ 1 ≤ a3 ∧ a3 ≤ a1 - 4 := by simpa [geoB] using hg
    have d0 : Ev (fun k => spec_Decimal.f k a0) (D a0) := dec_ev a0 (by omega) (by omega)
    have d1 : Ev (fun k => spec_Decimal.f k a1) (D a1) := dec_ev a1 (by omega) (by omega)
    have d2 : Ev (fun k => spec_Decimal.f k a2) (D a2) := dec_ev a2 (by omega) (by omega)
    have d3 : Ev (fun k => spec_Decimal.f k a3) (D a3) := dec_ev a3 (by omega) (by omega)
    have s0 := D_size a0 (by omega)
    have s1 := D_size a1 (by omega)
    have s2 := D_size a2 (by omega)
    have s3 := D_size a3 (by omega)
    have l4 : (⟨#[103, 101, 111, 32]⟩ : ByteArray).size = 4 := rfl
    have l1 : (⟨#[32]⟩ : ByteArray).size = 1 := rfl
    have p1 : 4 + (D a0).size ≤ 9223372036854775807 := by omega
    have p2 : ((⟨#[103, 101, 111, 32]⟩ : ByteArray) ++ D a0).size + 1 ≤ 9223372036854775807 := by simp only [ByteArray.size_append, l4, l1]; omega
    have p3 : (((⟨#[103, 101, 111, 32]⟩ : ByteArray) ++ D a0) ++ (⟨#[32]⟩ : ByteArray)).size + (D a1).size ≤ 9223372036854775807 := by simp only [ByteArray.size_append, l4, l1]; omega
    have p4 : ((((⟨#[103, 101, 111, 32]⟩ : ByteArray) ++ D a0) ++ (⟨#[32]⟩ : ByteArray)) ++ D a1).size + 1 ≤ 9223372036854775807 := by simp only [ByteArray.size_append, l4, l1]; omega
    have p5 : (((((⟨#[103, 101, 111, 32]⟩ : ByteArray) ++ D a0) ++ (⟨#[32]⟩ : ByteArray)) ++ D a1) ++ (⟨#[32]⟩ : ByteArray)).size + (D a2).size ≤ 9223372036854775807 := by simp only [ByteArray.size_append, l4, l1]; omega
    have p6 : ((((((⟨#[103, 101, 111, 32]⟩ : ByteArray) ++ D a0) ++ (⟨#[32]⟩ : ByteArray)) ++ D a1) ++ (⟨#[32]⟩ : ByteArray)) ++ D a2).size + 1 ≤ 9223372036854775807 := by simp only [ByteArray.size_append, l4, l1]; omega
    have p7 : (((((((⟨#[103, 101, 111, 32]⟩ : ByteArray) ++ D a0) ++ (⟨#[32]⟩ : ByteArray)) ++ D a1) ++ (⟨#[32]⟩ : ByteArray)) ++ D a2) ++ (⟨#[32]⟩ : ByteArray)).size + (D a3).size ≤ 9223372036854775807 := by simp only [ByteArray.size_append, l4, l1]; omega
    refine ⟨_, ev_pos hg (Ev.bind d0 (ev_pos p1 (ev_pos p2 (Ev.bind d1 (ev_pos p3 (ev_pos p4 (Ev.bind d2 (ev_pos p5 (ev_pos p6 (Ev.bind d3 (ev_pos p7 (Ev.now _)))))))))))), ?_⟩
    simp only [if_pos hg, impl_dec a0 (by omega) (by omega), impl_dec a1 (by omega) (by omega), impl_dec a2 (by omega) (by omega), impl_dec a3 (by omega) (by omega), Option.bind_some, if_pos p1, if_pos p2, if_pos p3, if_pos p4, if_pos p5, if_pos p6, if_pos p7]
  · exact ⟨_, ev_neg hg (Ev.now _), if_neg hg⟩
theorem FnExactGeoLine : Go.Proofs.YtklghegofjigoaaDoor.QFnExactGeoLine.Stated := by
  intro a0 a1 a2 a3 y0 y1 y2 y3
  refine Ev.rounds ?_
  unfold laws_FnExactGeoLine.f
  obtain ⟨r, h1, h2⟩ := core a0 a1 a2 a3
  refine Ev.bind (now_of (r := (a0, a1, a2, a3)) rfl) (Ev.bind h1 (Ev.bind (now_of (r := (a0, a1, a2, a3)) rfl) (Ev.bind (now_of h2) ?_)))
  exact ev_pos rfl (Ev.now _)
end Go.Proofs.YtklghegofjigoaaDoor.Pure
