/-
  FnExactViewLines: the pure part: what the law computes is true, whatever the input.
-/
import Derived.Test.YtlpghmopabihoaaDoorFamFnExactViewLines
import Derived.Test.YtlpghmopabihoaaDoorKit2
namespace Go.Proofs.YtlpghmopabihoaaDoor.Pure
open Go.RowKit Go.Proofs.YtlpghmopabihoaaDoorW.PrintWords Go.Proofs.YtlpghmopabihoaaDoorW.PrintLast Go.Proofs.YtlpghmopabihoaaDoorW.PrintMore Go.Proofs.YtlpghmopabihoaaDoor.QFnExactViewLines Go.Proofs.YtlpghmopabihoaaDoor.Kit
set_option linter.unusedVariables false
set_option linter.unusedSimpArgs false

theorem fig_ev (d : Int) (h0 : 0 ≤ d) (h1 : d < 10) : spec_l01Figure.f d = some (48 + d) := by
  unfold spec_l01Figure.f
  rw [if_pos h1, w64 (by omega) (by omega)]
  congr 1
  omega
theorem num1 (d : Nat) : strOfNums [48 + (d : Int)] = ⟨[UInt8.ofNat (48 + d)].toArray⟩ := by
  refine ba_ext ?_
  rw [nums_data]
  have e : (48 + (d : Int)).toNat = 48 + d := by omega
  simp [e]
theorem dec_l (n : Nat) : ∀ (y : ByteArray), n ≠ 0 → y.size + n ≤ 9223372036854775807 → Ev (fun k => spec_Decimal.l0 k (n : Int) false y) ((⟨(Lib.decDigits n).toArray⟩ : ByteArray) ++ y) := by
  induction n using Nat.strongRecOn with
  | _ n ih =>
    intro y h0 h1
    have g0 : ¬ (n : Int) = 0 := by omega
    have g1 : Int.tmod (n : Int) 10 = ((n % 10 : Nat) : Int) := by rw [Int.tmod_eq_emod_of_nonneg (by omega)]; omega
    have g2 : Int.tdiv (n : Int) 10 = ((n / 10 : Nat) : Int) := by rw [Int.tdiv_eq_ediv_of_nonneg (by omega)]; omega
    have g3 : ¬ ((n % 10 : Nat) : Int) < 0 := by omega
    have g4 := fig_ev ((n % 10 : Nat) : Int) (by omega) (by omega)
    have g6 : (strOfNums [48 + ((n % 10 : Nat) : Int)]).size + y.size ≤ 9223372036854775807 := by rw [nums_size]; simp only [List.length_cons, List.length_nil]; omega
    have g7 : ((n / 10 : Nat) : Int) ≤ 9223372036854775807 := by omega
    have g5 : wrap64 ((n / 10 : Nat) : Int) = ((n / 10 : Nat) : Int) := w64 (by omega) g7
    refine ev_succ ?_
    simp only [spec_Decimal.l0, if_neg g0, g1, if_neg g3, g4, Option.bind_some, if_pos g6, g2, g5]
    rw [num1]
    by_cases hs : n < 10
    · have e : n / 10 = 0 := by omega
      refine ev_succ ?_
      simp only [spec_Decimal.l0, e, Int.ofNat_zero, Int.natCast_zero, if_true, Bool.false_eq_true, if_false]
      have e2 : n % 10 = n := by omega
      rw [Lib.decDigits, dif_pos hs, e2]
      exact Ev.now _
    · have hz : (⟨[UInt8.ofNat (48 + n % 10)].toArray⟩ : ByteArray).size = 1 := rfl
      have key := ih (n / 10) (by omega) ((⟨[UInt8.ofNat (48 + n % 10)].toArray⟩ : ByteArray) ++ y) (by omega) (by rw [ByteArray.size_append, hz]; omega)
      refine ev_eq key ?_
      conv => rhs; rw [Lib.decDigits, dif_neg hs]
      refine ba_ext ?_
      simp [ba_append]
theorem dec_ev (n : Int) (h0 : 0 ≤ n) (h1 : n ≤ 9223372036854775807) : Ev (fun k => spec_Decimal.f k n) (⟨(Lib.decDigits n.toNat).toArray⟩ : ByteArray) := by
  unfold spec_Decimal.f
  by_cases hz : n = 0
  · refine ev_pos hz ?_
    subst hz
    exact ev_eq (Ev.now _) (by rw [show (0 : Int).toNat = 0 from rfl, Lib.decDigits, dif_pos (by decide)]; rfl)
  · refine ev_neg hz ?_
    have e : ((n.toNat : Nat) : Int) = n := by omega
    have key := dec_l n.toNat (⟨#[]⟩ : ByteArray) (by omega) (by show 0 + _ ≤ _; omega)
    rw [e] at key
    have e2 : decide (n < 0) = false := decide_eq_false (by omega)
    simp only [e2]
    refine ev_eq key ?_
    refine ba_ext ?_
    simp [ba_append]

theorem now_of {α : Type} {g : Option α} {r : α} (h : g = some r) : Ev (fun _ => g) r := ⟨0, fun _ _ => h⟩
def D (n : Int) : ByteArray := ⟨(Lib.decDigits n.toNat).toArray⟩
theorem nd_le (u : Nat) : Lib.nDigits u ≤ u + 1 := by
  induction u using Nat.strongRecOn with
  | _ u ih =>
    by_cases h : u < 10
    · rw [Lib.nDigits_small h]; omega
    · rw [Lib.nDigits_big h]
      have := ih (u / 10) (by omega)
      omega
theorem D_size (n : Int) : (D n).size ≤ n.toNat + 1 := by
  have e : (D n).size = (Lib.decDigits n.toNat).length := by simp [D, ByteArray.size]
  rw [e, Lib.decDigits_length]
  exact nd_le _
theorem impl_dec (n : Int) (h0 : 0 ≤ n) (h1 : n ≤ 9223372036854775807) : impl_Decimal.f n = some (D n) := by
  unfold impl_Decimal.f strconv_Itoa.f
  rw [if_pos ⟨by omega, h1⟩]
  have e : Lib.itoa n = Lib.decDigits n.toNat := by unfold Lib.itoa; rw [if_neg (by omega)]
  rw [e]
  rfl

def vl (x : S62) : ByteArray := if x.f1 = true then x.f0 ++ (⟨#[47]⟩ : ByteArray) else (x.f0 ++ (⟨#[32]⟩ : ByteArray)) ++ D (x.f2.size : Int)
theorem spec_ViewLines_ev (xs : List S62) (hl : xs.length + (xs.map w62).sum ≤ 1048576) : Ev (fun k => spec_ViewLines.f k xs) (xs.flatMap fun x => [vl x]) := by
  refine collect_ev (xs := xs) (fun x => [vl x]) (fun a => by simp) (fun k y i => spec_ViewLines.l0 k y i xs) ?_ ?_
  · intro k y
    simp only [spec_ViewLines.l0, if_neg (Int.lt_irrefl _)]
  · intro y i a hget hlt hy r ih
    have hm : a ∈ xs := List.mem_of_getElem? hget
    have hw := mem_w (w := w62) hl hm
    have hw' : a.f0.size + (a.f2.size + 0) ≤ 1048576 := hw
    have f1 : (i : Int) < (xs.length : Int) := by omega
    have f2 : (0 : Int) ≤ (i : Int) := by omega
    have f3 : y.length < 8796093022208 := by omega
    have f4 : a.f0.size + 1 ≤ 9223372036854775807 := by omega
    have hd := D_size (a.f2.size : Int)
    have f5 : (a.f0 ++ (⟨#[32]⟩ : ByteArray)).size + (D (a.f2.size : Int)).size ≤ 9223372036854775807 := by rw [ByteArray.size_append, show (⟨#[32]⟩ : ByteArray).size = 1 from rfl]; omega
    have e1 : wrap64 ((i : Int) + 1) = (i : Int) + 1 := w64 (by omega) (by omega)
    have hr : rd_T62 xs (i : Int) = a := getD_get i a hget
    refine ev_succ ?_
    simp only [spec_ViewLines.l0, e1, hr, if_pos f1, if_pos f2, if_pos f3, if_pos f4]
    by_cases h : a.f1 = true
    · simp only [if_pos h]
      simpa only [vl, if_pos h] using ih
    · simp only [if_neg h]
      refine Ev.bind (show Ev (fun k => spec_Decimal.f k (a.f2.size : Int)) (D (a.f2.size : Int)) from dec_ev (a.f2.size : Int) (by omega) (by omega)) ?_
      refine ev_pos f5 ?_
      simpa only [vl, if_neg h] using ih
theorem impl_ViewLines_ev (xs : List S62) (hl : xs.length + (xs.map w62).sum ≤ 1048576) : Ev (fun k => impl_ViewLines.f k xs) (xs.flatMap fun x => [vl x]) := by
  refine collect_ev (xs := xs) (fun x => [vl x]) (fun a => by simp) (fun k y i => impl_ViewLines.l0 k y xs xs.length i) ?_ ?_
  · intro k y
    simp only [impl_ViewLines.l0, if_neg (Int.lt_irrefl _)]
  · intro y i a hget hlt hy r ih
    have hm : a ∈ xs := List.mem_of_getElem? hget
    have hw := mem_w (w := w62) hl hm
    have hw' : a.f0.size + (a.f2.size + 0) ≤ 1048576 := hw
    have f1 : (i : Int) < (xs.length : Int) := by omega
    have f2 : (0 : Int) ≤ (i : Int) := by omega
    have f3 : y.length < 8796093022208 := by omega
    have f4 : a.f0.size + 1 ≤ 9223372036854775807 := by omega
    have hd := D_size (a.f2.size : Int)
    have f5 : (a.f0 ++ (⟨#[32]⟩ : ByteArray)).size + (D (a.f2.size : Int)).size ≤ 9223372036854775807 := by rw [ByteArray.size_append, show (⟨#[32]⟩ : ByteArray).size = 1 from rfl]; omega
    have e1 : wrap64 ((i : Int) + 1) = (i : Int) + 1 := w64 (by omega) (by omega)
    have hr : rd_T62 xs (i : Int) = a := getD_get i a hget
    refine ev_succ ?_
    simp only [impl_ViewLines.l0, e1, hr, if_pos f1, if_pos f2, if_pos f3, if_pos f4]
    by_cases h : a.f1 = true
    · simp only [if_pos h]
      simpa only [vl, if_pos h] using ih
    · simp only [if_neg h]
      refine Ev.bind (now_of (impl_dec (a.f2.size : Int) (by omega) (by omega))) ?_
      refine ev_pos f5 ?_
      simpa only [vl, if_neg h] using ih

theorem eqs (l : List ByteArray) (h : l.length ≤ 1048576) : Ev (fun k => laws_eqStringS.f k l l) true := by
  have H := eq_list1 (l := l) (L0 := laws_eqStringS.l0) (c := fun b : ByteArray => b.toList) (rd := rdOf ByteArray.empty) (fun _ _ _ _ => rfl) rdOf_get (by omega)
  exact H
theorem FnExactViewLines : Go.Proofs.YtlpghmopabihoaaDoor.QFnExactViewLines.Stated := by
  intro l0 y0
  unfold laws_FnExactViewLines.f
  refine Ev.rounds (Ev.bind (szView_sz l0 y0 1048576 (by decide) (by decide)) ?_)
  refine (Classical.em _).elim (fun hc => ev_pos hc (Ev.now _)) (fun hc => ev_neg hc ?_)
  have hW := szv_nonneg hc
  have hto := toView_to l0 (by omega)
  have hW' : (l0.map c80).length + ((l0.map c80).map w62).sum ≤ 1048576 := by rw [cws80]; omega
  have hs := spec_ViewLines_ev (l0.map c80) hW'
  have hi := impl_ViewLines_ev (l0.map c80) hW'
  have hlen : ((l0.map c80).flatMap fun x => [vl x]).length ≤ 1048576 := by
    have : ∀ l : List S62, (l.flatMap fun x => [vl x]).length = l.length := by
      intro l
      induction l with
      | nil => rfl
      | cons a l ih => simp only [List.flatMap_cons, List.length_append, List.length_cons, List.length_nil, ih]; omega
    rw [this]; omega
  generalize ((l0.map c80).flatMap fun x => [vl x]) = z at hs hi hlen
  have heW := eqs z hlen
  have hmk : Ev (fun k => laws_markView.f k (l0.map c80) 1) (1 + ((((l0.map c80).map fun _ => (3 : Nat)).sum : Nat) : Int), markAll mkItemS (fun _ => 3) 1 (l0.map c80)) := by
    unfold laws_markView.f
    exact Ev.bind (markItemS_mk (l0.map c80) (by omega)) (Ev.now _)
  have hmk2 := markStringS_mk z hlen
  have hhd := heldStringS_hd z hlen
  refine Ev.bind hto ?_
  refine Ev.bind hs ?_
  refine Ev.bind hto ?_
  refine Ev.bind hi ?_
  refine Ev.bind heW ?_
  refine ev_pos rfl ?_
  refine Ev.bind hto ?_
  refine Ev.bind (eqView_eq (l0.map c80) (by omega)) ?_
  refine ev_pos rfl ?_
  refine Ev.bind hmk ?_
  refine ev_neg (by omega) ?_
  refine Ev.bind heW ?_
  refine ev_succ ?_
  simp only [laws_FnExactViewLines.j0, Bool.not_true, Bool.false_eq_true, if_false]
  refine Ev.bind hmk2 ?_
  refine Ev.bind hhd ?_
  refine ev_neg (by omega) ?_
  refine ev_pos rfl ?_
  refine Ev.bind hto ?_
  refine Ev.bind hi ?_
  refine Ev.bind heW ?_
  refine ev_pos rfl ?_
  refine Ev.bind hhd ?_
  refine ev_neg (by omega) ?_
  exact ev_pos rfl (Ev.now _)
end Go.Proofs.YtlpghmopabihoaaDoor.Pure
