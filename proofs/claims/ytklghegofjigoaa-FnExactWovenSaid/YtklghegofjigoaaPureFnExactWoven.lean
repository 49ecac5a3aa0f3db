/-
  FnExactWoven: the pure part: what the law computes is true, whatever the input.
-/
import Derived.Test.YtklghegofjigoaaFamFnExactWoven
import Derived.Test.YtklghegofjigoaaKit
namespace Go.Proofs.Ytklghegofjigoaa.Pure
open Go.RowKit Go.Proofs.YtklghegofjigoaaW.PrintWords Go.Proofs.YtklghegofjigoaaW.PrintLast Go.Proofs.YtklghegofjigoaaW.PrintMore Go.Proofs.Ytklghegofjigoaa.QFnExactWoven Go.Proofs.Ytklghegofjigoaa.Kit
set_option linter.unusedVariables false
set_option linter.unusedSimpArgs false

def od (ps : List Int) (i : Nat) : Bool := decide (i < ps.length) && !(decide (Int.tmod (rd ps (i : Int)) 2 = 0))
def wv (ps : List Int) : Nat → List S33 → List S33 → Nat → List S33
  | 0, _, _, _ => []
  | _ + 1, [], [], _ => []
  | n + 1, [], b :: y, i => b :: wv ps n [] y (i + 1)
  | n + 1, a :: x, [], i => a :: wv ps n x [] (i + 1)
  | n + 1, a :: x, b :: y, i => if od ps i then b :: wv ps n (a :: x) y (i + 1) else a :: wv ps n x (b :: y) (i + 1)
theorem wv_len (ps : List Int) : ∀ n x y i, (wv ps n x y i).length ≤ x.length + y.length := by
  intro n
  induction n with
  | zero => intro x y i; simp [wv]
  | succ n ih =>
    intro x y i
    match x, y with
    | [], [] => simp [wv]
    | [], b :: y => have := ih [] y (i + 1); simp [wv] at this ⊢; omega
    | a :: x, [] => have := ih x [] (i + 1); simp [wv] at this ⊢; omega
    | a :: x, b :: y =>
      have h1 := ih (a :: x) y (i + 1)
      have h2 := ih x (b :: y) (i + 1)
      unfold wv
      split
      · simp at h1 ⊢; omega
      · simp at h2 ⊢; omega
theorem wv_w (ps : List Int) : ∀ n x y i, ((wv ps n x y i).map w33).sum ≤ (x.map w33).sum + (y.map w33).sum := by
  intro n
  induction n with
  | zero => intro x y i; simp [wv]
  | succ n ih =>
    intro x y i
    match x, y with
    | [], [] => simp [wv]
    | [], b :: y => have := ih [] y (i + 1); simp [wv] at this ⊢; omega
    | a :: x, [] => have := ih x [] (i + 1); simp [wv] at this ⊢; omega
    | a :: x, b :: y =>
      have h1 := ih (a :: x) y (i + 1)
      have h2 := ih x (b :: y) (i + 1)
      unfold wv
      split
      · simp at h1 ⊢; omega
      · simp at h2 ⊢; omega
theorem impl_w (ps : List Int) : ∀ n x y out (i : Nat), x.length + y.length ≤ n → n + i ≤ 4194304 → out.length ≤ i → Ev (fun k => impl_Woven.l0 k x y ps out (i : Int)) (out ++ wv ps n x y i) := by
  intro n
  induction n with
  | zero =>
    intro x y out i hn hi ho
    have hx : x = [] := List.length_eq_zero_iff.1 (by omega)
    have hy : y = [] := List.length_eq_zero_iff.1 (by omega)
    subst hx hy
    refine ev_succ ?_
    have e0 : wrap64 ((([] : List S33).length : Int) + (([] : List S33).length : Int)) = 0 := w64 (x := (0 : Int)) (by decide) (by decide)
    simp only [impl_Woven.l0, e0]
    refine ev_neg (by decide) ?_
    rw [wv, List.append_nil]
    exact Ev.now _
  | succ n ih =>
    intro x y out i hn hi ho
    have g2 : (0 : Int) ≤ (i : Int) := by omega
    have g6 : out.length < 1466015503701 := by omega
    match x, y, hn with
    | [], [], _ =>
      refine ev_succ ?_
      have e0 : wrap64 ((([] : List S33).length : Int) + (([] : List S33).length : Int)) = 0 := w64 (x := (0 : Int)) (by decide) (by decide)
      simp only [impl_Woven.l0, e0]
      refine ev_neg (by decide) ?_
      rw [wv, List.append_nil]
      exact Ev.now _
    | [], b :: y, hn =>
      have hl : (([] : List S33).length : Int) = 0 := rfl
      have g4 : (0 : Int) < ((b :: y).length : Int) := by rw [List.length_cons]; omega
      have g5 : (1 : Int) ≤ ((b :: y).length : Int) := by omega
      have hr : rd_T33 (b :: y) 0 = b := rfl
      have hd : (b :: y).drop 1 = y := rfl
      have key := ih [] y (out ++ [b]) (i + 1) (by simp at hn ⊢; omega) (by omega) (by simp; omega)
      have hb : (b :: y).length ≤ 4194304 := by simp at hn ⊢; omega
      have e1 : wrap64 ((i : Int) + 1) = ((i + 1 : Nat) : Int) := by rw [w64 (by omega) (by omega)]; omega
      have e2 : wrap64 ((([] : List S33).length : Int) + ((b :: y).length : Int)) = ((b :: y).length : Int) := by rw [hl, Int.zero_add]; exact w64 (by omega) (by omega)
      refine ev_succ ?_
      simp only [impl_Woven.l0, e2]
      refine ev_pos g4 ?_
      rw [wv]
      by_cases h : (i : Int) < (ps.length : Int)
      · refine ev_pos h (ev_pos g2 (ev_pos hl (ev_pos g4 (ev_pos g6 (ev_pos g5 ?_)))))
        rw [e1, hr, hd]
        refine ev_eq key ?_
        simp
      · refine ev_neg h (ev_pos hl (ev_pos g4 (ev_pos g6 (ev_pos g5 ?_))))
        rw [e1, hr, hd]
        refine ev_eq key ?_
        simp
    | a :: x, [], hn =>
      have hl : ¬ ((a :: x).length : Int) = 0 := by rw [List.length_cons]; omega
      have hl' : ¬ (([] : List S33).length : Int) > 0 := by decide
      have g4 : (0 : Int) < ((a :: x).length : Int) := by rw [List.length_cons]; omega
      have g5 : (1 : Int) ≤ ((a :: x).length : Int) := by omega
      have hr : rd_T33 (a :: x) 0 = a := rfl
      have hd : (a :: x).drop 1 = x := rfl
      have key := ih x [] (out ++ [a]) (i + 1) (by simp at hn ⊢; omega) (by omega) (by simp; omega)
      have hb : (a :: x).length ≤ 4194304 := by simp at hn ⊢; omega
      have e1 : wrap64 ((i : Int) + 1) = ((i + 1 : Nat) : Int) := by rw [w64 (by omega) (by omega)]; omega
      have e2 : wrap64 (((a :: x).length : Int) + (([] : List S33).length : Int)) = ((a :: x).length : Int) := by rw [show (([] : List S33).length : Int) = 0 from rfl, Int.add_zero]; exact w64 (by omega) (by omega)
      refine ev_succ ?_
      simp only [impl_Woven.l0, e2]
      refine ev_pos g4 ?_
      rw [wv]
      by_cases h : (i : Int) < (ps.length : Int)
      · refine ev_pos h (ev_pos g2 (ev_neg hl ?_))
        by_cases ht : Int.tmod (rd ps (i : Int)) 2 = 0
        · refine ev_pos ht (ev_pos g4 (ev_pos g6 (ev_pos g5 ?_)))
          rw [e1, hr, hd]
          refine ev_eq key ?_
          simp
        · refine ev_neg ht (ev_neg hl' (ev_pos g4 (ev_pos g6 (ev_pos g5 ?_))))
          rw [e1, hr, hd]
          refine ev_eq key ?_
          simp
      · refine ev_neg h (ev_neg hl (ev_pos g4 (ev_pos g6 (ev_pos g5 ?_))))
        rw [e1, hr, hd]
        refine ev_eq key ?_
        simp
    | a :: x, b :: y, hn =>
      have hl : ¬ ((a :: x).length : Int) = 0 := by rw [List.length_cons]; omega
      have g4 : (0 : Int) < ((a :: x).length : Int) := by rw [List.length_cons]; omega
      have g5 : (1 : Int) ≤ ((a :: x).length : Int) := by omega
      have m4 : (0 : Int) < ((b :: y).length : Int) := by rw [List.length_cons]; omega
      have m5 : (1 : Int) ≤ ((b :: y).length : Int) := by omega
      have hr : rd_T33 (a :: x) 0 = a := rfl
      have hd : (a :: x).drop 1 = x := rfl
      have hr' : rd_T33 (b :: y) 0 = b := rfl
      have hd' : (b :: y).drop 1 = y := rfl
      have key := ih x (b :: y) (out ++ [a]) (i + 1) (by simp at hn ⊢; omega) (by omega) (by simp; omega)
      have key' := ih (a :: x) y (out ++ [b]) (i + 1) (by simp at hn ⊢; omega) (by omega) (by simp; omega)
      have hb : (a :: x).length + (b :: y).length ≤ 4194304 := by omega
      have e1 : wrap64 ((i : Int) + 1) = ((i + 1 : Nat) : Int) := by rw [w64 (by omega) (by omega)]; omega
      have e2 : wrap64 (((a :: x).length : Int) + ((b :: y).length : Int)) = ((a :: x).length : Int) + ((b :: y).length : Int) := w64 (by omega) (by omega)
      refine ev_succ ?_
      simp only [impl_Woven.l0, e2]
      refine ev_pos (show ((a :: x).length : Int) + ((b :: y).length : Int) > 0 from Int.add_pos g4 m4) ?_
      rw [wv]
      by_cases h : (i : Int) < (ps.length : Int)
      · refine ev_pos h (ev_pos g2 (ev_neg hl ?_))
        have h' : i < ps.length := Int.ofNat_lt.1 h
        by_cases ht : Int.tmod (rd ps (i : Int)) 2 = 0
        · refine ev_pos ht (ev_pos g4 (ev_pos g6 (ev_pos g5 ?_)))
          rw [e1, hr, hd]
          refine ev_eq key ?_
          simp [od, ht]
        · refine ev_neg ht (ev_pos m4 (ev_pos m4 (ev_pos g6 (ev_pos m5 ?_))))
          rw [e1, hr', hd']
          refine ev_eq key' ?_
          simp [od, ht, h']
      · refine ev_neg h (ev_neg hl (ev_pos g4 (ev_pos g6 (ev_pos g5 ?_))))
        have h' : ¬ i < ps.length := fun q => h (Int.ofNat_lt.2 q)
        rw [e1, hr, hd]
        refine ev_eq key ?_
        simp [od, h']
theorem drop_get {α : Type} {X : List α} {a : Nat} {e : α} {t : List α} (h : X.drop a = e :: t) : X[a]? = some e ∧ a < X.length ∧ X.drop (a + 1) = t := by
  have hlt : a < X.length := by
    have := congrArg List.length h
    rw [List.length_drop, List.length_cons] at this; omega
  rw [List.drop_eq_getElem_cons hlt] at h
  injection h with h1 h2
  exact ⟨by rw [List.getElem?_eq_getElem hlt, h1], hlt, h2⟩
theorem drop_end {α : Type} {X : List α} {a : Nat} (h : X.drop a = []) : X.length ≤ a := List.drop_eq_nil_iff.1 h
theorem spec_w (ps : List Int) (X Y : List S33) (hX : X.length ≤ 1048576) (hY : Y.length ≤ 1048576) : ∀ n x y out (a b i : Nat), X.drop a = x → Y.drop b = y → x.length + y.length ≤ n → n + i ≤ 4194304 → out.length ≤ i → Ev (fun k => spec_Woven.l0 k X Y ps out (a : Int) (b : Int) (i : Int)) (out ++ wv ps n x y i) := by
  intro n
  induction n with
  | zero =>
    intro x y out a b i hx hy hn hi ho
    have hx' : x = [] := List.length_eq_zero_iff.1 (by omega)
    have hy' : y = [] := List.length_eq_zero_iff.1 (by omega)
    subst hx' hy'
    have g1 := drop_end hx
    have g2 := drop_end hy
    refine ev_succ ?_
    simp only [spec_Woven.l0]
    refine ev_neg (by omega) (ev_succ ?_)
    simp only [spec_Woven.j1, decide_eq_true_eq]
    refine ev_neg (by omega) ?_
    rw [wv, List.append_nil]
    exact Ev.now _
  | succ n ih =>
    intro x y out a b i hx hy hn hi ho
    have g2 : (0 : Int) ≤ (i : Int) := by omega
    have ga : (0 : Int) ≤ (a : Int) := by omega
    have gb : (0 : Int) ≤ (b : Int) := by omega
    have g6 : out.length < 1466015503701 := by omega
    match x, y, hn, hx, hy with
    | [], [], _, hx, hy =>
      have g1 := drop_end hx
      have g2 := drop_end hy
      refine ev_succ ?_
      simp only [spec_Woven.l0]
      refine ev_neg (by omega) (ev_succ ?_)
      simp only [spec_Woven.j1, decide_eq_true_eq]
      refine ev_neg (by omega) ?_
      rw [wv, List.append_nil]
      exact Ev.now _
    | [], eb :: y, hn, hx, hy =>
      have h1 := drop_end hx
      obtain ⟨h2, h3, h4⟩ := drop_get hy
      have hr : rd_T33 Y (b : Int) = eb := getD_get b eb h2
      have m1 : ¬ (a : Int) < (X.length : Int) := by omega
      have m2 : (a : Int) ≥ (X.length : Int) := by omega
      have m3 : (b : Int) < (Y.length : Int) := by omega
      have key := ih [] y (out ++ [eb]) a (b + 1) (i + 1) hx h4 (by simp at hn ⊢; omega) (by omega) (by simp; omega)
      have e1 : wrap64 ((i : Int) + 1) = ((i + 1 : Nat) : Int) := by rw [w64 (by omega) (by omega)]; omega
      have e2 : wrap64 ((b : Int) + 1) = ((b + 1 : Nat) : Int) := by rw [w64 (by omega) (by omega)]; omega
      refine ev_succ ?_
      simp only [spec_Woven.l0]
      refine ev_neg m1 (ev_succ ?_)
      simp only [spec_Woven.j1, decide_eq_true_eq]
      refine ev_pos m3 ?_
      rw [wv]
      have fin : ∀ r, r = out ++ eb :: wv ps n [] y (i + 1) → Ev (fun k => spec_Woven.l0 k X Y ps (out ++ [eb]) (a : Int) (wrap64 ((b : Int) + 1)) (wrap64 ((i : Int) + 1))) r := by
        intro r hr
        rw [e1, e2]
        refine ev_eq key ?_
        rw [hr]; simp
      rw [hr]
      by_cases h : (i : Int) < (ps.length : Int)
      · refine ev_pos h (ev_pos g2 ?_)
        by_cases ht : Int.tmod (rd ps (i : Int)) 2 = 0
        · refine ev_pos ht (ev_pos m2 (ev_pos gb (ev_pos m3 (ev_pos g6 ?_))))
          exact fin _ rfl
        · refine ev_neg ht (ev_pos m3 (ev_pos gb (ev_pos g6 ?_)))
          exact fin _ rfl
      · refine ev_neg h (ev_pos m2 (ev_pos gb (ev_pos m3 (ev_pos g6 ?_))))
        exact fin _ rfl
    | ea :: x, [], hn, hx, hy =>
      have h1 := drop_end hy
      obtain ⟨h2, h3, h4⟩ := drop_get hx
      have hr : rd_T33 X (a : Int) = ea := getD_get a ea h2
      have m1 : (a : Int) < (X.length : Int) := by omega
      have m2 : ¬ (a : Int) ≥ (X.length : Int) := by omega
      have m3 : ¬ (b : Int) < (Y.length : Int) := by omega
      have key := ih x [] (out ++ [ea]) (a + 1) b (i + 1) h4 hy (by simp at hn ⊢; omega) (by omega) (by simp; omega)
      have e1 : wrap64 ((i : Int) + 1) = ((i + 1 : Nat) : Int) := by rw [w64 (by omega) (by omega)]; omega
      have e2 : wrap64 ((a : Int) + 1) = ((a + 1 : Nat) : Int) := by rw [w64 (by omega) (by omega)]; omega
      refine ev_succ ?_
      simp only [spec_Woven.l0]
      refine ev_pos m1 (ev_succ ?_)
      simp only [spec_Woven.j1]
      refine ev_pos trivial ?_
      rw [wv]
      have fin : ∀ r, r = out ++ ea :: wv ps n x [] (i + 1) → Ev (fun k => spec_Woven.l0 k X Y ps (out ++ [ea]) (wrap64 ((a : Int) + 1)) (b : Int) (wrap64 ((i : Int) + 1))) r := by
        intro r hr
        rw [e1, e2]
        refine ev_eq key ?_
        rw [hr]; simp
      rw [hr]
      by_cases h : (i : Int) < (ps.length : Int)
      · refine ev_pos h (ev_pos g2 ?_)
        by_cases ht : Int.tmod (rd ps (i : Int)) 2 = 0
        · refine ev_pos ht (ev_neg m2 (ev_pos ga (ev_pos m1 (ev_pos g6 ?_))))
          exact fin _ rfl
        · refine ev_neg ht (ev_neg m3 (ev_neg m2 (ev_pos ga (ev_pos m1 (ev_pos g6 ?_)))))
          exact fin _ rfl
      · refine ev_neg h (ev_neg m2 (ev_pos ga (ev_pos m1 (ev_pos g6 ?_))))
        exact fin _ rfl
    | ea :: x, eb :: y, hn, hx, hy =>
      obtain ⟨h2, h3, h4⟩ := drop_get hx
      obtain ⟨p2, p3, p4⟩ := drop_get hy
      have hr : rd_T33 X (a : Int) = ea := getD_get a ea h2
      have hr' : rd_T33 Y (b : Int) = eb := getD_get b eb p2
      have m1 : (a : Int) < (X.length : Int) := by omega
      have m2 : ¬ (a : Int) ≥ (X.length : Int) := by omega
      have m3 : (b : Int) < (Y.length : Int) := by omega
      have key := ih x (eb :: y) (out ++ [ea]) (a + 1) b (i + 1) h4 hy (by simp at hn ⊢; omega) (by omega) (by simp; omega)
      have key' := ih (ea :: x) y (out ++ [eb]) a (b + 1) (i + 1) hx p4 (by simp at hn ⊢; omega) (by omega) (by simp; omega)
      have e1 : wrap64 ((i : Int) + 1) = ((i + 1 : Nat) : Int) := by rw [w64 (by omega) (by omega)]; omega
      have e2 : wrap64 ((a : Int) + 1) = ((a + 1 : Nat) : Int) := by rw [w64 (by omega) (by omega)]; omega
      have e3 : wrap64 ((b : Int) + 1) = ((b + 1 : Nat) : Int) := by rw [w64 (by omega) (by omega)]; omega
      refine ev_succ ?_
      simp only [spec_Woven.l0]
      refine ev_pos m1 (ev_succ ?_)
      simp only [spec_Woven.j1]
      refine ev_pos trivial ?_
      rw [wv]
      have fina : ∀ r, r = out ++ ea :: wv ps n x (eb :: y) (i + 1) → Ev (fun k => spec_Woven.l0 k X Y ps (out ++ [ea]) (wrap64 ((a : Int) + 1)) (b : Int) (wrap64 ((i : Int) + 1))) r := by
        intro r hr
        rw [e1, e2]
        refine ev_eq key ?_
        rw [hr]; simp
      have finb : ∀ r, r = out ++ eb :: wv ps n (ea :: x) y (i + 1) → Ev (fun k => spec_Woven.l0 k X Y ps (out ++ [eb]) (a : Int) (wrap64 ((b : Int) + 1)) (wrap64 ((i : Int) + 1))) r := by
        intro r hr
        rw [e1, e3]
        refine ev_eq key' ?_
        rw [hr]; simp
      rw [hr, hr']
      by_cases h : (i : Int) < (ps.length : Int)
      · have h' : i < ps.length := Int.ofNat_lt.1 h
        refine ev_pos h (ev_pos g2 ?_)
        by_cases ht : Int.tmod (rd ps (i : Int)) 2 = 0
        · refine ev_pos ht (ev_neg m2 (ev_pos ga (ev_pos m1 (ev_pos g6 ?_))))
          exact fina _ (by simp [od, ht])
        · refine ev_neg ht (ev_pos m3 (ev_pos gb (ev_pos g6 ?_)))
          exact finb _ (by simp [od, ht, h'])
      · have h' : ¬ i < ps.length := fun q => h (Int.ofNat_lt.2 q)
        refine ev_neg h (ev_neg m2 (ev_pos ga (ev_pos m1 (ev_pos g6 ?_))))
        exact fina _ (by simp [od, h'])
theorem FnExactWoven : Go.Proofs.Ytklghegofjigoaa.QFnExactWoven.Stated := by
  intro l0 l1 l2 y0 y1 y2
  unfold laws_FnExactWoven.f
  refine Ev.rounds ?_
  refine (Classical.em _).elim (fun hc => ev_pos hc (Ev.now _)) (fun hc => ev_neg hc ?_)
  have hp : l2.length + 0 ≤ 1048576 := by omega
  clear hc
  refine Ev.bind (szActS_sz l0 y0 1048576 (by decide) (by decide)) ?_
  refine (Classical.em _).elim (fun hc => ev_pos hc (Ev.now _)) (fun hc => ev_neg hc ?_)
  have hA := szv_nonneg hc
  have hszv := hc
  refine Ev.bind (szActS_sz l1 y1 _ (by omega) ?_) ?_
  · unfold szv; split <;> omega
  refine (Classical.em _).elim (fun hc => ev_pos hc (Ev.now _)) (fun hc => ev_neg hc ?_)
  have hB := szv_nonneg hc
  have hC : l0.length + (l0.map w104).sum + (l1.length + (l1.map w104).sum) ≤ 1048576 := by
    unfold szv at hB hszv
    split at hB
    · omega
    · omega
  clear hc hszv hB
  have htx := toActS_to l0 (by omega)
  have hty := toActS_to l1 (by omega)
  have htp := toIntS_to l2 hp
  have c1 := cws104 l0
  have c2 := cws104 l1
  generalize hgx : l0.map c104 = x at htx c1
  generalize hgy : l1.map c104 = y at hty c2
  have hlen : x.length + y.length ≤ 1048576 := by omega
  have hR1 := wv_len l2 (x.length + y.length) x y 0
  have hR2 := wv_w l2 (x.length + y.length) x y 0
  have hs : Ev (fun k => spec_Woven.f k x y l2) (wv l2 (x.length + y.length) x y 0) := spec_w l2 x y (by omega) (by omega) (x.length + y.length) x y [] 0 0 0 rfl rfl (Nat.le_refl _) (by omega) (by simp)
  have hi : Ev (fun k => impl_Woven.f k x y l2) (wv l2 (x.length + y.length) x y 0) := impl_w l2 (x.length + y.length) x y [] 0 (Nat.le_refl _) (by omega) (by simp)
  generalize hgr : wv l2 (x.length + y.length) x y 0 = r at hs hi hR1 hR2
  clear hgr hgx hgy
  have heR := eqActS_eq r (by omega)
  have heX := eqActS_eq x (by omega)
  have heY := eqActS_eq y (by omega)
  have hn1 := sum_const 9 x
  have hn2 := sum_const 9 y
  have hn3 := sum_const 1 l2
  have hm1 := markActS_mk x (by omega)
  have hm2 := markActS_at y (by omega) (1 + (((x.map fun _ => (9 : Nat)).sum : Nat) : Int)) (by omega) (by omega)
  have hm3 := markIntS_at l2 (by omega) (1 + (((x.map fun _ => (9 : Nat)).sum : Nat) : Int) + (((y.map fun _ => (9 : Nat)).sum : Nat) : Int)) (by omega) (by omega)
  have hmr := markActS_mk r (by omega)
  have hhd := heldActS_hd r (by omega)
  refine Ev.bind htx (Ev.bind hty (Ev.bind htp (Ev.bind hs (Ev.bind htx (Ev.bind hty (Ev.bind htp (Ev.bind hi (Ev.bind heR (ev_pos rfl ?_)))))))))
  refine Ev.bind htx (Ev.bind heX (ev_pos rfl (Ev.bind hty (Ev.bind heY (ev_pos rfl (Ev.bind htp (Ev.bind (eqIntS_eq l2 hp) (ev_pos rfl ?_))))))))
  refine Ev.bind hm1 (Ev.bind hm2 (Ev.bind hm3 (ev_neg (by omega) (Ev.bind heR (ev_succ ?_)))))
  simp only [laws_FnExactWoven.j0, Bool.not_true, Bool.false_eq_true, if_false]
  refine Ev.bind hmr (Ev.bind hhd (ev_neg (by omega) (ev_pos rfl ?_)))
  refine Ev.bind htx (Ev.bind hty (Ev.bind htp (Ev.bind hi (Ev.bind heR (ev_pos rfl ?_)))))
  refine Ev.bind hhd (ev_neg (by omega) ?_)
  exact ev_pos rfl (Ev.now _)
end Go.Proofs.Ytklghegofjigoaa.Pure
