/-
  FnExactAsksOf: the pure part: what the law computes is true, whatever the input.
-/
import Derived.Test.YtlpghmopabihoaaFamFnExactAsksOf
import Derived.Test.YtlpghmopabihoaaVKit2
namespace Go.Proofs.Ytlpghmopabihoaa.Pure
open Go.RowKit Go.Proofs.YtlpghmopabihoaaW.PrintWords Go.Proofs.YtlpghmopabihoaaW.PrintLast Go.Proofs.YtlpghmopabihoaaW.PrintMore Go.Proofs.Ytlpghmopabihoaa.QFnExactAsksOf Go.Proofs.Ytlpghmopabihoaa.Kit
set_option linter.unusedVariables false
set_option linter.unusedSimpArgs false

theorem wmS_ev (n : Nat) : ∀ (m i : Nat) (c : Int), i + m = n → n ≤ 1048576 → 1 ≤ c → c + (m : Int) ≤ 1125899906842624 → Ev (fun k => wmS.l0 k (n : Int) c (i : Int)) (c + (m : Int)) := by
  intro m
  induction m with
  | zero =>
    intro i c hi hn h1 h2
    refine ev_succ ?_
    simp only [wmS.l0, if_neg (show ¬ (i : Int) < (n : Int) by omega)]
    exact ev_eq (Ev.now _) (by omega)
  | succ m ih =>
    intro i c hi hn h1 h2
    have key := ih (i + 1) (c + 1) (by omega) hn (by omega) (by omega)
    have f1 : (i : Int) < (n : Int) := by omega
    have f2 : (0 : Int) ≤ (i : Int) := by omega
    have h3 : c ≤ 1125899906842624 := by omega
    have h4 : c + 1 + (m : Int) = c + ((m + 1 : Nat) : Int) := by omega
    have h5 : ((i + 1 : Nat) : Int) = (i : Int) + 1 := by omega
    have e1 : wrap64 ((i : Int) + 1) = (i : Int) + 1 := w64 (by omega) (by omega)
    have e2 : wrap64 (c + 1) = c + 1 := w64 (by omega) (by omega)
    refine ev_succ ?_
    simp only [wmS.l0, if_pos f1, e1, e2]
    refine Ev.bind (mt_ev c h3) (ev_pos f2 ?_)
    rw [h5] at key
    exact ev_eq key h4
def nsz (x : S125) : Nat := 7 + x.f3.f4.length
theorem nsz_le (l : List S125) : (l.map nsz).sum ≤ 7 * l.length + (l.map w125).sum := by
  induction l with
  | nil => simp
  | cons a l ih =>
    have h : nsz a ≤ 7 + w125 a := by unfold nsz w125; omega
    simp only [List.map_cons, List.sum_cons, List.length_cons]
    omega
theorem wmT_ev (l : List S125) (hl : l.length + (l.map w125).sum ≤ 1048576) (c0 : Int) (h1 : 1 ≤ c0) (h2 : c0 ≤ 1099511627776) : Ev (fun k => laws_markToldS.f k l c0) (c0 + ((l.map nsz).sum : Nat)) := by
  have hz := nsz_le l
  unfold laws_markToldS.f
  refine loop (xs := l) (fun k c i => wmT.l0 k l c i) (fun c rest => c + ((rest.map nsz).sum : Nat)) (fun c i rest => 1 ≤ c ∧ c + ((rest.map nsz).sum : Nat) ≤ 1125899906842600 ∧ ∀ x ∈ rest, x ∈ l) ?_ ?_ c0 ⟨h1, by omega, fun _ h => h⟩
  · intro c _
    refine ev_succ ?_
    simp only [wmT.l0, if_neg (Int.lt_irrefl _)]
    exact ev_eq (Ev.now _) (by simp)
  · intro c i a rest hd hlt hget ⟨q1, q2, q3⟩ ih
    have hr : rd_T125 l (i : Int) = a := getD_get i a hget
    have hn : nsz a = 7 + a.f3.f4.length := rfl
    have hq : a.f3.f4.length ≤ 1048576 := by
      have hw := mem_w (w := w125) hl (q3 a List.mem_cons_self)
      unfold w125 at hw
      omega
    simp only [List.map_cons, List.sum_cons] at q2 ⊢
    have f1 : (i : Int) < (l.length : Int) := by omega
    have f2 : (0 : Int) ≤ (i : Int) := by omega
    have f4 : c + 1 + 1 + 1 + 1 ≤ 1125899906842624 := by omega
    have key := wmS_ev a.f3.f4.length a.f3.f4.length 0 (c + 1 + 1 + 1 + 1 + 1 + 1 + 1) (by omega) hq (by omega) (by omega)
    have nxt := ih (c + 1 + 1 + 1 + 1 + 1 + 1 + 1 + (a.f3.f4.length : Int)) ⟨by omega, by omega, fun x hx => q3 x (List.mem_cons_of_mem _ hx)⟩
    have hs : c + 1 + 1 + 1 + 1 + 1 + 1 + 1 + (a.f3.f4.length : Int) + ((rest.map nsz).sum : Nat) = c + ((nsz a + (rest.map nsz).sum : Nat) : Int) := by omega
    have a1 : -9223372036854775808 ≤ c + 1 := by omega
    have b1 : c + 1 ≤ 9223372036854775807 := by omega
    have a2 : -9223372036854775808 ≤ c + 1 + 1 := by omega
    have b2 : c + 1 + 1 ≤ 9223372036854775807 := by omega
    have a3 : -9223372036854775808 ≤ c + 1 + 1 + 1 := by omega
    have b3 : c + 1 + 1 + 1 ≤ 9223372036854775807 := by omega
    have a4 : -9223372036854775808 ≤ c + 1 + 1 + 1 + 1 := by omega
    have b4 : c + 1 + 1 + 1 + 1 ≤ 9223372036854775807 := by omega
    have a5 : -9223372036854775808 ≤ c + 1 + 1 + 1 + 1 + 1 := by omega
    have b5 : c + 1 + 1 + 1 + 1 + 1 ≤ 9223372036854775807 := by omega
    have a6 : -9223372036854775808 ≤ c + 1 + 1 + 1 + 1 + 1 + 1 := by omega
    have b6 : c + 1 + 1 + 1 + 1 + 1 + 1 ≤ 9223372036854775807 := by omega
    have a7 : -9223372036854775808 ≤ c + 1 + 1 + 1 + 1 + 1 + 1 + 1 := by omega
    have b7 : c + 1 + 1 + 1 + 1 + 1 + 1 + 1 ≤ 9223372036854775807 := by omega
    have e0 : wrap64 ((i : Int) + 1) = (i : Int) + 1 := w64 (by omega) (by omega)
    have e1 : wrap64 (c + 1) = c + 1 := w64 a1 b1
    have e2 : wrap64 (c + 1 + 1) = c + 1 + 1 := w64 a2 b2
    have e3 : wrap64 (c + 1 + 1 + 1) = c + 1 + 1 + 1 := w64 a3 b3
    have e4 : wrap64 (c + 1 + 1 + 1 + 1) = c + 1 + 1 + 1 + 1 := w64 a4 b4
    have e5 : wrap64 (c + 1 + 1 + 1 + 1 + 1) = c + 1 + 1 + 1 + 1 + 1 := w64 a5 b5
    have e6 : wrap64 (c + 1 + 1 + 1 + 1 + 1 + 1) = c + 1 + 1 + 1 + 1 + 1 + 1 := w64 a6 b6
    have e7 : wrap64 (c + 1 + 1 + 1 + 1 + 1 + 1 + 1) = c + 1 + 1 + 1 + 1 + 1 + 1 + 1 := w64 a7 b7
    refine ev_succ ?_
    simp only [wmT.l0, if_pos f1, if_pos f2, e0, e1, e2, e3, e4, e5, e6, e7, hr]
    refine Ev.bind (mt_ev _ f4) (Ev.bind key ?_)
    exact ev_eq nxt hs

def res (t : Int) : List (S123 × S125) → S42 → List S42
  | [], _ => []
  | (a, b) :: rest, last => (if b.f2 = true ∧ b.f1 = t then [if a.f0 = 1 ∧ a.f1 = t ∧ b.f0 = 0 then a.f2 else last] else []) ++ res t rest (if a.f0 = 1 ∧ a.f1 = t ∧ b.f0 = 0 then a.f2 else last)
theorem res_len (t : Int) : ∀ (l : List (S123 × S125)) (last : S42), (res t l last).length ≤ l.length
  | [], _ => by simp [res]
  | (a, b) :: rest, last => by
    have := res_len t rest (if a.f0 = 1 ∧ a.f1 = t ∧ b.f0 = 0 then a.f2 else last)
    rw [res]
    simp only [List.length_append, List.length_cons]
    split <;> simp only [List.length_cons, List.length_nil] <;> omega
theorem spec_AsksOf_ev (X : List S123) (Y : List S125) (t : Int) (hl : X.length ≤ 1048576) (he : Y.length = X.length) : Ev (fun k => spec_AsksOf.l0 k X Y t [] 0 z42.f0 z42.f1 z42.f2 z42.f3 z42.f4 z42.f5) (res t (X.zip Y) z42) := by
  have hz : (X.zip Y).length = X.length := by rw [List.length_zip]; omega
  have key := loop (xs := X.zip Y) (fun k (s : List S42 × S42) i => spec_AsksOf.l0 k X Y t s.1 i s.2.f0 s.2.f1 s.2.f2 s.2.f3 s.2.f4 s.2.f5) (fun s rest => s.1 ++ res t rest s.2) (fun s i _ => s.1.length ≤ i) ?_ ?_ ([], z42) (Nat.zero_le _)
  · simpa using key
  · intro s hs
    refine ev_succ ?_
    simp only [spec_AsksOf.l0, hz, if_neg (Int.lt_irrefl _)]
    refine ev_eq (Ev.now _) ?_
    simp [res]
  · intro s i p rest hd hlt hget hs ih
    obtain ⟨a, b⟩ := p
    have hg := List.getElem?_zip_eq_some.1 hget
    have hra : rd_T123 X (i : Int) = a := getD_get i a hg.1
    have hrb : rd_T125 Y (i : Int) = b := getD_get i b hg.2
    have f1 : (i : Int) < (X.length : Int) := by omega
    have f1' : (i : Int) < (Y.length : Int) := by omega
    have f2 : (0 : Int) ≤ (i : Int) := by omega
    have f3 : s.1.length < 1954687338268 := by omega
    have e1 : wrap64 ((i : Int) + 1) = (i : Int) + 1 := w64 (by omega) (by omega)
    have key : ∀ last : S42, last = (if a.f0 = 1 ∧ a.f1 = t ∧ b.f0 = 0 then a.f2 else s.2) → Ev (fun k => if b.f2 = true then (if b.f1 = t then (if s.1.length < 1954687338268 then (spec_AsksOf.l0 k X Y t (s.1 ++ [(⟨last.f0, last.f1, last.f2, last.f3, last.f4, last.f5⟩ : S42)]) (wrap64 ((i : Int) + 1)) last.f0 last.f1 last.f2 last.f3 last.f4 last.f5) else none) else (spec_AsksOf.l0 k X Y t s.1 (wrap64 ((i : Int) + 1)) last.f0 last.f1 last.f2 last.f3 last.f4 last.f5)) else (spec_AsksOf.l0 k X Y t s.1 (wrap64 ((i : Int) + 1)) last.f0 last.f1 last.f2 last.f3 last.f4 last.f5)) (s.1 ++ res t ((a, b) :: rest) s.2) := by
      intro last hlast
      have hres : res t ((a, b) :: rest) s.2 = (if b.f2 = true ∧ b.f1 = t then [last] else []) ++ res t rest last := by rw [res, hlast]
      rw [hres]
      by_cases h1 : b.f2 = true
      · by_cases h2 : b.f1 = t
        · simp only [if_pos h1, if_pos h2, if_pos f3, e1]
          have := ih (s.1 ++ [last], last) (by simp; omega)
          refine ev_eq this ?_
          simp [h1, h2]
        · simp only [if_pos h1, if_neg h2, e1]
          have := ih (s.1, last) (by simp; omega)
          refine ev_eq this ?_
          simp [h2]
      · simp only [if_neg h1, e1]
        have := ih (s.1, last) (by simp; omega)
        refine ev_eq this ?_
        simp [h1]
    refine ev_succ ?_
    simp only [spec_AsksOf.l0, hra, hrb, if_pos f1, if_pos f1', if_pos f2]
    by_cases h1 : a.f0 = 1
    · by_cases h2 : a.f1 = t
      · simp only [if_pos h1, if_pos h2]
        refine ev_succ ?_
        by_cases h3 : b.f0 = 0
        · have h3' : (b.f0 == 0) = true := by simpa using h3
          simp only [spec_AsksOf.j1, h3', hra, hrb, if_true, if_pos f1, if_pos f1', if_pos f2]
          exact key a.f2 (by rw [if_pos ⟨h1, h2, h3⟩])
        · have h3' : (b.f0 == 0) = false := by simpa using h3
          simp only [spec_AsksOf.j1, h3', hra, hrb, Bool.false_eq_true, if_false, if_pos f1, if_pos f1', if_pos f2]
          exact key s.2 (by rw [if_neg (fun q => h3 q.2.2)])
      · simp only [if_pos h1, if_neg h2]
        refine ev_succ ?_
        simp only [spec_AsksOf.j1, hra, hrb, Bool.false_eq_true, if_false, if_pos f1, if_pos f1', if_pos f2]
        exact key s.2 (by rw [if_neg (fun q => h2 q.2.1)])
    · simp only [if_neg h1]
      refine ev_succ ?_
      simp only [spec_AsksOf.j1, hra, hrb, Bool.false_eq_true, if_false, if_pos f1, if_pos f1', if_pos f2]
      exact key s.2 (by rw [if_neg (fun q => h1 q.1)])
theorem impl_AsksOf_ev (X : List S123) (Y : List S125) (t : Int) (hl : X.length ≤ 1048576) (he : Y.length = X.length) : Ev (fun k => impl_AsksOf.l0 k Y t [] X X.length 0 z42.f0 z42.f1 z42.f2 z42.f3 z42.f4 z42.f5) (res t (X.zip Y) z42) := by
  have hz : (X.zip Y).length = X.length := by rw [List.length_zip]; omega
  have key := loop (xs := X.zip Y) (fun k (s : List S42 × S42) i => impl_AsksOf.l0 k Y t s.1 X X.length i s.2.f0 s.2.f1 s.2.f2 s.2.f3 s.2.f4 s.2.f5) (fun s rest => s.1 ++ res t rest s.2) (fun s i _ => s.1.length ≤ i) ?_ ?_ ([], z42) (Nat.zero_le _)
  · simpa using key
  · intro s hs
    refine ev_succ ?_
    simp only [impl_AsksOf.l0, hz, if_neg (Int.lt_irrefl _)]
    refine ev_eq (Ev.now _) ?_
    simp [res]
  · intro s i p rest hd hlt hget hs ih
    obtain ⟨a, b⟩ := p
    have hg := List.getElem?_zip_eq_some.1 hget
    have hra : rd_T123 X (i : Int) = a := getD_get i a hg.1
    have hrb : rd_T125 Y (i : Int) = b := getD_get i b hg.2
    have f1 : (i : Int) < (X.length : Int) := by omega
    have f1' : (i : Int) < (Y.length : Int) := by omega
    have f2 : (0 : Int) ≤ (i : Int) := by omega
    have f3 : s.1.length < 1954687338268 := by omega
    have e1 : wrap64 ((i : Int) + 1) = (i : Int) + 1 := w64 (by omega) (by omega)
    have key : ∀ last : S42, last = (if a.f0 = 1 ∧ a.f1 = t ∧ b.f0 = 0 then a.f2 else s.2) → Ev (fun k => if b.f2 = true then (if b.f1 = t then (if s.1.length < 1954687338268 then (impl_AsksOf.l0 k Y t (s.1 ++ [(⟨last.f0, last.f1, last.f2, last.f3, last.f4, last.f5⟩ : S42)]) X X.length (wrap64 ((i : Int) + 1)) last.f0 last.f1 last.f2 last.f3 last.f4 last.f5) else none) else (impl_AsksOf.l0 k Y t s.1 X X.length (wrap64 ((i : Int) + 1)) last.f0 last.f1 last.f2 last.f3 last.f4 last.f5)) else (impl_AsksOf.l0 k Y t s.1 X X.length (wrap64 ((i : Int) + 1)) last.f0 last.f1 last.f2 last.f3 last.f4 last.f5)) (s.1 ++ res t ((a, b) :: rest) s.2) := by
      intro last hlast
      have hres : res t ((a, b) :: rest) s.2 = (if b.f2 = true ∧ b.f1 = t then [last] else []) ++ res t rest last := by rw [res, hlast]
      rw [hres]
      by_cases h1 : b.f2 = true
      · by_cases h2 : b.f1 = t
        · simp only [if_pos h1, if_pos h2, if_pos f3, e1]
          have := ih (s.1 ++ [last], last) (by simp; omega)
          refine ev_eq this ?_
          simp [h1, h2]
        · simp only [if_pos h1, if_neg h2, e1]
          have := ih (s.1, last) (by simp; omega)
          refine ev_eq this ?_
          simp [h2]
      · simp only [if_neg h1, e1]
        have := ih (s.1, last) (by simp; omega)
        refine ev_eq this ?_
        simp [h1]
    refine ev_succ ?_
    simp only [impl_AsksOf.l0, hra, hrb, if_pos f1, if_pos f1', if_pos f2]
    by_cases h1 : a.f0 = 1
    · by_cases h2 : a.f1 = t
      · simp only [if_pos h1, if_pos h2]
        refine ev_succ ?_
        by_cases h3 : b.f0 = 0
        · have h3' : (b.f0 == 0) = true := by simpa using h3
          simp only [impl_AsksOf.j1, h3', hra, hrb, if_true, if_pos f1, if_pos f1', if_pos f2]
          exact key a.f2 (by rw [if_pos ⟨h1, h2, h3⟩])
        · have h3' : (b.f0 == 0) = false := by simpa using h3
          simp only [impl_AsksOf.j1, h3', hra, hrb, Bool.false_eq_true, if_false, if_pos f1, if_pos f1', if_pos f2]
          exact key s.2 (by rw [if_neg (fun q => h3 q.2.2)])
      · simp only [if_pos h1, if_neg h2]
        refine ev_succ ?_
        simp only [impl_AsksOf.j1, hra, hrb, Bool.false_eq_true, if_false, if_pos f1, if_pos f1', if_pos f2]
        exact key s.2 (by rw [if_neg (fun q => h2 q.2.1)])
    · simp only [if_neg h1]
      refine ev_succ ?_
      simp only [impl_AsksOf.j1, hra, hrb, Bool.false_eq_true, if_false, if_pos f1, if_pos f1', if_pos f2]
      exact key s.2 (by rw [if_neg (fun q => h1 q.1)])

theorem eqAsks (l : List S42) (h : l.length ≤ 1048576) : Ev (fun k => laws_eqAskS.f k l l) true := by
  have H := eq_list (l := l) (L0 := laws_eqAskS.l0) (step := fun k x y => laws_eqAsk.f x.f0 x.f1 x.f2 x.f3 x.f4 x.f5 y.f0 y.f1 y.f2 y.f3 y.f4 y.f5) (rd := rd_T42) (fun _ _ _ _ => rfl) getD_get (by omega) (fun a ha => by
    unfold laws_eqAsk.f
    exact (eqf_if (eqf_if (eqf_if (eqf_if (eqf_if (eqf_if eqf_end)))))))
  exact H
theorem core (X : List S123) (Y : List S125) (t : Int) (hl : X.length ≤ 1048576) : ∃ z : List S42, Ev (fun k => spec_AsksOf.f k X Y t) z ∧ Ev (fun k => impl_AsksOf.f k X Y t) z ∧ z.length ≤ 1048576 := by
  by_cases he : X.length = Y.length
  · have hr := res_len t (X.zip Y) z42
    have hz : (X.zip Y).length ≤ X.length := by rw [List.length_zip]; omega
    have hc : (X.length : Int) = (Y.length : Int) := by omega
    refine ⟨res t (X.zip Y) z42, ?_, ?_, by omega⟩
    · unfold spec_AsksOf.f
      simp only [Option.bind_some, if_pos hc]
      exact spec_AsksOf_ev X Y t hl he.symm
    · unfold impl_AsksOf.f
      simp only [if_pos hc]
      exact impl_AsksOf_ev X Y t hl he.symm
  · have hc : ¬ (X.length : Int) = (Y.length : Int) := by omega
    refine ⟨[], ?_, ?_, by simp⟩
    · unfold spec_AsksOf.f
      simp only [Option.bind_some, if_neg hc]
      exact Ev.now _
    · unfold impl_AsksOf.f
      simp only [if_neg hc]
      exact Ev.now _
theorem FnExactAsksOf : Go.Proofs.Ytlpghmopabihoaa.QFnExactAsksOf.Stated := by
  intro l0 l1 a2 y0 y1 _
  unfold laws_FnExactAsksOf.f
  refine Ev.rounds (Ev.bind (szActS_sz l0 y0 1048576 (by decide) (by decide)) ?_)
  refine (Classical.em _).elim (fun hc => ev_pos hc (Ev.now _)) (fun hc => ev_neg hc ?_)
  have hW := szv_nonneg hc
  have hb := szv_bounds hc (by decide)
  refine Ev.bind (szToldS_sz l1 y1 _ hb.1 hb.2) ?_
  refine (Classical.em _).elim (fun hc => ev_pos hc (Ev.now _)) (fun hc2 => ev_neg hc2 ?_)
  have hV := szv_nonneg hc2
  have ha := toActS_to l0 (by omega)
  have ht := toToldS_to l1 (by omega)
  have hW' : (l0.map c117).length + ((l0.map c117).map w123).sum ≤ 1048576 := by rw [cws117]; omega
  have hV' : (l1.map c121).length + ((l1.map c121).map w125).sum ≤ 1048576 := by rw [cws121]; omega
  have hL : (l0.map c117).length ≤ 1048576 := by omega
  obtain ⟨z, hs, hi, hz⟩ := core (l0.map c117) (l1.map c121) a2 hL
  have heW := eqAsks z hz
  have hmk := markActS_mk (l0.map c117) hL
  have hsum := sum_const 9 (l0.map c117)
  have hmt := wmT_ev (l1.map c121) hV' (1 + ((((l0.map c117).map fun _ => (9 : Nat)).sum : Nat) : Int)) (by omega) (by omega)
  have hmk2 := markAskS_mk z hz
  have hhd := heldAskS_hd z hz
  refine Ev.bind ha (Ev.bind ht (Ev.bind hs ?_))
  refine Ev.bind ha (Ev.bind ht (Ev.bind hi ?_))
  refine Ev.bind heW ?_
  refine ev_pos rfl ?_
  refine Ev.bind ha ?_
  refine Ev.bind (eqActS_eq (l0.map c117) hW') ?_
  refine ev_pos rfl ?_
  refine Ev.bind ht ?_
  refine Ev.bind (eqToldS_eq (l1.map c121) hV') ?_
  refine ev_pos rfl ?_
  refine Ev.bind hmk ?_
  refine Ev.bind hmt ?_
  refine ev_neg (by omega) ?_
  refine Ev.bind heW ?_
  refine ev_succ ?_
  simp only [laws_FnExactAsksOf.j0, Bool.not_true, Bool.false_eq_true, if_false]
  refine Ev.bind hmk2 ?_
  refine Ev.bind hhd ?_
  refine ev_neg (by omega) ?_
  refine ev_pos rfl ?_
  refine Ev.bind ha (Ev.bind ht (Ev.bind hi ?_))
  refine Ev.bind heW ?_
  refine ev_pos rfl ?_
  refine Ev.bind hhd ?_
  refine ev_neg (by omega) ?_
  exact ev_pos rfl (Ev.now _)
end Go.Proofs.Ytlpghmopabihoaa.Pure
