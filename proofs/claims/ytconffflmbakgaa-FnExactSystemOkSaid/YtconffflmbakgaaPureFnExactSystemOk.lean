/-
  FnExactSystemOk: the pure part: what the law computes is true, whatever the input.
-/
import Derived.Test.YtconffflmbakgaaFamFnExactSystemOk
import Derived.Test.YtconffflmbakgaaVKit2
namespace Go.Proofs.Ytconffflmbakgaa.Pure
open Go.RowKit Go.Proofs.YtconffflmbakgaaW.PrintWords Go.Proofs.YtconffflmbakgaaW.PrintLast Go.Proofs.YtconffflmbakgaaW.PrintMore Go.Proofs.Ytconffflmbakgaa.QFnExactSystemOk Go.Proofs.Ytconffflmbakgaa.Kit
set_option linter.unusedVariables false
set_option linter.unusedSimpArgs false

theorem in_ev (a b c : Int) : spec_l01In.f a b c = some (decide (b ≤ a ∧ a ≤ c)) := by
  unfold spec_l01In.f
  split <;> simp <;> omega
theorem within_ev (a b c : Int) : impl_within.f a b c = some (decide (b ≤ a ∧ a ≤ c)) := by
  unfold impl_within.f
  split <;> simp <;> omega

def geoB (t p i q : Int) : Bool := decide (1 ≤ t ∧ t ≤ 3 ∧ 5 ≤ p ∧ p ≤ 12 ∧ 2 ≤ i ∧ i ≤ 6 ∧ 1 ≤ q ∧ q ≤ p - 4)
theorem geoB_iff {t p i q : Int} : geoB t p i q = true ↔ (1 ≤ t ∧ t ≤ 3 ∧ 5 ≤ p ∧ p ≤ 12 ∧ 2 ≤ i ∧ i ≤ 6 ∧ 1 ≤ q ∧ q ≤ p - 4) := by simp [geoB]
theorem spec_geo (t p i q : Int) : spec_GeoOk.f t p i q = some (geoB t p i q) := by
  unfold spec_GeoOk.f geoB
  simp only [in_ev, Option.bind_some, decide_eq_true_eq]
  by_cases h1 : 1 ≤ t ∧ t ≤ 3
  · by_cases h2 : 5 ≤ p ∧ p ≤ 12
    · have e : wrap64 (p - 4) = p - 4 := w64 (by omega) (by omega)
      by_cases h3 : 2 ≤ i ∧ i ≤ 6
      · simp only [if_pos h1, if_pos h2, if_pos h3, e]
        congr 1
        simp only [decide_eq_decide]
        omega
      · simp only [if_pos h1, if_pos h2, if_neg h3]
        symm; congr 1; simp only [decide_eq_false_iff_not]; omega
    · simp only [if_pos h1, if_neg h2]
      symm; congr 1; simp only [decide_eq_false_iff_not]; omega
  · simp only [if_neg h1]
    symm; congr 1; simp only [decide_eq_false_iff_not]; omega
theorem impl_geo (t p i q : Int) : impl_GeoOk.f t p i q = some (geoB t p i q) := by
  rw [← spec_geo]
  unfold spec_GeoOk.f impl_GeoOk.f
  simp only [in_ev, within_ev]

theorem geo_small {t p i q : Int} (h : geoB t p i q = true) : 74 ≤ 38 + 8 * i + 4 * p ∧ 38 + 8 * i + 4 * p ≤ 134 ∧ 0 ≤ t * (38 + 8 * i + 4 * p) ∧ t * (38 + 8 * i + 4 * p) ≤ 402 ∧ t * (38 + 8 * i + 4 * p) = 2 * (t * (19 + 4 * i + 2 * p)) := by
  rw [geoB_iff] at h
  have h1 : t = 1 ∨ t = 2 ∨ t = 3 := by omega
  rcases h1 with rfl | rfl | rfl <;> omega
theorem words_eq {t p i q : Int} (h : geoB t p i q = true) : wrap64 ((wrap64 (38 + (wrap64 (8 * i)))) + (wrap64 (4 * p))) = 38 + 8 * i + 4 * p := by
  rw [geoB_iff] at h
  have e2 : wrap64 (8 * i) = 8 * i := w64 (by omega) (by omega)
  have e3 : wrap64 (4 * p) = 4 * p := w64 (by omega) (by omega)
  have e4 : wrap64 (38 + 8 * i) = 38 + 8 * i := w64 (by omega) (by omega)
  rw [e2, e3, e4]
  exact w64 (by omega) (by omega)
theorem spec_words {t p i q : Int} (h : geoB t p i q = true) : spec_PartWords.f t p i q = some (38 + 8 * i + 4 * p) := by
  unfold spec_PartWords.f
  simp only [spec_geo, Option.bind_some, if_pos h, words_eq h]
theorem spec_words0 {t p i q : Int} (h : ¬ geoB t p i q = true) : spec_PartWords.f t p i q = some 0 := by
  unfold spec_PartWords.f
  simp only [spec_geo, Option.bind_some, if_neg h]
theorem impl_words {t p i q : Int} (h : geoB t p i q = true) : impl_Geo_partWords.f t p i q = some (38 + 8 * i + 4 * p) := by
  unfold impl_Geo_partWords.f
  rw [words_eq h]

def okAt (K : ByteArray) (xs : List S155) (i : Nat) : Bool := decide (0 ≤ (rd_T155 xs (i : Int)).f0 ∧ (rd_T155 xs (i : Int)).f0 ≤ (K.size : Int) / 16 - 1) && (decide (((rd_T155 xs (i : Int)).f1.size : Int) = 16) && decide (i = 0 ∨ (rd_T155 xs ((i : Int) - 1)).f0 < (rd_T155 xs (i : Int)).f0))
def okFrom (K : ByteArray) (xs : List S155) : Nat → Nat → Bool
  | _, 0 => true
  | i, d + 1 => okAt K xs i && okFrom K xs (i + 1) d
theorem spec_cells (K : ByteArray) (xs : List S155) (hK : K.size ≤ 1048576) (hl : xs.length ≤ 1048576) : ∀ d i : Nat, i + d = xs.length → Ev (fun k => spec_MemoryOk.l0 k (i : Int) K xs) (okFrom K xs i d)
  | 0, i, h => by
    refine ev_succ (ev_some fun k => ?_)
    rw [spec_MemoryOk.l0, if_neg (by omega)]
    rfl
  | d + 1, i, h => by
    have ih := spec_cells K xs hK hl d (i + 1) (by omega)
    have e1 : wrap64 ((i : Int) + 1) = ((i + 1 : Nat) : Int) := by rw [w64 (by omega) (by omega)]; rfl
    have e2 : wrap64 ((K.size : Int) / 16) = (K.size : Int) / 16 := w64 (by omega) (by omega)
    have e3 : wrap64 ((K.size : Int) / 16 - 1) = (K.size : Int) / 16 - 1 := w64 (by omega) (by omega)
    have e4 : wrap64 ((i : Int) - 1) = (i : Int) - 1 := w64 (by omega) (by omega)
    refine ev_succ ?_
    unfold okFrom okAt
    simp only [spec_MemoryOk.l0, spec_l10Size.f, in_ev, Option.bind_some, if_pos (show (i : Int) < (xs.length : Int) by omega), if_pos (show (0 : Int) ≤ (i : Int) by omega), if_neg (show ¬ ((16 : Int) = 0) by decide), e1, e2, e3, e4, decide_eq_true_eq]
    by_cases c1 : 0 ≤ (rd_T155 xs (i : Int)).f0 ∧ (rd_T155 xs (i : Int)).f0 ≤ (K.size : Int) / 16 - 1
    · by_cases c2 : ((rd_T155 xs (i : Int)).f1.size : Int) = 16
      · simp only [if_pos c1, if_pos c2, decide_eq_true c1, decide_eq_true c2, Bool.true_and]
        by_cases c3 : (i : Int) > 0
        · simp only [if_pos c3, if_pos (show 0 ≤ (i : Int) - 1 by omega), if_pos (show (i : Int) - 1 < (xs.length : Int) by omega)]
          by_cases c4 : (rd_T155 xs ((i : Int) - 1)).f0 ≥ (rd_T155 xs (i : Int)).f0
          · simp only [if_pos c4, decide_eq_false (show ¬ (i = 0 ∨ (rd_T155 xs ((i : Int) - 1)).f0 < (rd_T155 xs (i : Int)).f0) by omega), Bool.false_and]
            exact Ev.now _
          · simp only [if_neg c4, decide_eq_true (show (i = 0 ∨ (rd_T155 xs ((i : Int) - 1)).f0 < (rd_T155 xs (i : Int)).f0) by omega), Bool.true_and]
            exact ih
        · simp only [if_neg c3, decide_eq_true (show (i = 0 ∨ (rd_T155 xs ((i : Int) - 1)).f0 < (rd_T155 xs (i : Int)).f0) by omega), Bool.true_and]
          exact ih
      · simp only [if_pos c1, if_neg c2, decide_eq_false c2, Bool.false_and, Bool.and_false]
        exact Ev.now _
    · simp only [if_neg c1, decide_eq_false c1, Bool.false_and]
      exact Ev.now _
def sizeB (K : ByteArray) : Bool := decide ((K.size : Int) % 16 = 0) && decide ((K.size : Int) ≤ 16000)
theorem impl_cells (K : ByteArray) (xs : List S155) (hK : K.size ≤ 1048576) (hl : xs.length ≤ 1048576) : ∀ d i : Nat, i + d = xs.length → Ev (fun k => impl_MemoryOk.l0 k xs (xs.length : Int) (i : Int) K xs) (okFrom K xs i d && sizeB K)
  | 0, i, h => by
    refine ev_succ (ev_some fun k => ?_)
    rw [impl_MemoryOk.l0, if_neg (by omega)]
    unfold okFrom sizeB
    by_cases c : (K.size : Int) % 16 = 0
    · simp only [if_pos c, decide_eq_true c, Bool.true_and]
    · simp only [if_neg c, decide_eq_false c, Bool.false_and, Bool.true_and]
  | d + 1, i, h => by
    have ih := impl_cells K xs hK hl d (i + 1) (by omega)
    have e1 : wrap64 ((i : Int) + 1) = ((i + 1 : Nat) : Int) := by rw [w64 (by omega) (by omega)]; rfl
    have e2 : wrap64 ((K.size : Int) / 16) = (K.size : Int) / 16 := w64 (by omega) (by omega)
    have e3 : wrap64 ((K.size : Int) / 16 - 1) = (K.size : Int) / 16 - 1 := w64 (by omega) (by omega)
    have e4 : wrap64 ((i : Int) - 1) = (i : Int) - 1 := w64 (by omega) (by omega)
    refine ev_succ ?_
    unfold okFrom okAt
    simp only [impl_MemoryOk.l0, within_ev, Option.bind_some, if_pos (show (i : Int) < (xs.length : Int) by omega), if_pos (show (0 : Int) ≤ (i : Int) by omega), e1, e2, e3, e4, decide_eq_true_eq]
    by_cases c1 : 0 ≤ (rd_T155 xs (i : Int)).f0 ∧ (rd_T155 xs (i : Int)).f0 ≤ (K.size : Int) / 16 - 1
    · by_cases c2 : ((rd_T155 xs (i : Int)).f1.size : Int) = 16
      · simp only [if_pos c1, if_pos c2, decide_eq_true c1, decide_eq_true c2, Bool.true_and]
        by_cases c3 : (i : Int) > 0
        · simp only [if_pos c3, if_pos (show 0 ≤ (i : Int) - 1 by omega), if_pos (show (i : Int) - 1 < (xs.length : Int) by omega)]
          by_cases c4 : (rd_T155 xs (i : Int)).f0 ≤ (rd_T155 xs ((i : Int) - 1)).f0
          · simp only [if_pos c4, decide_eq_false (show ¬ (i = 0 ∨ (rd_T155 xs ((i : Int) - 1)).f0 < (rd_T155 xs (i : Int)).f0) by omega), Bool.false_and]
            exact Ev.now _
          · simp only [if_neg c4, decide_eq_true (show (i = 0 ∨ (rd_T155 xs ((i : Int) - 1)).f0 < (rd_T155 xs (i : Int)).f0) by omega), Bool.true_and]
            exact ih
        · simp only [if_neg c3, decide_eq_true (show (i = 0 ∨ (rd_T155 xs ((i : Int) - 1)).f0 < (rd_T155 xs (i : Int)).f0) by omega), Bool.true_and]
          exact ih
      · simp only [if_pos c1, if_neg c2, decide_eq_false c2, Bool.false_and, Bool.and_false]
        exact Ev.now _
    · simp only [if_neg c1, decide_eq_false c1, Bool.false_and]
      exact Ev.now _
def memB (K : ByteArray) (xs : List S155) : Bool := okFrom K xs 0 xs.length && sizeB K
theorem impl_mem (K : ByteArray) (xs : List S155) (hK : K.size ≤ 1048576) (hl : xs.length ≤ 1048576) : Ev (fun k => impl_MemoryOk.f k K xs) (memB K xs) := by
  unfold impl_MemoryOk.f
  exact impl_cells K xs hK hl xs.length 0 (by omega)
theorem spec_mem (K : ByteArray) (xs : List S155) (hK : K.size ≤ 1048576) (hl : xs.length ≤ 1048576) : Ev (fun k => spec_MemoryOk.f k K xs) (memB K xs) := by
  unfold spec_MemoryOk.f memB sizeB
  simp only [spec_l10Size.f, Option.bind_some, if_neg (show ¬ ((16 : Int) = 0) by decide), show wrap64 (1000 * 16) = 16000 from w64 (by omega) (by omega)]
  by_cases c : (K.size : Int) % 16 = 0
  · simp only [if_pos c, decide_eq_true c, Bool.true_and]
    refine ev_succ ?_
    simp only [spec_MemoryOk.j0, decide_eq_true_eq]
    by_cases c2 : (K.size : Int) > 16000
    · simp only [if_pos c2, decide_eq_false (show ¬ (K.size : Int) ≤ 16000 by omega), Bool.and_false]
      exact Ev.now _
    · simp only [if_neg c2, decide_eq_true (show (K.size : Int) ≤ 16000 by omega), Bool.and_true]
      exact spec_cells K xs hK hl xs.length 0 (by omega)
  · simp only [if_neg c, decide_eq_false c, Bool.false_and, Bool.and_false]
    refine ev_succ (ev_some fun k => ?_)
    simp only [spec_MemoryOk.j0, if_true]
theorem lines_eq {t p i q : Int} (h : geoB t p i q = true) : wrap64 (Int.tdiv (wrap64 (t * (38 + 8 * i + 4 * p))) 2) = t * (19 + 4 * i + 2 * p) := by
  have hs := geo_small h
  have e1 : wrap64 (t * (38 + 8 * i + 4 * p)) = t * (38 + 8 * i + 4 * p) := w64 (by omega) (by omega)
  rw [e1, hs.2.2.2.2, Int.mul_tdiv_cancel_left _ (by decide)]
  exact w64 (by omega) (by omega)
theorem spec_lines {t p i q : Int} (h : geoB t p i q = true) : spec_LinesIn.f t p i q = some (t * (19 + 4 * i + 2 * p)) := by
  unfold spec_LinesIn.f
  simp only [spec_words h, Option.bind_some, lines_eq h]
theorem impl_lines {t p i q : Int} (h : geoB t p i q = true) : impl_Geo_lines.f t p i q = some (t * (19 + 4 * i + 2 * p)) := by
  unfold impl_Geo_lines.f
  simp only [impl_words h, Option.bind_some, lines_eq h]
def placed (K : ByteArray) (xs : List S155) (t p i q : Int) : Bool := memB K xs && (geoB t p i q && decide (t * (19 + 4 * i + 2 * p) ≤ (K.size : Int) / 16))
theorem spec_placed (K : ByteArray) (xs : List S155) (t p i q : Int) (hK : K.size ≤ 1048576) (hl : xs.length ≤ 1048576) : Ev (fun k => spec_l19Has.f k K xs t p i q) (placed K xs t p i q) := by
  unfold spec_l19Has.f placed
  simp only [spec_geo, Option.bind_some]
  by_cases hg : geoB t p i q = true
  · have hs := geo_small hg
    simp only [if_pos hg]
    refine Ev.bind (spec_mem K xs hK hl) ?_
    by_cases hm : memB K xs = true
    · simp only [if_pos hm, spec_l10Words.f, spec_lines hg, Option.bind_some, hm, hg, Bool.true_and]
      rw [w64 (show -9223372036854775808 ≤ (K.size : Int) / 8 by omega) (by omega), w64 (show -9223372036854775808 ≤ 2 * (t * (19 + 4 * i + 2 * p)) by omega) (by omega)]
      refine ev_eq (Ev.now _) ?_
      simp only [decide_eq_decide]
      omega
    · simp only [if_neg hm, Bool.eq_false_iff.mpr hm, Bool.false_and]
      exact Ev.now _
  · simp only [if_neg hg, Bool.eq_false_iff.mpr hg, Bool.false_and, Bool.and_false]
    exact Ev.now _
theorem impl_placed (K : ByteArray) (xs : List S155) (t p i q : Int) (hK : K.size ≤ 1048576) (hl : xs.length ≤ 1048576) : Ev (fun k => impl_isPlaced.f k K xs t p i q) (placed K xs t p i q) := by
  unfold impl_isPlaced.f placed
  refine Ev.bind (impl_mem K xs hK hl) ?_
  by_cases hm : memB K xs = true
  · simp only [if_pos hm, impl_geo, Option.bind_some, hm, Bool.true_and]
    by_cases hg : geoB t p i q = true
    · simp only [if_pos hg, impl_lines hg, Option.bind_some, hg, Bool.true_and]
      rw [w64 (show -9223372036854775808 ≤ (K.size : Int) / 16 by omega) (by omega)]
      exact Ev.now _
    · simp only [if_neg hg, Bool.eq_false_iff.mpr hg, Bool.false_and]
      exact Ev.now _
  · simp only [if_neg hm, Bool.eq_false_iff.mpr hm, Bool.false_and]
    exact Ev.now _

def jobB (j : S105) : Bool := decide (0 ≤ j.f4 ∧ j.f4 ≤ (j.f2.length : Int))
def jobsFrom (l : List S105) : Nat → Nat → Bool
  | _, 0 => true
  | i, d + 1 => jobB (rd_T105 l (i : Int)) && jobsFrom l (i + 1) d
theorem spec_jobs (l : List S105) (t p i' q : Int) (K : ByteArray) (xs : List S155) (ss : List S166) (hl : l.length ≤ 1048576) : ∀ d i : Nat, i + d = l.length → Ev (fun k => spec_SystemOk.l0 k (i : Int) t p i' q K xs l ss) (jobsFrom l i d)
  | 0, i, h => by
    refine ev_succ (ev_some fun k => ?_)
    rw [spec_SystemOk.l0, if_neg (by omega)]
    rfl
  | d + 1, i, h => by
    have ih := spec_jobs l t p i' q K xs ss hl d (i + 1) (by omega)
    have e1 : wrap64 ((i : Int) + 1) = ((i + 1 : Nat) : Int) := by rw [w64 (by omega) (by omega)]; rfl
    refine ev_succ ?_
    unfold jobsFrom jobB
    simp only [spec_SystemOk.l0, in_ev, Option.bind_some, if_pos (show (i : Int) < (l.length : Int) by omega), if_pos (show (0 : Int) ≤ (i : Int) by omega), e1, decide_eq_true_eq]
    by_cases c1 : 0 ≤ (rd_T105 l (i : Int)).f4 ∧ (rd_T105 l (i : Int)).f4 ≤ ((rd_T105 l (i : Int)).f2.length : Int)
    · simp only [if_pos c1, decide_eq_true c1, Bool.true_and]
      exact ih
    · simp only [if_neg c1, decide_eq_false c1, Bool.false_and]
      exact Ev.now _
theorem impl_jobs (l : List S105) (hl : l.length ≤ 1048576) : ∀ d i : Nat, i + d = l.length → ∃ r, Ev (fun k => impl_Job_118.l0 k l (l.length : Int) (i : Int)) r ∧ decide (r ≥ 0) = !jobsFrom l i d
  | 0, i, h => by
    refine ⟨-1, ev_succ (ev_some fun k => ?_), rfl⟩
    rw [impl_Job_118.l0, if_neg (by omega)]
  | d + 1, i, h => by
    obtain ⟨r, ih, hr⟩ := impl_jobs l hl d (i + 1) (by omega)
    have e1 : wrap64 ((i : Int) + 1) = ((i + 1 : Nat) : Int) := by rw [w64 (by omega) (by omega)]; rfl
    have S : ∀ k, impl_Job_118.l0 (k + 1) l (l.length : Int) (i : Int) = if jobB (rd_T105 l (i : Int)) = true then impl_Job_118.l0 k l (l.length : Int) ((i + 1 : Nat) : Int) else some (i : Int) := by
      intro k
      unfold jobB
      simp only [impl_Job_118.l0, impl_SystemOk_1.f, within_ev, Option.bind_some, if_pos (show (i : Int) < (l.length : Int) by omega), if_pos (show (0 : Int) ≤ (i : Int) by omega), e1, decide_eq_true_eq]
      by_cases c1 : 0 ≤ (rd_T105 l (i : Int)).f4 ∧ (rd_T105 l (i : Int)).f4 ≤ ((rd_T105 l (i : Int)).f2.length : Int)
      · simp only [if_pos c1, decide_eq_true c1, Bool.not_true, Bool.false_eq_true, if_false]
      · simp only [if_neg c1, decide_eq_false c1, Bool.not_false, if_true]
    unfold jobsFrom
    by_cases c : jobB (rd_T105 l (i : Int)) = true
    · refine ⟨r, ev_succ ?_, by rw [c, Bool.true_and]; exact hr⟩
      simp only [S, if_pos c]
      exact ih
    · refine ⟨(i : Int), ev_succ ?_, by rw [Bool.eq_false_iff.2 c, Bool.false_and]; exact decide_eq_true (by omega)⟩
      simp only [S, if_neg c]
      exact Ev.now _
theorem core (t p i q : Int) (K : ByteArray) (xs : List S155) (l : List S105) (ss : List S166) (hK : K.size ≤ 1048576) (hx : xs.length ≤ 1048576) (hl : l.length ≤ 1048576) : ∃ r, Ev (fun k => spec_SystemOk.f k t p i q K xs l ss) r ∧ Ev (fun k => impl_SystemOk.f k t p i q K xs l ss) r := by
  have hsp := spec_placed K xs t p i q hK hx
  have hip := impl_placed K xs t p i q hK hx
  have hj := spec_jobs l t p i q K xs ss hl l.length 0 (by omega)
  obtain ⟨r, hr, hd⟩ := impl_jobs l hl l.length 0 (by omega)
  unfold spec_SystemOk.f impl_SystemOk.f impl_Job_67.f impl_Job_118.f
  by_cases hP : placed K xs t p i q = true
  · by_cases hn : (l.length : Int) = t
    · refine ⟨jobsFrom l 0 l.length, Ev.bind hsp (ev_pos hP (ev_succ ?_)), Ev.bind hip (ev_pos hP (ev_pos hn (Ev.bind (Ev.bind hr (Ev.now _)) (ev_eq (Ev.now _) ?_))))⟩
      · have hb : ((l.length : Int) != t) = false := by simp [hn]
        simp only [spec_SystemOk.j0, hb, Bool.false_eq_true, if_false]
        exact hj
      · rw [hd, Bool.not_not]
    · refine ⟨false, Ev.bind hsp (ev_pos hP (ev_succ ?_)), Ev.bind hip (ev_pos hP (ev_neg hn (Ev.now _)))⟩
      have hb : ((l.length : Int) != t) = true := by simp [hn]
      simp only [spec_SystemOk.j0, hb, if_true]
      exact Ev.now _
  · refine ⟨false, Ev.bind hsp (ev_neg hP (ev_succ ?_)), Ev.bind hip (ev_neg hP (Ev.now _))⟩
    simp only [spec_SystemOk.j0, if_true]
    exact Ev.now _
theorem FnExactSystemOk : Go.Proofs.Ytconffflmbakgaa.QFnExactSystemOk.Stated := by
  intro t p i q K l js ss y0 y1 y2 y3 yK yl yj ys
  unfold laws_FnExactSystemOk.f
  refine Ev.rounds (Ev.bind (szSystem_sz t p i q K l js ss yK yl yj ys 1048576 (by decide) (by decide)) ?_)
  refine (Classical.em _).elim (fun hc => ev_pos hc (Ev.now _)) (fun hc => ev_neg hc ?_)
  have hW := szv_nonneg hc
  have hto := toSystem_to t p i q K l js ss (by omega)
  obtain ⟨r, hs, hi⟩ := core t p i q K (l.map c149) (js.map c161) (ss.map c164) (by omega) (by rw [List.length_map]; omega) (by rw [List.length_map]; omega)
  refine Ev.bind hto (Ev.bind hs (Ev.bind hto (Ev.bind hi ?_)))
  refine ev_neg (by simp) (Ev.bind hto ?_)
  refine Ev.bind (eqSystem_eq t p i q K (l.map c149) (js.map c161) (ss.map c164) (by have := cws149 l; have := cws161 js; have := cws164 ss; omega)) ?_
  exact ev_pos rfl (Ev.now _)
end Go.Proofs.Ytconffflmbakgaa.Pure
