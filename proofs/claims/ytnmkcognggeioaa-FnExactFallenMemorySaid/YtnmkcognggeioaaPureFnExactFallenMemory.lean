/-
  FnExactFallenMemory: the pure part: what the law computes is true, whatever the input.
-/
import Derived.Test.YtnmkcognggeioaaFamFnExactFallenMemory
import Derived.Test.YtnmkcognggeioaaVKit2
namespace Go.Proofs.Ytnmkcognggeioaa.Pure
open Go.RowKit Go.Proofs.YtnmkcognggeioaaW.PrintWords Go.Proofs.YtnmkcognggeioaaW.PrintLast Go.Proofs.YtnmkcognggeioaaW.PrintMore Go.Proofs.Ytnmkcognggeioaa.QFnExactFallenMemory Go.Proofs.Ytnmkcognggeioaa.Kit
set_option linter.unusedVariables false
set_option linter.unusedSimpArgs false

theorem in_ev (a b c : Int) : spec_l01In.f a b c = some (decide (b ≤ a ∧ a ≤ c)) := by
  unfold spec_l01In.f
  split <;> simp <;> omega
theorem within_ev (a b c : Int) : impl_within.f a b c = some (decide (b ≤ a ∧ a ≤ c)) := by
  unfold impl_within.f
  split <;> simp <;> omega

def okAt (K : ByteArray) (xs : List S49) (i : Nat) : Bool := decide (0 ≤ (rd_T49 xs (i : Int)).f0 ∧ (rd_T49 xs (i : Int)).f0 ≤ (K.size : Int) / 16 - 1) && (decide (((rd_T49 xs (i : Int)).f1.size : Int) = 16) && decide (i = 0 ∨ (rd_T49 xs ((i : Int) - 1)).f0 < (rd_T49 xs (i : Int)).f0))
def okFrom (K : ByteArray) (xs : List S49) : Nat → Nat → Bool
  | _, 0 => true
  | i, d + 1 => okAt K xs i && okFrom K xs (i + 1) d
theorem spec_cells (K : ByteArray) (xs : List S49) (hK : K.size ≤ 1048576) (hl : xs.length ≤ 1048576) : ∀ d i : Nat, i + d = xs.length → Ev (fun k => spec_MemoryOk.l0 k (i : Int) K xs) (okFrom K xs i d)
  | 0, i, h => by
    refine ev_succ (ev_some fun k => ?_)
    rw [spec_MemoryOk.l0, if_neg (by omega)]
    rfl
  | d + 1, i, h => by
    have ih := spec_cells K xs hK hl d (i + 1) (by omega)
    have e1 : wrap64 ((i : Int) + 1) = ((i + 1 : Nat) : Int) := by rw [w64 (by omega) (by omega)]; rfl
    have e2 : wrap64 ((K.size : Int) / 16) = (K.size : Int) / 16 := w64 (by omega) (by omega)
    have e3 : wrap64 ((K.size : Int) / 16 - 1) = (K.size : Int) / 16 - 1 := w64 (by omega) (by omega)
    have e4 : wrap64 ((i : Int) - 1) = (i : Int) - 1 := w64 (by omega) (by omega)
    refine ev_succ ?_
    unfold okFrom okAt
    simp only [spec_MemoryOk.l0, spec_l10Size.f, in_ev, Option.bind_some, if_pos (show (i : Int) < (xs.length : Int) by omega), if_pos (show (0 : Int) ≤ (i : Int) by omega), if_neg (show ¬ ((16 : Int) = 0) by decide), e1, e2, e3, e4, decide_eq_true_eq]
    by_cases c1 : 0 ≤ (rd_T49 xs (i : Int)).f0 ∧ (rd_T49 xs (i : Int)).f0 ≤ (K.size : Int) / 16 - 1
    · by_cases c2 : ((rd_T49 xs (i : Int)).f1.size : Int) = 16
      · simp only [if_pos c1, if_pos c2, decide_eq_true c1, decide_eq_true c2, Bool.true_and]
        by_cases c3 : (i : Int) > 0
        · simp only [if_pos c3, if_pos (show 0 ≤ (i : Int) - 1 by omega), if_pos (show (i : Int) - 1 < (xs.length : Int) by omega)]
          by_cases c4 : (rd_T49 xs ((i : Int) - 1)).f0 ≥ (rd_T49 xs (i : Int)).f0
          · simp only [if_pos c4, decide_eq_false (show ¬ (i = 0 ∨ (rd_T49 xs ((i : Int) - 1)).f0 < (rd_T49 xs (i : Int)).f0) by omega), Bool.false_and]
            exact Ev.now _
          · simp only [if_neg c4, decide_eq_true (show (i = 0 ∨ (rd_T49 xs ((i : Int) - 1)).f0 < (rd_T49 xs (i : Int)).f0) by omega), Bool.true_and]
            exact ih
        · simp only [if_neg c3, decide_eq_true (show (i = 0 ∨ (rd_T49 xs ((i : Int) - 1)).f0 < (rd_T49 xs (i : Int)).f0) by omega), Bool.true_and]
          exact ih
      · simp only [if_pos c1, if_neg c2, decide_eq_false c2, Bool.false_and, Bool.and_false]
        exact Ev.now _
    · simp only [if_neg c1, decide_eq_false c1, Bool.false_and]
      exact Ev.now _
def sizeB (K : ByteArray) : Bool := decide ((K.size : Int) % 16 = 0) && decide ((K.size : Int) ≤ 16000)
theorem impl_cells (K : ByteArray) (xs : List S49) (hK : K.size ≤ 1048576) (hl : xs.length ≤ 1048576) : ∀ d i : Nat, i + d = xs.length → Ev (fun k => impl_MemoryOk.l0 k xs (xs.length : Int) (i : Int) K xs) (okFrom K xs i d && sizeB K)
  | 0, i, h => by
    refine ev_succ (ev_some fun k => ?_)
    rw [impl_MemoryOk.l0, if_neg (by omega)]
    unfold okFrom sizeB
    by_cases c : (K.size : Int) % 16 = 0
    · simp only [if_pos c, decide_eq_true c, Bool.true_and]
    · simp only [if_neg c, decide_eq_false c, Bool.false_and, Bool.true_and]
  | d + 1, i, h => by
    have ih := impl_cells K xs hK hl d (i + 1) (by omega)
    have e1 : wrap64 ((i : Int) + 1) = ((i + 1 : Nat) : Int) := by rw [w64 (by omega) (by omega)]; rfl
    have e2 : wrap64 ((K.size : Int) / 16) = (K.size : Int) / 16 := w64 (by omega) (by omega)
    have e3 : wrap64 ((K.size : Int) / 16 - 1) = (K.size : Int) / 16 - 1 := w64 (by omega) (by omega)
    have e4 : wrap64 ((i : Int) - 1) = (i : Int) - 1 := w64 (by omega) (by omega)
    refine ev_succ ?_
    unfold okFrom okAt
    simp only [impl_MemoryOk.l0, within_ev, Option.bind_some, if_pos (show (i : Int) < (xs.length : Int) by omega), if_pos (show (0 : Int) ≤ (i : Int) by omega), e1, e2, e3, e4, decide_eq_true_eq]
    by_cases c1 : 0 ≤ (rd_T49 xs (i : Int)).f0 ∧ (rd_T49 xs (i : Int)).f0 ≤ (K.size : Int) / 16 - 1
    · by_cases c2 : ((rd_T49 xs (i : Int)).f1.size : Int) = 16
      · simp only [if_pos c1, if_pos c2, decide_eq_true c1, decide_eq_true c2, Bool.true_and]
        by_cases c3 : (i : Int) > 0
        · simp only [if_pos c3, if_pos (show 0 ≤ (i : Int) - 1 by omega), if_pos (show (i : Int) - 1 < (xs.length : Int) by omega)]
          by_cases c4 : (rd_T49 xs (i : Int)).f0 ≤ (rd_T49 xs ((i : Int) - 1)).f0
          · simp only [if_pos c4, decide_eq_false (show ¬ (i = 0 ∨ (rd_T49 xs ((i : Int) - 1)).f0 < (rd_T49 xs (i : Int)).f0) by omega), Bool.false_and]
            exact Ev.now _
          · simp only [if_neg c4, decide_eq_true (show (i = 0 ∨ (rd_T49 xs ((i : Int) - 1)).f0 < (rd_T49 xs (i : Int)).f0) by omega), Bool.true_and]
            exact ih
        · simp only [if_neg c3, decide_eq_true (show (i = 0 ∨ (rd_T49 xs ((i : Int) - 1)).f0 < (rd_T49 xs (i : Int)).f0) by omega), Bool.true_and]
          exact ih
      · simp only [if_pos c1, if_neg c2, decide_eq_false c2, Bool.false_and, Bool.and_false]
        exact Ev.now _
    · simp only [if_neg c1, decide_eq_false c1, Bool.false_and]
      exact Ev.now _
def memB (K : ByteArray) (xs : List S49) : Bool := okFrom K xs 0 xs.length && sizeB K
theorem impl_mem (K : ByteArray) (xs : List S49) (hK : K.size ≤ 1048576) (hl : xs.length ≤ 1048576) : Ev (fun k => impl_MemoryOk.f k K xs) (memB K xs) := by
  unfold impl_MemoryOk.f
  exact impl_cells K xs hK hl xs.length 0 (by omega)
theorem spec_mem (K : ByteArray) (xs : List S49) (hK : K.size ≤ 1048576) (hl : xs.length ≤ 1048576) : Ev (fun k => spec_MemoryOk.f k K xs) (memB K xs) := by
  unfold spec_MemoryOk.f memB sizeB
  simp only [spec_l10Size.f, Option.bind_some, if_neg (show ¬ ((16 : Int) = 0) by decide), show wrap64 (1000 * 16) = 16000 from w64 (by omega) (by omega)]
  by_cases c : (K.size : Int) % 16 = 0
  · simp only [if_pos c, decide_eq_true c, Bool.true_and]
    refine ev_succ ?_
    simp only [spec_MemoryOk.j0, decide_eq_true_eq]
    by_cases c2 : (K.size : Int) > 16000
    · simp only [if_pos c2, decide_eq_false (show ¬ (K.size : Int) ≤ 16000 by omega), Bool.and_false]
      exact Ev.now _
    · simp only [if_neg c2, decide_eq_true (show (K.size : Int) ≤ 16000 by omega), Bool.and_true]
      exact spec_cells K xs hK hl xs.length 0 (by omega)
  · simp only [if_neg c, decide_eq_false c, Bool.false_and, Bool.and_false]
    refine ev_succ (ev_some fun k => ?_)
    simp only [spec_MemoryOk.j0, if_true]

theorem okFrom_at {K : ByteArray} {xs : List S49} : ∀ d i : Nat, okFrom K xs i d = true → ∀ j, i ≤ j → j < i + d → okAt K xs j = true
  | 0, i, _, j, h1, h2 => by omega
  | d + 1, i, h, j, h1, h2 => by
    unfold okFrom at h
    rw [Bool.and_eq_true] at h
    by_cases e : i = j
    · subst e; exact h.1
    · exact okFrom_at d (i + 1) h.2 j (by omega) (by omega)
theorem mem_cells {K : ByteArray} {xs : List S49} (h : memB K xs = true) : K.size ≤ 16000 ∧ ∀ i : Nat, i < xs.length → okC K.size (rd_T49 xs (i : Int)) := by
  unfold memB sizeB at h
  simp only [Bool.and_eq_true, decide_eq_true_eq] at h
  refine ⟨by omega, fun i hi => ?_⟩
  have := okFrom_at xs.length 0 h.1 i (by omega) (by omega)
  unfold okAt at this
  simp only [Bool.and_eq_true, decide_eq_true_eq] at this
  unfold okC
  omega
theorem okB_of {K : ByteArray} {xs : List S49} (hK : K.size ≤ 1048576) (hl : xs.length ≤ 1048576) (h : ∀ i : Nat, i < xs.length → okC K.size (rd_T49 xs (i : Int))) : okB K xs = true := by
  unfold okB
  simp only [Bool.and_eq_true, decide_eq_true_eq, List.all_eq_true, List.mem_range]
  exact ⟨by omega, by omega, fun i hi => h i hi⟩
theorem pb_list (K x : ByteArray) (o : Nat) : (putB K x o).data.toList = K.data.toList.take o ++ (x.data.toList ++ K.data.toList.drop (o + x.data.toList.length)) := by unfold putB; rfl
theorem pb_length (K x : ByteArray) (o : Nat) (h : o + x.data.toList.length ≤ K.data.toList.length) : (putB K x o).data.toList.length = K.data.toList.length := by
  rw [pb_list]; simp only [List.length_append, List.length_take, List.length_drop]; omega
theorem fn_length (p : Int) (l : List S49) (K : ByteArray) (hv : ∀ i : Nat, i < l.length → okC K.size (rd_T49 l (i : Int))) : ∀ n, n ≤ l.length → (fallN p l K n).data.toList.length = K.data.toList.length
  | 0, _ => rfl
  | n + 1, h => by
    have ih := fn_length p l K hv n (by omega)
    obtain ⟨h0, h1, h2⟩ := hv n (by omega)
    have e1 := Lib.size_eq (rd_T49 l (n : Int)).f1
    have e2 := Lib.size_eq K
    unfold fallN
    by_cases c : bitP p (n : Int) = true
    · rw [if_pos c, pb_length _ _ _ (by omega)]; exact ih
    · rw [if_neg c]; exact ih
theorem data_ext {a b : ByteArray} (h : a.data.toList = b.data.toList) : a = b := by
  cases a with | mk x => cases b with | mk y => cases x; cases y; simp at h; subst h; rfl
theorem extract_list (K : ByteArray) (a b : Nat) : (K.extract a b).data.toList = (K.data.toList.drop a).take (b - a) := by
  rw [ByteArray.data_extract, Array.toList_extract, List.extract_eq_take_drop]
theorem keep_put (K x : ByteArray) (o : Nat) (hx : x.size = 16) (h : o + 16 ≤ K.size) : (K.extract 0 o ++ x) ++ K.extract (o + 16) K.size = putB K x o := by
  apply data_ext
  have e1 := Lib.size_eq x
  have e2 := Lib.size_eq K
  rw [pb_list, ByteArray.data_append, ByteArray.data_append, Array.toList_append, Array.toList_append, extract_list, extract_list, List.append_assoc]
  rw [List.drop_zero, Nat.sub_zero, show o + x.data.toList.length = o + 16 by omega]
  congr 2
  rw [List.take_of_length_le]
  rw [List.length_drop]; omega
theorem putB_size (K x : ByteArray) (o : Nat) (hx : x.size = 16) (h : o + 16 ≤ K.size) : (putB K x o).size = K.size := by
  have := pb_length K x o (by rw [← Lib.size_eq, ← Lib.size_eq]; omega)
  rw [Lib.size_eq, Lib.size_eq]; exact this
theorem fallN_size {p : Int} {xs : List S49} {K : ByteArray} (h : ∀ i : Nat, i < xs.length → okC K.size (rd_T49 xs (i : Int))) (n : Nat) (hn : n ≤ xs.length) : (fallN p xs K n).size = K.size := by
  rw [Lib.size_eq, Lib.size_eq]; exact fn_length p xs K h n hn
theorem keep_ev (K : ByteArray) (x : S49) (hK : K.size ≤ 1048576) (h : okC K.size x) : spec_l10Keep.f K x.f0 x.f1 x.f2 = some (putB K x.f1 (x.f0 * 16).toNat) := by
  obtain ⟨h0, h1, h2⟩ := h
  obtain ⟨o, ho⟩ : ∃ o : Nat, x.f0 * 16 = (o : Int) := ⟨(x.f0 * 16).toNat, by omega⟩
  have e1 : wrap64 (x.f0 * 16) = (o : Int) := by rw [ho]; exact w64 (by omega) (by omega)
  have e2 : wrap64 ((o : Int) + 16) = ((o + 16 : Nat) : Int) := by rw [w64 (by omega) (by omega)]; omega
  have s1 : (K.extract 0 o).size = o := by rw [ByteArray.size_extract]; omega
  have s2 : (K.extract (o + 16) K.size).size = K.size - (o + 16) := by rw [ByteArray.size_extract]; omega
  unfold spec_l10Keep.f spec_l10Size.f
  simp only [Option.bind_some, e1, e2, Int.toNat_natCast, s1, s2, h2, ByteArray.size_append]
  rw [if_pos (by omega), if_pos (by omega), if_pos (by omega), if_pos (by omega), if_pos (by omega), if_pos (by omega), keep_put K x.f1 o h2 (by omega), ho]
  rfl
theorem fallN_stop {p : Int} {xs : List S49} {K : ByteArray} : ∀ d n : Nat, 63 ≤ n → fallN p xs K (n + d) = fallN p xs K n
  | 0, n, _ => rfl
  | d + 1, n, h => by
    rw [← Nat.add_assoc]
    show (if bitP p ((n + d : Nat) : Int) = true then _ else _) = _
    rw [if_neg (by unfold bitP; rw [if_neg (by omega)]; decide)]
    exact fallN_stop d n h
theorem u64_small (n : Nat) (h : n ≤ 1048576) : IntKind.u64.wrap (n : Int) = (n : Int) := by
  unfold IntKind.wrap
  simp [IntKind.signed, IntKind.bits]
  omega
theorem spec_loop (p : Int) (K : ByteArray) (xs : List S49) (hK : K.size ≤ 1048576) (hl : xs.length ≤ 1048576) (hv : ∀ i : Nat, i < xs.length → okC K.size (rd_T49 xs (i : Int))) :
    ∀ d n : Nat, n + d = min xs.length 63 → Ev (fun k => spec_FallenMemory.l0 k p (n : Int) K xs (fallN p xs K n)) (fallN p xs K xs.length, ([] : List S49))
  | 0, n, h => by
    have hf : fallN p xs K xs.length = fallN p xs K n := by
      by_cases c : xs.length ≤ 63
      · rw [show n = xs.length by omega]
      · rw [show xs.length = 63 + (xs.length - 63) by omega, show n = 63 by omega]
        exact fallN_stop _ _ (Nat.le_refl _)
    rw [hf]
    refine ev_succ (ev_succ (ev_some fun k => ?_))
    by_cases c : (n : Int) < (xs.length : Int)
    · simp only [spec_FallenMemory.l0, spec_FallenMemory.j2, if_pos c, decide_eq_false (show ¬ (n : Int) < 63 by omega), Bool.false_eq_true, if_false]
    · simp only [spec_FallenMemory.l0, spec_FallenMemory.j2, if_neg c, Bool.false_eq_true, if_false]
  | d + 1, n, h => by
    have hn : n < xs.length := by omega
    have ih := spec_loop p K xs hK hl hv d (n + 1) (by omega)
    have e1 : wrap64 ((n : Int) + 1) = ((n + 1 : Nat) : Int) := by rw [w64 (by omega) (by omega)]; omega
    have hs := fallN_size (p := p) hv n (by omega)
    have hb : bitP p (n : Int) = (Go.bits .and .i64 (shr .i64 p (n : Int)) 1 == 1) := by unfold bitP; rw [if_pos (by omega)]
    refine ev_succ (ev_succ ?_)
    simp only [spec_FallenMemory.l0, spec_FallenMemory.j2, u64_small n (by omega), e1, if_pos (show (n : Int) < (xs.length : Int) by omega), decide_eq_true (show (n : Int) < 63 by omega), if_true, if_pos (show (0 : Int) ≤ (n : Int) by omega)]
    by_cases c : Go.bits .and .i64 (shr .i64 p (n : Int)) 1 = 1
    · have hb1 : bitP p (n : Int) = true := by rw [hb]; exact beq_iff_eq.2 c
      simp only [if_pos c, keep_ev _ _ (by omega : (fallN p xs K n).size ≤ 1048576) (by rw [hs]; exact hv n hn), Option.bind_some]
      have : fallN p xs K (n + 1) = putB (fallN p xs K n) (rd_T49 xs (n : Int)).f1 ((rd_T49 xs (n : Int)).f0 * 16).toNat := by
        show (if bitP p (n : Int) = true then _ else _) = _
        rw [if_pos hb1]
      rw [← this]
      exact ih
    · have hb1 : ¬ bitP p (n : Int) = true := by rw [hb]; exact fun e => c (beq_iff_eq.1 e)
      simp only [if_neg c]
      have : fallN p xs K (n + 1) = fallN p xs K n := by
        show (if bitP p (n : Int) = true then _ else _) = _
        rw [if_neg hb1]
      rw [← this]
      exact ih
theorem copy_ev (K : ByteArray) (xs : List S49) (hl : xs.length ≤ 1048576) : spec_l10Copy.f K xs = some (K, xs) := by
  unfold spec_l10Copy.f
  simp only [Option.bind_some, List.length_nil, List.nil_append]
  rw [if_pos (by omega)]
theorem icopy_ev (K : ByteArray) (xs : List S49) (hl : xs.length ≤ 1048576) : impl_copyMemory.f K xs = some (K, xs) := by
  unfold impl_copyMemory.f impl_Cell.f
  simp only [Option.bind_some, List.length_nil, List.nil_append]
  rw [if_pos (by omega)]
  rfl
def fallen (p : Int) (K : ByteArray) (xs : List S49) : ByteArray × List S49 := if memB K xs = true ∧ 0 ≤ p then (fallN p xs K xs.length, []) else (K, xs)
theorem spec_fallen (p : Int) (K : ByteArray) (xs : List S49) (hK : K.size ≤ 1048576) (hl : xs.length ≤ 1048576) : Ev (fun k => spec_FallenMemory.f k K xs p) (fallen p K xs) := by
  have hm := spec_mem K xs hK hl
  unfold spec_FallenMemory.f fallen
  refine Ev.bind hm ?_
  by_cases c : memB K xs = true
  · by_cases cp : 0 ≤ p
    · have hv := mem_cells c
      rw [if_pos ⟨c, cp⟩]
      refine ev_pos c (ev_succ ?_)
      simp only [spec_FallenMemory.j0, decide_eq_false (show ¬ p < 0 by omega), Bool.false_eq_true, if_false]
      exact spec_loop p K xs hK hl hv.2 (min xs.length 63) 0 (by omega)
    · rw [if_neg (fun h => cp h.2)]
      refine ev_pos c (ev_succ ?_)
      simp only [spec_FallenMemory.j0, decide_eq_true (show p < 0 by omega), if_true, copy_ev K xs hl, Option.bind_some]
      exact Ev.now _
  · rw [if_neg (fun h => c h.1)]
    refine ev_neg c (ev_succ ?_)
    simp only [spec_FallenMemory.j0, if_true, copy_ev K xs hl, Option.bind_some]
    exact Ev.now _
theorem impl_fallen (p : Int) (K : ByteArray) (xs : List S49) (hK : K.size ≤ 1048576) (hl : xs.length ≤ 1048576) : Ev (fun k => impl_FallenMemory.f k K xs p) (fallen p K xs) := by
  have hm := impl_mem K xs hK hl
  unfold impl_FallenMemory.f fallen
  simp only [icopy_ev K xs hl, Option.bind_some]
  refine Ev.bind hm ?_
  by_cases c : memB K xs = true
  · by_cases cp : 0 ≤ p
    · have hv := mem_cells c
      exact ev_eq (ev_pos c (ev_pos cp (ev_pos (okB_of hK hl hv.2) (Ev.now _)))) (if_pos ⟨c, cp⟩).symm
    · exact ev_eq (ev_pos c (ev_neg cp (Ev.now _))) (if_neg (fun h => cp h.2)).symm
  · exact ev_eq (ev_neg c (Ev.now _)) (if_neg (fun h => c h.1)).symm
theorem fallen_size (p : Int) (K : ByteArray) (xs : List S49) : (fallen p K xs).1.size = K.size ∧ ((fallen p K xs).2 = xs ∨ (fallen p K xs).2 = []) := by
  unfold fallen
  by_cases c : memB K xs = true ∧ 0 ≤ p
  · rw [if_pos c]; exact ⟨fallN_size (mem_cells c.1).2 _ (Nat.le_refl _), .inr rfl⟩
  · rw [if_neg c]; exact ⟨rfl, .inl rfl⟩

theorem FnExactFallenMemory : Go.Proofs.Ytnmkcognggeioaa.QFnExactFallenMemory.Stated := by
  intro K l p yK yl yp
  unfold laws_FnExactFallenMemory.f
  refine Ev.rounds (Ev.bind (szMemory_sz K l yK yl 1048576 (by decide) (by decide)) ?_)
  refine (Classical.em _).elim (fun hc => ev_pos hc (Ev.now _)) (fun hc => ev_neg hc ?_)
  have hW := szv_nonneg hc
  have hto := toMemory_to K l (by omega)
  have hcw := cws63 l
  have hlen : (l.map c63).length = l.length := List.length_map ..
  have hK : K.size ≤ 1048576 := by omega
  have hl : (l.map c63).length ≤ 1048576 := by omega
  have hwt : K.size + (((l.map c63).length + ((l.map c63).map w49).sum) + 0) ≤ 1048576 := by omega
  clear hcw hW hc yK yl yp
  generalize l.map c63 = xs at hto hl hwt hlen ⊢
  have hs := spec_fallen p K xs hK hl
  have hi := impl_fallen p K xs hK hl
  obtain ⟨r1, r2⟩ := fallen_size p K xs
  have hrw : (fallen p K xs).1.size + (((fallen p K xs).2.length + ((fallen p K xs).2.map w49).sum) + 0) ≤ 1048576 := by
    rcases r2 with e | e
    · rw [r1, e]; exact hwt
    · rw [r1, e]; simp; omega
  generalize fallen p K xs = r at hs hi r1 r2 hrw
  obtain ⟨R, ys⟩ := r
  have heq := eqMemory_eq R ys hrw
  have hy : ys.length ≤ 1048576 := by
    have : R.size + ((ys.length + (ys.map w49).sum) + 0) ≤ 1048576 := hrw
    omega
  refine Ev.bind hto (Ev.bind hs (Ev.bind hto (Ev.bind hi (Ev.bind heq (ev_pos rfl (Ev.bind hto (Ev.bind (eqMemory_eq K xs hwt) (ev_pos rfl ?_))))))))
  have hmk := markCellS_mk xs hl
  have hmy := markCellS_mk ys hy
  have hhd := heldCellS_hd ys hy
  have hmem : ∀ (A : ByteArray) (z : List S49) (s : Int × List S49), Ev (fun k => laws_markCellS.f k z 1) s → Ev (fun k => laws_markMemory.f k A z 1) s := fun A z s h => by
    unfold laws_markMemory.f
    exact Ev.bind h (Ev.now _)
  have hheld : Ev (fun k => laws_heldMemory.f k R (markAll mkCellS (fun _ => 3) 1 ys) 1) (1 + (((ys.map fun _ => (3 : Nat)).sum : Nat) : Int)) := by
    unfold laws_heldMemory.f
    exact Ev.bind hhd (ev_neg (by omega) (Ev.now _))
  refine Ev.bind (hmem K xs _ hmk) (ev_neg (by simp only []; omega) (Ev.bind heq ?_))
  refine ev_succ ?_
  simp only [laws_FnExactFallenMemory.j0, Bool.not_true, Bool.false_eq_true, if_false]
  refine Ev.bind (hmem R ys _ hmy) (Ev.bind hheld (ev_neg (by omega) (ev_pos rfl ?_)))
  refine Ev.bind hto (Ev.bind hi (Ev.bind heq (ev_pos rfl ?_)))
  exact Ev.bind hheld (ev_neg (by omega) (ev_pos rfl (Ev.now _)))
end Go.Proofs.Ytnmkcognggeioaa.Pure
