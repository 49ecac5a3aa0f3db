/-
  FnUnsure: the pure part: what the law computes is true, whatever the input.
-/
import Derived.Test.YtnmkcognggeioaaOpenFnUnsure
import Derived.Test.YtnmkcognggeioaaVKit
import Derived.Test.YtnmkcognggeioaaVKit2
namespace Go.Proofs.Ytnmkcognggeioaa.Pure
open Go.RowKit Go.Proofs.YtnmkcognggeioaaW.PrintWords Go.Proofs.YtnmkcognggeioaaW.PrintLast Go.Proofs.YtnmkcognggeioaaW.PrintMore Go.Proofs.Ytnmkcognggeioaa.QFnUnsure Go.Proofs.Ytnmkcognggeioaa.Kit
set_option linter.unusedVariables false
set_option linter.unusedSimpArgs false

theorem in_ev (a b c : Int) : spec_l01In.f a b c = some (decide (b ≤ a ∧ a ≤ c)) := by
  unfold spec_l01In.f
  split <;> simp <;> omega
theorem within_ev (a b c : Int) : impl_within.f a b c = some (decide (b ≤ a ∧ a ≤ c)) := by
  unfold impl_within.f
  split <;> simp <;> omega

theorem long_ev (n : Nat) (x : Int) (hn : n ≤ 1048576) : Ev (fun k => spec_l01Long.f k (n : Int) x) (strOfNums (List.replicate n x)) := by
  unfold spec_l01Long.f
  refine ev_pos (by omega) (ev_pos (by simp; omega) ?_)
  have hz : (List.replicate n x).length = n := by simp
  have key := fill_ev' (z := List.replicate n x) strOfNums (List.replicate n (0 : Int)) (by simp) (fun k y i => spec_l01Long.l0 k (n : Int) x y i) ?_ ?_
  · simpa using key
  · intro k y hy
    rw [hz]
    simp only [spec_l01Long.l0, if_neg (Int.lt_irrefl _)]
  · intro y i a hget hlt hy r ih
    rw [hz] at hlt hy
    have ha : a = x := by
      have := List.mem_of_getElem? hget
      exact List.eq_of_mem_replicate this
    subst ha
    have e : wrap64 ((i : Int) + 1) = (i : Int) + 1 := w64 (by omega) (by omega)
    refine ev_succ ?_
    simp only [spec_l01Long.l0, if_pos (show (i : Int) < (n : Int) by omega), if_pos (show (0 : Int) ≤ (i : Int) by omega), if_pos (show (i : Int) < (y.length : Int) by omega), Int.toNat_natCast, e]
    exact ih

def okAt (K : ByteArray) (xs : List S49) (i : Nat) : Bool := decide (0 ≤ (rd_T49 xs (i : Int)).f0 ∧ (rd_T49 xs (i : Int)).f0 ≤ (K.size : Int) / 16 - 1) && (decide (((rd_T49 xs (i : Int)).f1.size : Int) = 16) && decide (i = 0 ∨ (rd_T49 xs ((i : Int) - 1)).f0 < (rd_T49 xs (i : Int)).f0))
def okFrom (K : ByteArray) (xs : List S49) : Nat → Nat → Bool
  | _, 0 => true
  | i, d + 1 => okAt K xs i && okFrom K xs (i + 1) d
theorem spec_cells (K : ByteArray) (xs : List S49) (hK : K.size ≤ 1048576) (hl : xs.length ≤ 1048576) : ∀ d i : Nat, i + d = xs.length → Ev (fun k => spec_MemoryOk.l0 k (i : Int) K xs) (okFrom K xs i d)
  | 0, i, h => by
    refine ev_succ (ev_some fun k => ?_)
    rw [spec_MemoryOk.l0, if_neg (by omega)]
    rfl
  | d + 1, i, h => by
    have ih := spec_cells K xs hK hl d (i + 1) (by omega)
    have e1 : wrap64 ((i : Int) + 1) = ((i + 1 : Nat) : Int) := by rw [w64 (by omega) (by omega)]; rfl
    have e2 : wrap64 ((K.size : Int) / 16) = (K.size : Int) / 16 := w64 (by omega) (by omega)
    have e3 : wrap64 ((K.size : Int) / 16 - 1) = (K.size : Int) / 16 - 1 := w64 (by omega) (by omega)
    have e4 : wrap64 ((i : Int) - 1) = (i : Int) - 1 := w64 (by omega) (by omega)
    refine ev_succ ?_
    unfold okFrom okAt
    simp only [spec_MemoryOk.l0, spec_l10Size.f, in_ev, Option.bind_some, if_pos (show (i : Int) < (xs.length : Int) by omega), if_pos (show (0 : Int) ≤ (i : Int) by omega), if_neg (show ¬ ((16 : Int) = 0) by decide), e1, e2, e3, e4, decide_eq_true_eq]
    by_cases c1 : 0 ≤ (rd_T49 xs (i : Int)).f0 ∧ (rd_T49 xs (i : Int)).f0 ≤ (K.size : Int) / 16 - 1
    · by_cases c2 : ((rd_T49 xs (i : Int)).f1.size : Int) = 16
      · simp only [if_pos c1, if_pos c2, decide_eq_true c1, decide_eq_true c2, Bool.true_and]
        by_cases c3 : (i : Int) > 0
        · simp only [if_pos c3, if_pos (show 0 ≤ (i : Int) - 1 by omega), if_pos (show (i : Int) - 1 < (xs.length : Int) by omega)]
          by_cases c4 : (rd_T49 xs ((i : Int) - 1)).f0 ≥ (rd_T49 xs (i : Int)).f0
          · simp only [if_pos c4, decide_eq_false (show ¬ (i = 0 ∨ (rd_T49 xs ((i : Int) - 1)).f0 < (rd_T49 xs (i : Int)).f0) by omega), Bool.false_and]
            exact Ev.now _
          · simp only [if_neg c4, decide_eq_true (show (i = 0 ∨ (rd_T49 xs ((i : Int) - 1)).f0 < (rd_T49 xs (i : Int)).f0) by omega), Bool.true_and]
            exact ih
        · simp only [if_neg c3, decide_eq_true (show (i = 0 ∨ (rd_T49 xs ((i : Int) - 1)).f0 < (rd_T49 xs (i : Int)).f0) by omega), Bool.true_and]
          exact ih
      · simp only [if_pos c1, if_neg c2, decide_eq_false c2, Bool.false_and, Bool.and_false]
        exact Ev.now _
    · simp only [if_neg c1, decide_eq_false c1, Bool.false_and]
      exact Ev.now _
def sizeB (K : ByteArray) : Bool := decide ((K.size : Int) % 16 = 0) && decide ((K.size : Int) ≤ 16000)
theorem impl_cells (K : ByteArray) (xs : List S49) (hK : K.size ≤ 1048576) (hl : xs.length ≤ 1048576) : ∀ d i : Nat, i + d = xs.length → Ev (fun k => impl_MemoryOk.l0 k xs (xs.length : Int) (i : Int) K xs) (okFrom K xs i d && sizeB K)
  | 0, i, h => by
    refine ev_succ (ev_some fun k => ?_)
    rw [impl_MemoryOk.l0, if_neg (by omega)]
    unfold okFrom sizeB
    by_cases c : (K.size : Int) % 16 = 0
    · simp only [if_pos c, decide_eq_true c, Bool.true_and]
    · simp only [if_neg c, decide_eq_false c, Bool.false_and, Bool.true_and]
  | d + 1, i, h => by
    have ih := impl_cells K xs hK hl d (i + 1) (by omega)
    have e1 : wrap64 ((i : Int) + 1) = ((i + 1 : Nat) : Int) := by rw [w64 (by omega) (by omega)]; rfl
    have e2 : wrap64 ((K.size : Int) / 16) = (K.size : Int) / 16 := w64 (by omega) (by omega)
    have e3 : wrap64 ((K.size : Int) / 16 - 1) = (K.size : Int) / 16 - 1 := w64 (by omega) (by omega)
    have e4 : wrap64 ((i : Int) - 1) = (i : Int) - 1 := w64 (by omega) (by omega)
    refine ev_succ ?_
    unfold okFrom okAt
    simp only [impl_MemoryOk.l0, within_ev, Option.bind_some, if_pos (show (i : Int) < (xs.length : Int) by omega), if_pos (show (0 : Int) ≤ (i : Int) by omega), e1, e2, e3, e4, decide_eq_true_eq]
    by_cases c1 : 0 ≤ (rd_T49 xs (i : Int)).f0 ∧ (rd_T49 xs (i : Int)).f0 ≤ (K.size : Int) / 16 - 1
    · by_cases c2 : ((rd_T49 xs (i : Int)).f1.size : Int) = 16
      · simp only [if_pos c1, if_pos c2, decide_eq_true c1, decide_eq_true c2, Bool.true_and]
        by_cases c3 : (i : Int) > 0
        · simp only [if_pos c3, if_pos (show 0 ≤ (i : Int) - 1 by omega), if_pos (show (i : Int) - 1 < (xs.length : Int) by omega)]
          by_cases c4 : (rd_T49 xs (i : Int)).f0 ≤ (rd_T49 xs ((i : Int) - 1)).f0
          · simp only [if_pos c4, decide_eq_false (show ¬ (i = 0 ∨ (rd_T49 xs ((i : Int) - 1)).f0 < (rd_T49 xs (i : Int)).f0) by omega), Bool.false_and]
            exact Ev.now _
          · simp only [if_neg c4, decide_eq_true (show (i = 0 ∨ (rd_T49 xs ((i : Int) - 1)).f0 < (rd_T49 xs (i : Int)).f0) by omega), Bool.true_and]
            exact ih
        · simp only [if_neg c3, decide_eq_true (show (i = 0 ∨ (rd_T49 xs ((i : Int) - 1)).f0 < (rd_T49 xs (i : Int)).f0) by omega), Bool.true_and]
          exact ih
      · simp only [if_pos c1, if_neg c2, decide_eq_false c2, Bool.false_and, Bool.and_false]
        exact Ev.now _
    · simp only [if_neg c1, decide_eq_false c1, Bool.false_and]
      exact Ev.now _
def memB (K : ByteArray) (xs : List S49) : Bool := okFrom K xs 0 xs.length && sizeB K
theorem impl_mem (K : ByteArray) (xs : List S49) (hK : K.size ≤ 1048576) (hl : xs.length ≤ 1048576) : Ev (fun k => impl_MemoryOk.f k K xs) (memB K xs) := by
  unfold impl_MemoryOk.f
  exact impl_cells K xs hK hl xs.length 0 (by omega)
theorem spec_mem (K : ByteArray) (xs : List S49) (hK : K.size ≤ 1048576) (hl : xs.length ≤ 1048576) : Ev (fun k => spec_MemoryOk.f k K xs) (memB K xs) := by
  unfold spec_MemoryOk.f memB sizeB
  simp only [spec_l10Size.f, Option.bind_some, if_neg (show ¬ ((16 : Int) = 0) by decide), show wrap64 (1000 * 16) = 16000 from w64 (by omega) (by omega)]
  by_cases c : (K.size : Int) % 16 = 0
  · simp only [if_pos c, decide_eq_true c, Bool.true_and]
    refine ev_succ ?_
    simp only [spec_MemoryOk.j0, decide_eq_true_eq]
    by_cases c2 : (K.size : Int) > 16000
    · simp only [if_pos c2, decide_eq_false (show ¬ (K.size : Int) ≤ 16000 by omega), Bool.and_false]
      exact Ev.now _
    · simp only [if_neg c2, decide_eq_true (show (K.size : Int) ≤ 16000 by omega), Bool.and_true]
      exact spec_cells K xs hK hl xs.length 0 (by omega)
  · simp only [if_neg c, decide_eq_false c, Bool.false_and, Bool.and_false]
    refine ev_succ (ev_some fun k => ?_)
    simp only [spec_MemoryOk.j0, if_true]

theorem okFrom_at {K : ByteArray} {xs : List S49} : ∀ d i : Nat, okFrom K xs i d = true → ∀ j, i ≤ j → j < i + d → okAt K xs j = true
  | 0, i, _, j, h1, h2 => by omega
  | d + 1, i, h, j, h1, h2 => by
    unfold okFrom at h
    rw [Bool.and_eq_true] at h
    by_cases e : i = j
    · subst e; exact h.1
    · exact okFrom_at d (i + 1) h.2 j (by omega) (by omega)
theorem mem_cells {K : ByteArray} {xs : List S49} (h : memB K xs = true) : K.size ≤ 16000 ∧ ∀ i : Nat, i < xs.length → okC K.size (rd_T49 xs (i : Int)) := by
  unfold memB sizeB at h
  simp only [Bool.and_eq_true, decide_eq_true_eq] at h
  refine ⟨by omega, fun i hi => ?_⟩
  have := okFrom_at xs.length 0 h.1 i (by omega) (by omega)
  unfold okAt at this
  simp only [Bool.and_eq_true, decide_eq_true_eq] at this
  unfold okC
  omega
theorem okB_of {K : ByteArray} {xs : List S49} (hK : K.size ≤ 1048576) (hl : xs.length ≤ 1048576) (h : ∀ i : Nat, i < xs.length → okC K.size (rd_T49 xs (i : Int))) : okB K xs = true := by
  unfold okB
  simp only [Bool.and_eq_true, decide_eq_true_eq, List.all_eq_true, List.mem_range]
  exact ⟨by omega, by omega, fun i hi => h i hi⟩
theorem pb_list (K x : ByteArray) (o : Nat) : (putB K x o).data.toList = K.data.toList.take o ++ (x.data.toList ++ K.data.toList.drop (o + x.data.toList.length)) := by unfold putB; rfl
theorem pb_length (K x : ByteArray) (o : Nat) (h : o + x.data.toList.length ≤ K.data.toList.length) : (putB K x o).data.toList.length = K.data.toList.length := by
  rw [pb_list]; simp only [List.length_append, List.length_take, List.length_drop]; omega
theorem fn_length (p : Int) (l : List S49) (K : ByteArray) (hv : ∀ i : Nat, i < l.length → okC K.size (rd_T49 l (i : Int))) : ∀ n, n ≤ l.length → (fallN p l K n).data.toList.length = K.data.toList.length
  | 0, _ => rfl
  | n + 1, h => by
    have ih := fn_length p l K hv n (by omega)
    obtain ⟨h0, h1, h2⟩ := hv n (by omega)
    have e1 := Lib.size_eq (rd_T49 l (n : Int)).f1
    have e2 := Lib.size_eq K
    unfold fallN
    by_cases c : bitP p (n : Int) = true
    · rw [if_pos c, pb_length _ _ _ (by omega)]; exact ih
    · rw [if_neg c]; exact ih
theorem data_ext {a b : ByteArray} (h : a.data.toList = b.data.toList) : a = b := by
  cases a with | mk x => cases b with | mk y => cases x; cases y; simp at h; subst h; rfl
theorem extract_list (K : ByteArray) (a b : Nat) : (K.extract a b).data.toList = (K.data.toList.drop a).take (b - a) := by
  rw [ByteArray.data_extract, Array.toList_extract, List.extract_eq_take_drop]
theorem keep_put (K x : ByteArray) (o : Nat) (hx : x.size = 16) (h : o + 16 ≤ K.size) : (K.extract 0 o ++ x) ++ K.extract (o + 16) K.size = putB K x o := by
  apply data_ext
  have e1 := Lib.size_eq x
  have e2 := Lib.size_eq K
  rw [pb_list, ByteArray.data_append, ByteArray.data_append, Array.toList_append, Array.toList_append, extract_list, extract_list, List.append_assoc]
  rw [List.drop_zero, Nat.sub_zero, show o + x.data.toList.length = o + 16 by omega]
  congr 2
  rw [List.take_of_length_le]
  rw [List.length_drop]; omega
theorem putB_size (K x : ByteArray) (o : Nat) (hx : x.size = 16) (h : o + 16 ≤ K.size) : (putB K x o).size = K.size := by
  have := pb_length K x o (by rw [← Lib.size_eq, ← Lib.size_eq]; omega)
  rw [Lib.size_eq, Lib.size_eq]; exact this
theorem fallN_size {p : Int} {xs : List S49} {K : ByteArray} (h : ∀ i : Nat, i < xs.length → okC K.size (rd_T49 xs (i : Int))) (n : Nat) (hn : n ≤ xs.length) : (fallN p xs K n).size = K.size := by
  rw [Lib.size_eq, Lib.size_eq]; exact fn_length p xs K h n hn
theorem keep_ev (K : ByteArray) (x : S49) (hK : K.size ≤ 1048576) (h : okC K.size x) : spec_l10Keep.f K x.f0 x.f1 x.f2 = some (putB K x.f1 (x.f0 * 16).toNat) := by
  obtain ⟨h0, h1, h2⟩ := h
  obtain ⟨o, ho⟩ : ∃ o : Nat, x.f0 * 16 = (o : Int) := ⟨(x.f0 * 16).toNat, by omega⟩
  have e1 : wrap64 (x.f0 * 16) = (o : Int) := by rw [ho]; exact w64 (by omega) (by omega)
  have e2 : wrap64 ((o : Int) + 16) = ((o + 16 : Nat) : Int) := by rw [w64 (by omega) (by omega)]; omega
  have s1 : (K.extract 0 o).size = o := by rw [ByteArray.size_extract]; omega
  have s2 : (K.extract (o + 16) K.size).size = K.size - (o + 16) := by rw [ByteArray.size_extract]; omega
  unfold spec_l10Keep.f spec_l10Size.f
  simp only [Option.bind_some, e1, e2, Int.toNat_natCast, s1, s2, h2, ByteArray.size_append]
  rw [if_pos (by omega), if_pos (by omega), if_pos (by omega), if_pos (by omega), if_pos (by omega), if_pos (by omega), keep_put K x.f1 o h2 (by omega), ho]
  rfl
theorem fallN_stop {p : Int} {xs : List S49} {K : ByteArray} : ∀ d n : Nat, 63 ≤ n → fallN p xs K (n + d) = fallN p xs K n
  | 0, n, _ => rfl
  | d + 1, n, h => by
    rw [← Nat.add_assoc]
    show (if bitP p ((n + d : Nat) : Int) = true then _ else _) = _
    rw [if_neg (by unfold bitP; rw [if_neg (by omega)]; decide)]
    exact fallN_stop d n h
theorem u64_small (n : Nat) (h : n ≤ 1048576) : IntKind.u64.wrap (n : Int) = (n : Int) := by
  unfold IntKind.wrap
  simp [IntKind.signed, IntKind.bits]
  omega
theorem spec_loop (p : Int) (K : ByteArray) (xs : List S49) (hK : K.size ≤ 1048576) (hl : xs.length ≤ 1048576) (hv : ∀ i : Nat, i < xs.length → okC K.size (rd_T49 xs (i : Int))) :
    ∀ d n : Nat, n + d = min xs.length 63 → Ev (fun k => spec_FallenMemory.l0 k p (n : Int) K xs (fallN p xs K n)) (fallN p xs K xs.length, ([] : List S49))
  | 0, n, h => by
    have hf : fallN p xs K xs.length = fallN p xs K n := by
      by_cases c : xs.length ≤ 63
      · rw [show n = xs.length by omega]
      · rw [show xs.length = 63 + (xs.length - 63) by omega, show n = 63 by omega]
        exact fallN_stop _ _ (Nat.le_refl _)
    rw [hf]
    refine ev_succ (ev_succ (ev_some fun k => ?_))
    by_cases c : (n : Int) < (xs.length : Int)
    · simp only [spec_FallenMemory.l0, spec_FallenMemory.j2, if_pos c, decide_eq_false (show ¬ (n : Int) < 63 by omega), Bool.false_eq_true, if_false]
    · simp only [spec_FallenMemory.l0, spec_FallenMemory.j2, if_neg c, Bool.false_eq_true, if_false]
  | d + 1, n, h => by
    have hn : n < xs.length := by omega
    have ih := spec_loop p K xs hK hl hv d (n + 1) (by omega)
    have e1 : wrap64 ((n : Int) + 1) = ((n + 1 : Nat) : Int) := by rw [w64 (by omega) (by omega)]; omega
    have hs := fallN_size (p := p) hv n (by omega)
    have hb : bitP p (n : Int) = (Go.bits .and .i64 (shr .i64 p (n : Int)) 1 == 1) := by unfold bitP; rw [if_pos (by omega)]
    refine ev_succ (ev_succ ?_)
    simp only [spec_FallenMemory.l0, spec_FallenMemory.j2, u64_small n (by omega), e1, if_pos (show (n : Int) < (xs.length : Int) by omega), decide_eq_true (show (n : Int) < 63 by omega), if_true, if_pos (show (0 : Int) ≤ (n : Int) by omega)]
    by_cases c : Go.bits .and .i64 (shr .i64 p (n : Int)) 1 = 1
    · have hb1 : bitP p (n : Int) = true := by rw [hb]; exact beq_iff_eq.2 c
      simp only [if_pos c, keep_ev _ _ (by omega : (fallN p xs K n).size ≤ 1048576) (by rw [hs]; exact hv n hn), Option.bind_some]
      have : fallN p xs K (n + 1) = putB (fallN p xs K n) (rd_T49 xs (n : Int)).f1 ((rd_T49 xs (n : Int)).f0 * 16).toNat := by
        show (if bitP p (n : Int) = true then _ else _) = _
        rw [if_pos hb1]
      rw [← this]
      exact ih
    · have hb1 : ¬ bitP p (n : Int) = true := by rw [hb]; exact fun e => c (beq_iff_eq.1 e)
      simp only [if_neg c]
      have : fallN p xs K (n + 1) = fallN p xs K n := by
        show (if bitP p (n : Int) = true then _ else _) = _
        rw [if_neg hb1]
      rw [← this]
      exact ih
theorem copy_ev (K : ByteArray) (xs : List S49) (hl : xs.length ≤ 1048576) : spec_l10Copy.f K xs = some (K, xs) := by
  unfold spec_l10Copy.f
  simp only [Option.bind_some, List.length_nil, List.nil_append]
  rw [if_pos (by omega)]
theorem icopy_ev (K : ByteArray) (xs : List S49) (hl : xs.length ≤ 1048576) : impl_copyMemory.f K xs = some (K, xs) := by
  unfold impl_copyMemory.f impl_Cell.f
  simp only [Option.bind_some, List.length_nil, List.nil_append]
  rw [if_pos (by omega)]
  rfl
def fallen (p : Int) (K : ByteArray) (xs : List S49) : ByteArray × List S49 := if memB K xs = true ∧ 0 ≤ p then (fallN p xs K xs.length, []) else (K, xs)
theorem spec_fallen (p : Int) (K : ByteArray) (xs : List S49) (hK : K.size ≤ 1048576) (hl : xs.length ≤ 1048576) : Ev (fun k => spec_FallenMemory.f k K xs p) (fallen p K xs) := by
  have hm := spec_mem K xs hK hl
  unfold spec_FallenMemory.f fallen
  refine Ev.bind hm ?_
  by_cases c : memB K xs = true
  · by_cases cp : 0 ≤ p
    · have hv := mem_cells c
      rw [if_pos ⟨c, cp⟩]
      refine ev_pos c (ev_succ ?_)
      simp only [spec_FallenMemory.j0, decide_eq_false (show ¬ p < 0 by omega), Bool.false_eq_true, if_false]
      exact spec_loop p K xs hK hl hv.2 (min xs.length 63) 0 (by omega)
    · rw [if_neg (fun h => cp h.2)]
      refine ev_pos c (ev_succ ?_)
      simp only [spec_FallenMemory.j0, decide_eq_true (show p < 0 by omega), if_true, copy_ev K xs hl, Option.bind_some]
      exact Ev.now _
  · rw [if_neg (fun h => c h.1)]
    refine ev_neg c (ev_succ ?_)
    simp only [spec_FallenMemory.j0, if_true, copy_ev K xs hl, Option.bind_some]
    exact Ev.now _
theorem impl_fallen (p : Int) (K : ByteArray) (xs : List S49) (hK : K.size ≤ 1048576) (hl : xs.length ≤ 1048576) : Ev (fun k => impl_FallenMemory.f k K xs p) (fallen p K xs) := by
  have hm := impl_mem K xs hK hl
  unfold impl_FallenMemory.f fallen
  simp only [icopy_ev K xs hl, Option.bind_some]
  refine Ev.bind hm ?_
  by_cases c : memB K xs = true
  · by_cases cp : 0 ≤ p
    · have hv := mem_cells c
      exact ev_eq (ev_pos c (ev_pos cp (ev_pos (okB_of hK hl hv.2) (Ev.now _)))) (if_pos ⟨c, cp⟩).symm
    · exact ev_eq (ev_pos c (ev_neg cp (Ev.now _))) (if_neg (fun h => cp h.2)).symm
  · exact ev_eq (ev_neg c (Ev.now _)) (if_neg (fun h => c h.1)).symm
theorem fallen_size (p : Int) (K : ByteArray) (xs : List S49) : (fallen p K xs).1.size = K.size ∧ ((fallen p K xs).2 = xs ∨ (fallen p K xs).2 = []) := by
  unfold fallen
  by_cases c : memB K xs = true ∧ 0 ≤ p
  · rw [if_pos c]; exact ⟨fallN_size (mem_cells c.1).2 _ (Nat.le_refl _), .inr rfl⟩
  · rw [if_neg c]; exact ⟨rfl, .inl rfl⟩
theorem and_byte (x : Int) : 0 ≤ Go.bits .and .i64 x 255 ∧ Go.bits .and .i64 x 255 ≤ 255 := by
  simp only [Go.bits]
  have h : (BitVec.ofInt 64 x &&& BitVec.ofInt 64 255).toNat ≤ 255 := by
    rw [BitVec.toNat_and]; exact Nat.le_trans Nat.and_le_right (by decide)
  have e : IntKind.i64.bits = 64 := rfl
  rw [e, IntKind.wrap_i64]
  omega
theorem byte_ex (bs : List Int) (hn : bs.length ≤ 1048576) (p s : Int) (h0 : 0 ≤ p) (h1 : p ≤ bs.length) : ∃ v p' s', spec_l01Byte.f bs p s = some (v, p', s') ∧ 0 ≤ v ∧ v ≤ 255 ∧ 0 ≤ p' ∧ p' ≤ bs.length := by
  unfold spec_l01Byte.f
  by_cases h : p < bs.length
  · rw [if_pos h, if_pos h0]
    have e : wrap64 (p + 1) = p + 1 := w64 (by omega) (by omega)
    exact ⟨_, _, _, rfl, (and_byte _).1, (and_byte _).2, by rw [e]; omega, by rw [e]; omega⟩
  · rw [if_neg h]
    exact ⟨_, _, _, rfl, (and_byte _).1, (and_byte _).2, h0, h1⟩
theorem below_ex (bs : List Int) (hn : bs.length ≤ 1048576) (p s a : Int) (h0 : 0 ≤ p) (h1 : p ≤ bs.length) : ∃ v p' s', spec_l01Below.f bs p s a = some (v, p', s') ∧ 0 ≤ v ∧ (0 < a → v < a) ∧ (a ≤ 0 → v = 0) ∧ 0 ≤ p' ∧ p' ≤ bs.length := by
  unfold spec_l01Below.f
  by_cases ha : a ≤ 0
  · rw [if_pos ha]; exact ⟨_, _, _, rfl, by omega, by omega, fun _ => rfl, h0, h1⟩
  · rw [if_neg ha]
    obtain ⟨v1, p1, s1, e1, b1, c1, d1, f1⟩ := byte_ex bs hn p s h0 h1
    obtain ⟨v2, p2, s2, e2, b2, c2, d2, f2⟩ := byte_ex bs hn p1 s1 d1 f1
    obtain ⟨v3, p3, s3, e3, b3, c3, d3, f3⟩ := byte_ex bs hn p2 s2 d2 f2
    obtain ⟨v4, p4, s4, e4, b4, c4, d4, f4⟩ := byte_ex bs hn p3 s3 d3 f3
    have hz : ¬ a = 0 := by omega
    by_cases hb : a ≤ 256
    · simp only [if_pos hb, e1, Option.bind_some, if_neg hz]
      exact ⟨_, _, _, rfl, Int.tmod_nonneg _ b1, fun h => Int.tmod_lt_of_pos _ h, fun h => absurd h ha, d1, f1⟩
    · simp only [if_neg hb, e1, e2, e3, e4, Option.bind_some, if_neg hz]
      refine ⟨_, _, _, rfl, Int.tmod_nonneg _ ?_, fun h => Int.tmod_lt_of_pos _ h, fun h => absurd h ha, d4, f4⟩
      rw [w64 (x := v1 * 16777216) (by omega) (by omega), w64 (x := v2 * 65536) (by omega) (by omega), w64 (x := v3 * 256) (by omega) (by omega), w64 (x := v1 * 16777216 + v2 * 65536) (by omega) (by omega), w64 (x := v1 * 16777216 + v2 * 65536 + v3 * 256) (by omega) (by omega), w64 (by omega) (by omega)]
      omega
theorem rd_mem {l : List Int} {v : Int} (h0 : 0 ≤ v) (h1 : v < l.length) : rd l v ∈ l := by
  have hlt : v.toNat < l.length := by omega
  unfold rd
  rw [List.getD_eq_getElem?_getD, List.getElem?_eq_getElem hlt]
  exact List.getElem_mem hlt
theorem pickint_ex (bs : List Int) (hn : bs.length ≤ 1048576) (p s : Int) (l : List Int) (hl : 0 < l.length) (h0 : 0 ≤ p) (h1 : p ≤ bs.length) : ∃ v p' s', spec_l01PickInt.f bs p s l = some (v, p', s') ∧ v ∈ l ∧ 0 ≤ p' ∧ p' ≤ bs.length := by
  obtain ⟨v, p', s', e, b, c, _, d, f⟩ := below_ex bs hn p s (l.length : Int) h0 h1
  have c' := c (by omega)
  unfold spec_l01PickInt.f
  rw [e]
  simp only [Option.bind_some, if_pos b, if_pos c']
  exact ⟨_, _, _, rfl, rd_mem b c', d, f⟩
theorem textl_ex (bs : List Int) (hn : bs.length ≤ 1048576) (a : Int) (ha : a ≤ 5000) : ∀ (m : Nat) (y : List Int) (i p s : Int), (a - i).toNat ≤ m → 0 ≤ i → i ≤ 5000 → y.length + m ≤ 20000 → 0 ≤ p → p ≤ bs.length → ∃ v p' s', Ev (fun k => spec_l01Text.l0 k a y i bs p s) (v, p', s') ∧ 0 ≤ p' ∧ p' ≤ bs.length := by
  intro m
  induction m with
  | zero =>
    intro y i p s hm hi hi2 hy h0 h1
    refine ⟨strOfNums y, p, s, ev_succ ?_, h0, h1⟩
    simp only [spec_l01Text.l0, if_neg (show ¬ i < a by omega)]
    exact Ev.now _
  | succ m ih =>
    intro y i p s hm hi hi2 hy h0 h1
    by_cases hc : i < a
    · obtain ⟨v1, p1, s1, e1, b1, c1, d1, f1⟩ := byte_ex bs hn p s h0 h1
      have g1 : y.length < 140737488355328 := by omega
      have g2 : wrap64 (i + 1) = i + 1 := w64 (by omega) (by omega)
      obtain ⟨v2, p2, s2, e2, d2, f2⟩ := ih (y ++ [v1 % 256]) (i + 1) p1 s1 (by omega) (by omega) (by omega) (by rw [List.length_append]; simp only [List.length_cons, List.length_nil]; omega) d1 f1
      refine ⟨v2, p2, s2, ev_succ ?_, d2, f2⟩
      simp only [spec_l01Text.l0, if_pos hc, e1, Option.bind_some, if_pos g1, g2]
      exact e2
    · refine ⟨strOfNums y, p, s, ev_succ ?_, h0, h1⟩
      simp only [spec_l01Text.l0, if_neg hc]
      exact Ev.now _
theorem text_ex (bs : List Int) (hn : bs.length ≤ 1048576) (p s a : Int) (h0 : 0 ≤ p) (h1 : p ≤ bs.length) : ∃ v p' s', Ev (fun k => spec_l01Text.f k bs p s a) (v, p', s') ∧ 0 ≤ p' ∧ p' ≤ bs.length := by
  unfold spec_l01Text.f
  by_cases ha : a > 5000
  · obtain ⟨v, p', s', e, d, f⟩ := textl_ex bs hn 5000 (by omega) 5000 [] 0 p s (by omega) (by omega) (by omega) (by simp) h0 h1
    exact ⟨v, p', s', ev_pos ha (ev_succ (by simpa only [spec_l01Text.j0] using e)), d, f⟩
  · obtain ⟨v, p', s', e, d, f⟩ := textl_ex bs hn a (by omega) 5000 [] 0 p s (by omega) (by omega) (by omega) (by simp) h0 h1
    exact ⟨v, p', s', ev_neg ha (ev_succ (by simpa only [spec_l01Text.j0] using e)), d, f⟩
theorem newl_ex (l0 : List Int) : ∀ (m : Nat) (h i : Int), (4000 - i).toNat ≤ m → 0 ≤ i → ∃ s, Ev (fun k => spec_l01New.l0 k l0 h i) (l0, 0, s) := by
  intro m
  induction m with
  | zero =>
    intro h i hm hi
    refine ⟨h, ev_succ ?_⟩
    simp only [spec_l01New.l0, if_neg (show ¬ i < 4000 by omega), ite_self]
    exact Ev.now _
  | succ m ih =>
    intro h i hm hi
    by_cases h1 : i < (l0.length : Int)
    · by_cases h2 : i < 4000
      · have g2 : wrap64 (i + 1) = i + 1 := w64 (by omega) (by omega)
        obtain ⟨s, hs⟩ := ih (Go.bits .and .i64 (wrap64 ((wrap64 ((wrap64 (h * 131)) + (wrap64 (rd l0 i)))) + 7)) 1073741823) (i + 1) (by omega) (by omega)
        refine ⟨s, ev_succ ?_⟩
        simp only [spec_l01New.l0, if_pos h1, if_pos h2, if_pos hi, g2]
        exact hs
      · refine ⟨h, ev_succ ?_⟩
        simp only [spec_l01New.l0, if_neg h2, ite_self]
        exact Ev.now _
    · refine ⟨h, ev_succ ?_⟩
      simp only [spec_l01New.l0, if_neg h1]
      exact Ev.now _
theorem new_ex (l0 : List Int) : ∃ s, Ev (fun k => spec_l01New.f k l0) (l0, 0, s) := newl_ex l0 4000 _ 0 (by omega) (by omega)

theorem wnat {a : Int} {b : Nat} (h : a = (b : Int)) (hb : b ≤ 4611686018427387904) : wrap64 a = (b : Int) := by rw [h]; exact w64 (by omega) (by omega)
theorem mem_at {K : ByteArray} {xs : List S49} (h : memB K xs = true) {i : Nat} (hi : i < xs.length) : 0 ≤ (rd_T49 xs (i : Int)).f0 ∧ (rd_T49 xs (i : Int)).f0 ≤ (K.size : Int) / 16 - 1 ∧ (rd_T49 xs (i : Int)).f1.size = 16 ∧ (i = 0 ∨ (rd_T49 xs ((i : Int) - 1)).f0 < (rd_T49 xs (i : Int)).f0) := by
  unfold memB at h
  rw [Bool.and_eq_true] at h
  have := okFrom_at xs.length 0 h.1 i (by omega) (by omega)
  unfold okAt at this
  simp only [Bool.and_eq_true, decide_eq_true_eq] at this
  omega
theorem mem_lt {K : ByteArray} {xs : List S49} (h : memB K xs = true) : ∀ j i : Nat, i < j → j < xs.length → (rd_T49 xs (i : Int)).f0 < (rd_T49 xs (j : Int)).f0
  | 0, i, h1, h2 => by omega
  | j + 1, i, h1, h2 => by
    obtain ⟨_, _, _, h3⟩ := mem_at h h2
    rw [show ((j + 1 : Nat) : Int) - 1 = (j : Int) by omega] at h3
    by_cases e : i = j
    · subst e; omega
    · have := mem_lt h j i (by omega) (by omega)
      omega
theorem f0_ge {K : ByteArray} {xs : List S49} (h : memB K xs = true) : ∀ j : Nat, j < xs.length → (j : Int) ≤ (rd_T49 xs (j : Int)).f0
  | 0, h1 => (mem_at h h1).1
  | j + 1, h1 => by
    have := f0_ge h j (by omega)
    have := mem_lt h (j + 1) j (by omega) h1
    omega
theorem cells_few {K : ByteArray} {xs : List S49} (h : memB K xs = true) (hK : K.size ≤ 100) : xs.length ≤ 6 := by
  rcases Nat.lt_or_ge 0 xs.length with h0 | h0
  · have h1 := f0_ge h (xs.length - 1) (by omega)
    have h2 := (mem_at h (i := xs.length - 1) (by omega)).2.1
    omega
  · omega
theorem mem_size {K : ByteArray} {xs : List S49} (h : memB K xs = true) : K.size % 16 = 0 := by
  unfold memB sizeB at h
  simp only [Bool.and_eq_true, decide_eq_true_eq] at h
  omega
theorem mem_nil {K : ByteArray} {xs : List S49} (h : memB K xs = true) {K' : ByteArray} (hs : K'.size = K.size) : memB K' [] = true := by
  unfold memB sizeB at h ⊢
  simp only [Bool.and_eq_true, decide_eq_true_eq] at h ⊢
  rw [hs]
  exact ⟨rfl, h.2⟩
theorem cell_ev (K : ByteArray) (xs : List S49) (line : Int) (hl : xs.length ≤ 1048576) : ∀ d i : Nat, i + d = xs.length → (∀ j : Nat, j < i → (rd_T49 xs (j : Int)).f0 ≠ line) →
    ∃ r, Ev (fun k => spec_l10Cell.l0 k line (i : Int) K xs) r ∧ ((r = -1 ∧ ∀ j : Nat, j < xs.length → (rd_T49 xs (j : Int)).f0 ≠ line) ∨ ∃ j : Nat, r = (j : Int) ∧ j < xs.length ∧ (rd_T49 xs (j : Int)).f0 = line)
  | 0, i, h, hb => by
    refine ⟨-1, ev_succ (ev_some fun k => ?_), .inl ⟨rfl, fun j hj => hb j (by omega)⟩⟩
    rw [spec_l10Cell.l0, if_neg (by omega)]
  | d + 1, i, h, hb => by
    have e1 : wrap64 ((i : Int) + 1) = ((i + 1 : Nat) : Int) := by rw [w64 (by omega) (by omega)]; omega
    by_cases c : (rd_T49 xs (i : Int)).f0 = line
    · refine ⟨(i : Int), ev_succ (ev_some fun k => ?_), .inr ⟨i, rfl, by omega, c⟩⟩
      rw [spec_l10Cell.l0, if_pos (by omega), if_pos (by omega), if_pos c]
    · obtain ⟨r, h1, h2⟩ := cell_ev K xs line hl d (i + 1) (by omega) (fun j hj => by
        by_cases e : j = i
        · subst e; exact c
        · exact hb j (by omega))
      refine ⟨r, ev_succ ?_, h2⟩
      simp only [spec_l10Cell.l0, if_pos (show (i : Int) < (xs.length : Int) by omega), if_pos (show (0 : Int) ≤ (i : Int) by omega), if_neg c, e1]
      exact h1
theorem line_ev {K : ByteArray} {xs : List S49} (h : memB K xs = true) (hK : K.size ≤ 1048576) (hl : xs.length ≤ 1048576) (n : Nat) (hn : (n + 1) * 16 ≤ K.size) :
    ∃ s, Ev (fun k => spec_l10Line.f k K xs (n : Int)) s ∧ s.size = 16 ∧ (∀ j : Nat, j < xs.length → (rd_T49 xs (j : Int)).f0 = (n : Int) → s = (rd_T49 xs (j : Int)).f1) ∧ ((∀ j : Nat, j < xs.length → (rd_T49 xs (j : Int)).f0 ≠ (n : Int)) → s = K.extract (n * 16) ((n + 1) * 16)) := by
  obtain ⟨r, h1, h2⟩ := cell_ev K xs (n : Int) hl xs.length 0 (by omega) (fun j hj => by omega)
  rcases h2 with ⟨rfl, h2⟩ | ⟨j, rfl, h2, h3⟩
  · refine ⟨K.extract (n * 16) ((n + 1) * 16), ?_, by rw [ByteArray.size_extract]; omega, fun j hj e => absurd e (h2 j hj), fun _ => rfl⟩
    unfold spec_l10Line.f spec_l10Cell.f spec_l10Size.f
    refine Ev.bind h1 (ev_neg (by decide) ?_)
    refine Ev.bind (Ev.now (16 : Int)) (Ev.bind (Ev.now (16 : Int)) ?_)
    have e1 : wrap64 ((n : Int) * 16) = ((n * 16 : Nat) : Int) := wnat (by omega) (by omega)
    have e2 : wrap64 ((n : Int) + 1) = ((n + 1 : Nat) : Int) := wnat (by omega) (by omega)
    have e3 : wrap64 (((n + 1 : Nat) : Int) * 16) = (((n + 1) * 16 : Nat) : Int) := wnat (by omega) (by omega)
    rw [e1, e2, e3, if_pos (by omega), if_pos (by omega), if_pos (by omega)]
    exact Ev.now _
  · refine ⟨(rd_T49 xs (j : Int)).f1, ?_, (mem_at h h2).2.2.1, fun i hi e => ?_, fun hno => absurd h3 (hno j h2)⟩
    · unfold spec_l10Line.f spec_l10Cell.f
      refine Ev.bind h1 ?_
      rw [if_pos (by omega), if_pos (by omega), if_pos (by omega)]
      exact Ev.now _
    · have : i = j := by
        rcases Nat.lt_trichotomy i j with c | c | c
        · have := mem_lt h j i c h2; omega
        · exact c
        · have := mem_lt h i j c hi; omega
      subst this; rfl
theorem wordat_ev {K : ByteArray} {xs : List S49} (h : memB K xs = true) (hK : K.size ≤ 1048576) (hl : xs.length ≤ 1048576) (n r : Nat) (hr : r < 2) (hn : (n + 1) * 16 ≤ K.size) {s : ByteArray} (hs : Ev (fun k => spec_l10Line.f k K xs (n : Int)) s) (hz : s.size = 16) :
    Ev (fun k => spec_WordAt.f k K xs ((2 * n + r : Nat) : Int)) (s.extract (r * 8) (r * 8 + 8)) := by
  have q0 : (0 : Int) ≤ ((2 * n + r : Nat) : Int) ∧ ((2 * n + r : Nat) : Int) ≤ (K.size : Int) / 8 - 1 := by omega
  have q1 : (0 : Int) ≤ ((r * 8 : Nat) : Int) := by omega
  have q2 : ((r * 8 : Nat) : Int) ≤ ((r * 8 + 8 : Nat) : Int) := by omega
  have q3 : ((r * 8 + 8 : Nat) : Int) ≤ ((16 : Nat) : Int) := by omega
  unfold spec_WordAt.f
  refine Ev.bind (spec_mem K xs hK hl) (ev_pos h ?_)
  unfold spec_l10Words.f spec_l10Word.f
  simp only [Option.bind_some, w64 (x := (K.size : Int) / 8) (by omega) (by omega), w64 (x := (K.size : Int) / 8 - 1) (by omega) (by omega), wnat (a := Int.tdiv ((2 * n + r : Nat) : Int) 2) (b := n) (by rw [Int.tdiv_eq_ediv_of_nonneg (by omega)]; omega) (by omega), show Int.tmod ((2 * n + r : Nat) : Int) 2 = (r : Int) by rw [Int.tmod_eq_emod_of_nonneg (by omega)]; omega, wnat (a := (r : Int) * 8) (b := r * 8) (by omega) (by omega), wnat (a := ((r * 8 : Nat) : Int) + 8) (b := r * 8 + 8) (by omega) (by omega), in_ev, decide_eq_true q0, if_true]
  refine Ev.bind (Ev.bind hs ?_) (Ev.now _)
  rw [hz, if_pos q1, if_pos q2, if_pos q3]
  exact Ev.now _
theorem bits_all (i : Nat) (hi : i < 63) : bitP 9223372036854775807 (i : Int) = true := by
  have : i = 0 ∨ i = 1 ∨ i = 2 ∨ i = 3 ∨ i = 4 ∨ i = 5 ∨ i = 6 ∨ i = 7 ∨ i = 8 ∨ i = 9 ∨ i = 10 ∨ i = 11 ∨ i = 12 ∨ i = 13 ∨ i = 14 ∨ i = 15 ∨ i = 16 ∨ i = 17 ∨ i = 18 ∨ i = 19 ∨ i = 20 ∨ i = 21 ∨ i = 22 ∨ i = 23 ∨ i = 24 ∨ i = 25 ∨ i = 26 ∨ i = 27 ∨ i = 28 ∨ i = 29 ∨ i = 30 ∨ i = 31 ∨ i = 32 ∨ i = 33 ∨ i = 34 ∨ i = 35 ∨ i = 36 ∨ i = 37 ∨ i = 38 ∨ i = 39 ∨ i = 40 ∨ i = 41 ∨ i = 42 ∨ i = 43 ∨ i = 44 ∨ i = 45 ∨ i = 46 ∨ i = 47 ∨ i = 48 ∨ i = 49 ∨ i = 50 ∨ i = 51 ∨ i = 52 ∨ i = 53 ∨ i = 54 ∨ i = 55 ∨ i = 56 ∨ i = 57 ∨ i = 58 ∨ i = 59 ∨ i = 60 ∨ i = 61 ∨ i = 62 := by omega
  rcases this with rfl | rfl | rfl | rfl | rfl | rfl | rfl | rfl | rfl | rfl | rfl | rfl | rfl | rfl | rfl | rfl | rfl | rfl | rfl | rfl | rfl | rfl | rfl | rfl | rfl | rfl | rfl | rfl | rfl | rfl | rfl | rfl | rfl | rfl | rfl | rfl | rfl | rfl | rfl | rfl | rfl | rfl | rfl | rfl | rfl | rfl | rfl | rfl | rfl | rfl | rfl | rfl | rfl | rfl | rfl | rfl | rfl | rfl | rfl | rfl | rfl | rfl | rfl <;> rfl
theorem cut_far (L R : List UInt8) (o a : Nat) (h : a + 16 ≤ o) (hL : o ≤ L.length) : ((L.take o ++ R).drop a).take 16 = (L.drop a).take 16 := by
  rw [List.drop_append_of_le_length (by rw [List.length_take]; omega), List.take_append_of_le_length (by rw [List.length_drop, List.length_take]; omega), List.drop_take, List.take_take]
  congr 1; omega
theorem fall_at {K : ByteArray} {xs : List S49} (h : memB K xs = true) (hf : xs.length ≤ 63) : ∀ n : Nat, n ≤ xs.length → ∀ j : Nat, j < n → ((fallN 9223372036854775807 xs K n).data.toList.drop (((rd_T49 xs (j : Int)).f0 * 16).toNat)).take 16 = (rd_T49 xs (j : Int)).f1.data.toList
  | 0, _, j, hj => by omega
  | n + 1, hn, j, hj => by
    have hv := (mem_cells h).2
    obtain ⟨a0, a1, a2, _⟩ := mem_at h (i := n) (by omega)
    obtain ⟨b0, b1, b2, _⟩ := mem_at h (i := j) (by omega)
    have hl := fn_length 9223372036854775807 xs K hv n (by omega)
    have hs := Lib.size_eq K
    have hx := Lib.size_eq (rd_T49 xs (n : Int)).f1
    have hstep : fallN 9223372036854775807 xs K (n + 1) = putB (fallN 9223372036854775807 xs K n) (rd_T49 xs (n : Int)).f1 ((rd_T49 xs (n : Int)).f0 * 16).toNat := by
      show (if bitP 9223372036854775807 (n : Int) = true then _ else _) = _
      rw [if_pos (bits_all n (by omega))]
    rw [hstep, pb_list]
    by_cases e : j = n
    · subst e
      rw [List.drop_left' (by rw [List.length_take]; omega), List.take_left' (by omega)]
    · have hlt := mem_lt h n j (by omega) (by omega)
      rw [cut_far _ _ _ _ (by omega) (by omega)]
      exact fall_at h hf n (by omega) j (by omega)

theorem cells_same (xs : List S49) (hl : xs.length ≤ 1048576) : ∀ d i : Nat, i + d = xs.length → Ev (fun k => laws_sameCells.l0 k xs xs (i : Int)) true
  | 0, i, h => by
    refine ev_succ (ev_some fun k => ?_)
    rw [laws_sameCells.l0, if_neg (by omega)]
  | d + 1, i, h => by
    have ih := cells_same xs hl d (i + 1) (by omega)
    have e1 : wrap64 ((i : Int) + 1) = ((i + 1 : Nat) : Int) := by rw [w64 (by omega) (by omega)]; omega
    refine ev_succ ?_
    simp only [laws_sameCells.l0, if_pos (show (i : Int) < (xs.length : Int) by omega), if_pos (show (0 : Int) ≤ (i : Int) by omega), e1, beq_self_eq_true, Bool.not_true, Bool.or_false, Bool.false_eq_true, if_false]
    exact ih
theorem mem_same (K : ByteArray) (xs : List S49) (hl : xs.length ≤ 1048576) : Ev (fun k => laws_sameMemory.f k K xs K xs) true := by
  unfold laws_sameMemory.f laws_sameCells.f
  exact ev_pos rfl (Ev.bind (ev_pos rfl (cells_same xs hl xs.length 0 (by omega))) (Ev.now _))
theorem ints_same (l : List Int) (hl : l.length ≤ 1048576) : ∀ d i : Nat, i + d = l.length → Ev (fun k => laws_sameInts.l0 k l l (i : Int)) true
  | 0, i, h => by
    refine ev_succ (ev_some fun k => ?_)
    rw [laws_sameInts.l0, if_neg (by omega)]
  | d + 1, i, h => by
    have ih := ints_same l hl d (i + 1) (by omega)
    have e1 : wrap64 ((i : Int) + 1) = ((i + 1 : Nat) : Int) := by rw [w64 (by omega) (by omega)]; omega
    refine ev_succ ?_
    simp only [laws_sameInts.l0, if_pos (show (i : Int) < (l.length : Int) by omega), if_pos (show (0 : Int) ≤ (i : Int) by omega), e1, if_true]
    exact ih
theorem drop_rd {xs : List S49} {i : Nat} (h : i < xs.length) : xs.drop i = rd_T49 xs (i : Int) :: xs.drop (i + 1) := by
  rw [List.drop_eq_getElem_cons h]
  congr 1
  unfold rd_T49
  rw [Int.toNat_natCast, List.getD_eq_getElem?_getD, List.getElem?_eq_getElem h]
  rfl
theorem impl_lines_ev (K : ByteArray) (xs : List S49) (hl : xs.length ≤ 1048576) : ∀ d i : Nat, i + d = xs.length → ∀ y : List Int, y.length ≤ i → Ev (fun k => impl_Unsure.l0 k y xs (xs.length : Int) (i : Int)) (y ++ (xs.drop i).map (·.f0))
  | 0, i, h, y, hy => by
    refine ev_succ (ev_some fun k => ?_)
    rw [impl_Unsure.l0, if_neg (by omega), List.drop_eq_nil_of_le (by omega), List.map_nil, List.append_nil]
  | d + 1, i, h, y, hy => by
    have ih := impl_lines_ev K xs hl d (i + 1) (by omega) (y ++ [(rd_T49 xs (i : Int)).f0]) (by rw [List.length_append]; simp only [List.length_cons, List.length_nil]; omega)
    have e1 : wrap64 ((i : Int) + 1) = ((i + 1 : Nat) : Int) := by rw [w64 (by omega) (by omega)]; omega
    rw [drop_rd (show i < xs.length by omega), List.map_cons, List.append_cons]
    refine ev_succ ?_
    simp only [impl_Unsure.l0, if_pos (show (i : Int) < (xs.length : Int) by omega), if_pos (show (0 : Int) ≤ (i : Int) by omega), if_pos (show y.length < 17592186044416 by omega), e1]
    exact ih
theorem spec_lines_ev (K : ByteArray) (xs : List S49) (hl : xs.length ≤ 1048576) : ∀ d i : Nat, i + d = xs.length → ∀ y : List Int, y.length ≤ i → Ev (fun k => spec_Unsure.l0 k y (i : Int) K xs) (y ++ (xs.drop i).map (·.f0))
  | 0, i, h, y, hy => by
    refine ev_succ (ev_some fun k => ?_)
    rw [spec_Unsure.l0, if_neg (by omega), List.drop_eq_nil_of_le (by omega), List.map_nil, List.append_nil]
  | d + 1, i, h, y, hy => by
    have ih := spec_lines_ev K xs hl d (i + 1) (by omega) (y ++ [(rd_T49 xs (i : Int)).f0]) (by rw [List.length_append]; simp only [List.length_cons, List.length_nil]; omega)
    have e1 : wrap64 ((i : Int) + 1) = ((i + 1 : Nat) : Int) := by rw [w64 (by omega) (by omega)]; omega
    rw [drop_rd (show i < xs.length by omega), List.map_cons, List.append_cons]
    refine ev_succ ?_
    simp only [spec_Unsure.l0, if_pos (show (i : Int) < (xs.length : Int) by omega), if_pos (show (0 : Int) ≤ (i : Int) by omega), if_pos (show y.length < 17592186044416 by omega), e1]
    exact ih
theorem memnew_ev : impl_MemoryNew.f 1 = some (zeros 16, []) := by
  unfold impl_MemoryNew.f impl_padded.f
  rw [within_ev]
  simp only [decide_eq_true (show (0 : Int) ≤ 1 ∧ (1 : Int) ≤ 1000 by decide), Option.bind_some, if_true, w64 (x := 1 * 16) (by omega) (by omega)]
  rw [if_pos ⟨by decide, by decide, by decide⟩]
  simp only [Option.bind_some]
  congr 2
theorem zeros16 : ((zeros 16).size : Int) = 16 := by rfl

theorem store_loop (K : ByteArray) (xs : List S49) (line : Int) (c0 : Int) (c1 : ByteArray) (c2 : Bool) (A : ByteArray) (hl : xs.length ≤ 1000) : ∀ d i : Nat, i + d = xs.length → ∀ (b : Bool) (y : List S49), y.length ≤ 10000 + 2 * i →
    ∃ ys : List S49, Ev (fun k => spec_l10Store.l0 k line b (i : Int) K xs c0 c1 c2 A y) (A, ys) ∧ ys.length ≤ y.length + d + (if b = true then 0 else 1)
  | 0, i, h, b, y, hy => by
    by_cases hb : b = true
    · subst hb
      refine ⟨y, ev_succ (ev_some fun k => ?_), by omega⟩
      rw [spec_l10Store.l0, if_neg (by omega), if_pos rfl]
    · refine ⟨y ++ [(⟨c0, c1, c2⟩ : S49)], ev_succ (ev_some fun k => ?_), by rw [if_neg hb, List.length_append]; simp⟩
      rw [spec_l10Store.l0, if_neg (by omega), if_neg hb, if_pos (by omega)]
  | d + 1, i, h, b, y, hy => by
    have e1 : wrap64 ((i : Int) + 1) = ((i + 1 : Nat) : Int) := by rw [w64 (by omega) (by omega)]; omega
    have p0 : (i : Int) < (xs.length : Int) := by omega
    have p1 : (0 : Int) ≤ (i : Int) := by omega
    have p2 : ∀ z : S49, (y ++ [z]).length = y.length + 1 := fun z => by rw [List.length_append]; rfl
    have p3 : ∀ z z' : S49, (y ++ [z] ++ [z']).length = y.length + 2 := fun z z' => by rw [List.length_append, p2]; rfl
    -- the step itself, laid at the front or not
    have F : ∀ b', b' = false ∨ b = false → ∃ ys : List S49, Ev (fun k => spec_l10Store.j1 k line b (i : Int) b' K xs c0 c1 c2 A y) (A, ys) ∧ ys.length ≤ y.length + (d + 1) + (if b = true then 0 else 1) := by
      intro b' hb'
      by_cases c : b' = true
      · subst c
        have hbf : b = false := by rcases hb' with h | h; cases h; exact h
        subst hbf
        by_cases cl : (rd_T49 xs (i : Int)).f0 = line
        · obtain ⟨ys, h1, h2⟩ := store_loop K xs line c0 c1 c2 A hl d (i + 1) (by omega) true (y ++ [(⟨c0, c1, c2⟩ : S49)]) (by rw [p2]; omega)
          refine ⟨ys, ev_succ ?_, by rw [p2] at h2; simp only [if_true, Bool.false_eq_true, if_false] at h2 ⊢; omega⟩
          simp only [spec_l10Store.j1, if_true, if_pos (show y.length < 4398046511104 by omega), Option.bind_some, if_pos p1, if_pos p0, if_pos cl, e1]
          exact h1
        · obtain ⟨ys, h1, h2⟩ := store_loop K xs line c0 c1 c2 A hl d (i + 1) (by omega) true (y ++ [(⟨c0, c1, c2⟩ : S49)] ++ [(⟨(rd_T49 xs (i : Int)).f0, (rd_T49 xs (i : Int)).f1, (rd_T49 xs (i : Int)).f2⟩ : S49)]) (by rw [p3]; omega)
          refine ⟨ys, ev_succ ?_, by rw [p3] at h2; simp only [if_true, Bool.false_eq_true, if_false] at h2 ⊢; omega⟩
          simp only [spec_l10Store.j1, if_true, if_pos (show y.length < 4398046511104 by omega), Option.bind_some, if_pos p1, if_pos p0, if_neg cl, p2, if_pos (show y.length + 1 < 4398046511104 by omega), e1]
          exact h1
      · by_cases cl : (rd_T49 xs (i : Int)).f0 = line
        · obtain ⟨ys, h1, h2⟩ := store_loop K xs line c0 c1 c2 A hl d (i + 1) (by omega) b y (by omega)
          refine ⟨ys, ev_succ ?_, by omega⟩
          simp only [spec_l10Store.j1, if_neg c, if_pos p1, if_pos p0, if_pos cl, e1]
          exact h1
        · obtain ⟨ys, h1, h2⟩ := store_loop K xs line c0 c1 c2 A hl d (i + 1) (by omega) b (y ++ [(⟨(rd_T49 xs (i : Int)).f0, (rd_T49 xs (i : Int)).f1, (rd_T49 xs (i : Int)).f2⟩ : S49)]) (by rw [p2]; omega)
          refine ⟨ys, ev_succ ?_, by rw [p2] at h2; omega⟩
          simp only [spec_l10Store.j1, if_neg c, if_pos p1, if_pos p0, if_neg cl, if_pos (show y.length < 4398046511104 by omega), e1]
          exact h1
    by_cases hb : b = true
    · obtain ⟨ys, h1, h2⟩ := F false (.inl rfl)
      refine ⟨ys, ev_succ ?_, h2⟩
      simp only [spec_l10Store.l0, if_pos p0, if_pos hb]
      exact h1
    · obtain ⟨ys, h1, h2⟩ := F (decide ((rd_T49 xs (i : Int)).f0 ≥ line)) (.inr (Bool.eq_false_iff.2 hb))
      refine ⟨ys, ev_succ ?_, h2⟩
      simp only [spec_l10Store.l0, if_pos p0, if_neg hb, if_pos p1]
      exact h1
theorem store_ex (K : ByteArray) (xs : List S49) (hK : K.size ≤ 1000) (hl : xs.length ≤ 100) (a : Int) (w : ByteArray) : ∃ ys : List S49, Ev (fun k => spec_StoreWord.f k K xs a w) (K, ys) ∧ ys.length ≤ xs.length + 1 := by
  have copy : ∀ b, b = true → ∃ ys : List S49, Ev (fun k => spec_StoreWord.j0 k a w b K xs) (K, ys) ∧ ys.length ≤ xs.length + 1 := fun b hb => by
    subst hb
    refine ⟨xs, ev_succ ?_, by omega⟩
    simp only [spec_StoreWord.j0, if_true, copy_ev K xs (by omega), Option.bind_some]
    exact Ev.now _
  have hm := spec_mem K xs (by omega) (by omega)
  unfold spec_StoreWord.f
  by_cases h : memB K xs = true
  · by_cases hw : (w.size : Int) = 8
    · have e1 : wrap64 ((K.size : Int) / 8) = (K.size : Int) / 8 := w64 (by omega) (by omega)
      have e2 : wrap64 ((K.size : Int) / 8 - 1) = (K.size : Int) / 8 - 1 := w64 (by omega) (by omega)
      by_cases hr : 0 ≤ a ∧ a ≤ (K.size : Int) / 8 - 1
      · have h16 := mem_size h
        obtain ⟨n, hn⟩ : ∃ n : Nat, Int.tdiv a 2 = (n : Int) := ⟨(Int.tdiv a 2).toNat, by rw [Int.tdiv_eq_ediv_of_nonneg hr.1]; omega⟩
        obtain ⟨r, hr2⟩ : ∃ r : Nat, Int.tmod a 2 = (r : Int) := ⟨(Int.tmod a 2).toNat, by rw [Int.tmod_eq_emod_of_nonneg hr.1]; omega⟩
        have hrr : r < 2 := by rw [Int.tmod_eq_emod_of_nonneg hr.1] at hr2; omega
        have hnn : (n + 1) * 16 ≤ K.size := by rw [Int.tdiv_eq_ediv_of_nonneg hr.1] at hn; omega
        obtain ⟨s, hs, hz, _⟩ := line_ev h (by omega) (by omega) n hnn
        have z1 : (s.extract 0 (r * 8)).size = r * 8 := by rw [ByteArray.size_extract]; omega
        have z2 : (s.extract (r * 8 + 8) s.size).size = 16 - (r * 8 + 8) := by rw [ByteArray.size_extract]; omega
        have q1 : (0 : Int) ≤ ((r * 8 : Nat) : Int) := by omega
        have q2 : ((r * 8 : Nat) : Int) ≤ (s.size : Int) := by omega
        have q3 : r * 8 + w.size ≤ 9223372036854775807 := by omega
        have q4 : (0 : Int) ≤ ((r * 8 + 8 : Nat) : Int) := by omega
        have q5 : ((r * 8 + 8 : Nat) : Int) ≤ (s.size : Int) := by omega
        have q6 : r * 8 + w.size + (16 - (r * 8 + 8)) ≤ 9223372036854775807 := by omega
        obtain ⟨ys, h1, h2⟩ := store_loop K xs (n : Int) (n : Int) (s.extract 0 (r * 8) ++ w ++ s.extract (r * 8 + 8) s.size) false K (by omega) xs.length 0 (by omega) false [] (by simp)
        refine ⟨ys, Ev.bind hm (ev_pos h (ev_pos hw ?_)), by simpa using h2⟩
        unfold spec_l10Words.f
        simp only [Option.bind_some, e1, e2, in_ev, decide_eq_true hr, Bool.not_true]
        refine ev_succ ?_
        simp only [spec_StoreWord.j0, Bool.false_eq_true, if_false]
        have hst : Ev (fun k => spec_l10Store.f k K xs a w) (K, ys) := by
          unfold spec_l10Store.f
          simp only [hn, hr2, wnat (a := (n : Int)) (b := n) rfl (by omega), wnat (a := (r : Int) * 8) (b := r * 8) (by omega) (by omega), wnat (a := ((r * 8 : Nat) : Int) + 8) (b := r * 8 + 8) (by omega) (by omega), Int.toNat_natCast]
          refine Ev.bind hs ?_
          simp only [ByteArray.size_append, z1, z2]
          exact ev_pos q1 (ev_pos q2 (ev_pos q3 (ev_pos q4 (ev_pos q5 (ev_pos q6 h1)))))
        exact Ev.bind hst (ev_eq (Ev.now _) rfl)
      · obtain ⟨ys, h1, h2⟩ := copy (!decide (0 ≤ a ∧ a ≤ (K.size : Int) / 8 - 1)) (by rw [decide_eq_false hr]; rfl)
        refine ⟨ys, Ev.bind hm (ev_pos h (ev_pos hw ?_)), h2⟩
        unfold spec_l10Words.f
        simp only [Option.bind_some, e1, e2, in_ev]
        exact h1
    · obtain ⟨ys, h1, h2⟩ := copy true rfl
      exact ⟨ys, Ev.bind hm (ev_pos h (ev_neg hw h1)), h2⟩
  · obtain ⟨ys, h1, h2⟩ := copy true rfl
    exact ⟨ys, Ev.bind hm (ev_neg h h1), h2⟩
theorem flush_ex (K : ByteArray) (xs : List S49) (hK : K.size ≤ 1000) (hl : xs.length ≤ 100) (a : Int) : ∃ ys : List S49, Ev (fun k => spec_FlushLine.f k K xs a) (K, ys) ∧ ys.length ≤ xs.length + 1 := by
  obtain ⟨r, h1, h2⟩ := cell_ev K xs a (by omega) xs.length 0 (by omega) (fun j hj => by omega)
  have hm := spec_mem K xs (by omega) (by omega)
  unfold spec_FlushLine.f spec_l10Cell.f
  simp only [copy_ev K xs (by omega), Option.bind_some]
  by_cases hr : r ≥ 0
  · have hr2 : r < (xs.length : Int) := by
      rcases h2 with ⟨rfl, _⟩ | ⟨j, rfl, h3, _⟩
      · omega
      · omega
    by_cases h : memB K xs = true
    · refine ⟨xs.set (r : Int).toNat (⟨(rd_T49 xs r).f0, (rd_T49 xs r).f1, true⟩ : S49), Ev.bind h1 (ev_pos hr (Ev.bind hm (ev_pos h (ev_pos hr (ev_pos hr2 (ev_eq (Ev.now _) rfl)))))), by rw [List.length_set]; omega⟩
    · exact ⟨xs, Ev.bind h1 (ev_pos hr (Ev.bind hm (ev_neg h (ev_eq (Ev.now _) rfl)))), by omega⟩
  · exact ⟨xs, Ev.bind h1 (ev_neg hr (ev_eq (Ev.now _) rfl)), by omega⟩
theorem fence_loop (K : ByteArray) (xs : List S49) (hK : K.size ≤ 1000) (hl : xs.length ≤ 100) (hv : ∀ i : Nat, i < xs.length → okC K.size (rd_T49 xs (i : Int))) : ∀ d i : Nat, i + d = xs.length → ∀ (A : ByteArray) (y : List S49), A.size = K.size → y.length ≤ i →
    ∃ r : ByteArray × List S49, Ev (fun k => spec_Fence.l0 k (i : Int) K xs A y) r ∧ r.1.size = K.size ∧ r.2.length ≤ xs.length
  | 0, i, h, A, y, hA, hy => by
    refine ⟨(A, y), ev_succ (ev_some fun k => ?_), hA, by show y.length ≤ _; omega⟩
    rw [spec_Fence.l0, if_neg (by omega)]
  | d + 1, i, h, A, y, hA, hy => by
    have e1 : wrap64 ((i : Int) + 1) = ((i + 1 : Nat) : Int) := by rw [w64 (by omega) (by omega)]; omega
    have p0 : (i : Int) < (xs.length : Int) := by omega
    have p1 : (0 : Int) ≤ (i : Int) := by omega
    have ho := hv i (by omega)
    by_cases c : (rd_T49 xs (i : Int)).f2 = true
    · have hk := keep_ev A (rd_T49 xs (i : Int)) (by omega) (by rw [hA]; exact ho)
      obtain ⟨o0, o1, o2⟩ := ho
      obtain ⟨r, h1, h2⟩ := fence_loop K xs hK hl hv d (i + 1) (by omega) (putB A (rd_T49 xs (i : Int)).f1 ((rd_T49 xs (i : Int)).f0 * 16).toNat) y (by rw [putB_size _ _ _ o2 (by omega)]; exact hA) (by omega)
      refine ⟨r, ev_succ ?_, h2⟩
      simp only [spec_Fence.l0, if_pos p0, if_pos p1, if_pos c, e1]
      rw [c] at hk
      simp only [c, hk, Option.bind_some]
      exact h1
    · obtain ⟨r, h1, h2⟩ := fence_loop K xs hK hl hv d (i + 1) (by omega) A (y ++ [(⟨(rd_T49 xs (i : Int)).f0, (rd_T49 xs (i : Int)).f1, (rd_T49 xs (i : Int)).f2⟩ : S49)]) hA (by rw [List.length_append]; simp only [List.length_cons, List.length_nil]; omega)
      refine ⟨r, ev_succ ?_, h2⟩
      simp only [spec_Fence.l0, if_pos p0, if_pos p1, if_neg c, if_pos (show y.length < 4398046511104 by omega), e1]
      exact h1
theorem fence_ex (K : ByteArray) (xs : List S49) (hK : K.size ≤ 1000) (hl : xs.length ≤ 100) : ∃ r : ByteArray × List S49, Ev (fun k => spec_Fence.f k K xs) r ∧ r.1.size = K.size ∧ r.2.length ≤ xs.length := by
  have hm := spec_mem K xs (by omega) (by omega)
  unfold spec_Fence.f
  by_cases h : memB K xs = true
  · obtain ⟨r, h1, h2⟩ := fence_loop K xs hK hl (mem_cells h).2 xs.length 0 (by omega) K [] rfl (by simp)
    exact ⟨r, Ev.bind hm (ev_pos h h1), h2⟩
  · refine ⟨(K, xs), Ev.bind hm (ev_neg h ?_), rfl, Nat.le_refl _⟩
    simp only [copy_ev K xs (by omega), Option.bind_some]
    exact Ev.now _
theorem new_mem (n : Int) (h1 : 1 ≤ n) (h5 : n ≤ 5) : ∃ K : ByteArray, Ev (fun k => spec_MemoryNew.f k n) (K, []) ∧ K.size ≤ 80 := by
  have e1 : wrap64 (n * 16) = n * 16 := w64 (by omega) (by omega)
  obtain ⟨c, hc⟩ : ∃ c : Nat, n * 16 = (c : Int) := ⟨(n * 16).toNat, by omega⟩
  refine ⟨strOfNums (List.replicate c 0), ?_, by rw [nums_size, List.length_replicate]; omega⟩
  have hin : ∀ a b c : Int, b ≤ a → a ≤ c → Ev (fun _ => spec_l01In.f a b c) true := fun a b c h1 h2 => ⟨0, fun _ _ => by rw [in_ev, decide_eq_true ⟨h1, h2⟩]⟩
  unfold spec_MemoryNew.f spec_ZeroText.f spec_l10Size.f
  refine Ev.bind (hin n 0 1000 (by omega) (by omega)) (ev_pos rfl (Ev.bind (Ev.now (16 : Int)) ?_))
  rw [e1, hc]
  exact Ev.bind (Ev.bind (hin (c : Int) 0 20000 (by omega) (by omega)) (ev_pos rfl (Ev.bind (long_ev c 0 (by omega)) (Ev.now _)))) (Ev.now _)

theorem memory_loop (bs : List Int) (hn : bs.length ≤ 1048576) : ∀ (m : Nat) (i p s : Int) (K : ByteArray) (xs : List S49), (12 - i).toNat ≤ m → 0 ≤ i → i ≤ 12 → K.size ≤ 80 → xs.length + m ≤ 20 → 0 ≤ p → p ≤ bs.length →
    ∃ r : ByteArray × List S49 × Int × Int, Ev (fun k => spec_l10Memory.l0 k i bs p s K xs) r ∧ r.1.size ≤ 80 ∧ r.2.1.length ≤ 20 ∧ 0 ≤ r.2.2.1 ∧ r.2.2.1 ≤ bs.length := by
  intro m
  induction m with
  | zero =>
    intro i p s K xs hm hi hi2 hK hx h0 h1
    obtain ⟨v, p1, s1, e1, b1, c1, _, d1, f1⟩ := below_ex bs hn p s 12 h0 h1
    have c1 := c1 (by omega)
    refine ⟨(K, xs, p1, s1), ev_succ ?_, hK, by show xs.length ≤ 20; omega, d1, f1⟩
    simp only [spec_l10Memory.l0, e1, Option.bind_some, if_neg (show ¬ i < v by omega)]
    exact Ev.now _
  | succ m ih =>
    intro i p s K xs hm hi hi2 hK hx h0 h1
    obtain ⟨v, p1, s1, e1, b1, c1, _, d1, f1⟩ := below_ex bs hn p s 12 h0 h1
    have c1 := c1 (by omega)
    by_cases hc : i < v
    · have g2 : wrap64 (i + 1) = i + 1 := w64 (by omega) (by omega)
      obtain ⟨v2, p2, s2, e2, b2, c2, _, d2, f2⟩ := below_ex bs hn p1 s1 5 d1 f1
      have c2 := c2 (by omega)
      by_cases k0 : v2 = 0
      · obtain ⟨q, hq, q1, q2⟩ := fence_ex K xs (by omega) (by omega)
        obtain ⟨r, hr, hr2⟩ := ih (i + 1) p2 s2 q.1 q.2 (by omega) (by omega) (by omega) (by omega) (by omega) d2 f2
        refine ⟨r, ev_succ ?_, hr2⟩
        simp only [spec_l10Memory.l0, e1, e2, Option.bind_some, if_pos hc, if_pos k0, g2]
        exact Ev.bind hq hr
      · by_cases k1 : v2 = 1
        · obtain ⟨v3, p3, s3, e3, b3, c3, _, d3, f3⟩ := below_ex bs hn p2 s2 5 d2 f2
          obtain ⟨ys, hq, q2⟩ := flush_ex K xs (by omega) (by omega) v3
          obtain ⟨r, hr, hr2⟩ := ih (i + 1) p3 s3 K ys (by omega) (by omega) (by omega) (by omega) (by omega) d3 f3
          refine ⟨r, ev_succ ?_, hr2⟩
          simp only [spec_l10Memory.l0, e1, e2, e3, Option.bind_some, if_pos hc, if_neg k0, if_pos k1, g2]
          exact Ev.bind hq hr
        · obtain ⟨v3, p3, s3, e3, b3, c3, _, d3, f3⟩ := below_ex bs hn p2 s2 10 d2 f2
          obtain ⟨w, p4, s4, e4, d4, f4⟩ := text_ex bs hn p3 s3 8 d3 f3
          obtain ⟨ys, hq, q2⟩ := store_ex K xs (by omega) (by omega) v3 w
          obtain ⟨r, hr, hr2⟩ := ih (i + 1) p4 s4 K ys (by omega) (by omega) (by omega) (by omega) (by omega) d4 f4
          refine ⟨r, ev_succ ?_, hr2⟩
          simp only [spec_l10Memory.l0, e1, e2, e3, Option.bind_some, if_pos hc, if_neg k0, if_neg k1, g2]
          exact Ev.bind e4 (Ev.bind hq hr)
    · refine ⟨(K, xs, p1, s1), ev_succ ?_, hK, by show xs.length ≤ 20; omega, d1, f1⟩
      simp only [spec_l10Memory.l0, e1, Option.bind_some, if_neg hc]
      exact Ev.now _
theorem memory_ex (bs : List Int) (hn : bs.length ≤ 1048576) (p s : Int) (h0 : 0 ≤ p) (h1 : p ≤ bs.length) :
    ∃ r : ByteArray × List S49 × Int × Int, Ev (fun k => spec_l10Memory.f k bs p s) r ∧ r.1.size ≤ 80 ∧ r.2.1.length ≤ 20 ∧ 0 ≤ r.2.2.1 ∧ r.2.2.1 ≤ bs.length := by
  obtain ⟨v, p1, s1, e1, b1, c1, _, d1, f1⟩ := below_ex bs hn p s 5 h0 h1
  have c1 := c1 (by omega)
  have g1 : wrap64 (1 + v) = 1 + v := w64 (by omega) (by omega)
  obtain ⟨K, hk, hs⟩ := new_mem (1 + v) (by omega) (by omega)
  obtain ⟨r, hr, hr2⟩ := memory_loop bs hn 12 0 p1 s1 K [] (by omega) (by omega) (by omega) hs (by simp) d1 f1
  refine ⟨r, ?_, hr2⟩
  unfold spec_l10Memory.f
  simp only [e1, Option.bind_some, g1]
  exact Ev.bind hk hr
theorem any_mem (bs : List Int) (hn : bs.length ≤ 1048576) (p s : Int) (h0 : 0 ≤ p) (h1 : p ≤ bs.length) :
    ∃ r : ByteArray × List S49 × Int × Int, Ev (fun k => spec_l10Any.f k bs p s) r ∧ r.1.size ≤ 96 ∧ r.2.1.length ≤ 30 ∧ 0 ≤ r.2.2.1 ∧ r.2.2.1 ≤ bs.length := by
  obtain ⟨q, hq, q1, q2, q3, q4⟩ := memory_ex bs hn p s h0 h1
  obtain ⟨v, p1, s1, e1, b1, c1, _, d1, f1⟩ := below_ex bs hn q.2.2.1 q.2.2.2 14 q3 q4
  unfold spec_l10Any.f
  by_cases k0 : v = 0
  · refine ⟨(q.1 ++ (⟨#[120]⟩ : ByteArray), q.2.1, p1, s1), Ev.bind hq ?_, by show (q.1 ++ _).size ≤ _; rw [ByteArray.size_append]; show q.1.size + 1 ≤ 96; omega, by show q.2.1.length ≤ 30; omega, d1, f1⟩
    simp only [e1, Option.bind_some, if_pos k0, if_pos (show q.1.size + 1 ≤ 9223372036854775807 by omega)]
    exact Ev.now _
  · by_cases k1 : v = 1
    · obtain ⟨v2, p2, s2, e2, _, d2, f2⟩ := pickint_ex bs hn p1 s1 [0, 4, 5, (-1), 100] (by decide) d1 f1
      refine ⟨(q.1, q.2.1 ++ [(⟨v2, strOfNums (List.replicate 16 7), false⟩ : S49)], p2, s2), Ev.bind hq ?_, by show q.1.size ≤ 96; omega, by show (q.2.1 ++ _).length ≤ 30; rw [List.length_append]; simp only [List.length_cons, List.length_nil]; omega, d2, f2⟩
      simp only [e1, e2, Option.bind_some, if_neg k0, if_pos k1]
      refine Ev.bind (long_ev 16 7 (by omega)) ?_
      exact ev_pos (by omega) (Ev.now _)
    · by_cases k2 : v = 2
      · refine ⟨(q.1, [(⟨0, (⟨#[115, 104, 111, 114, 116]⟩ : ByteArray), false⟩ : S49)], p1, s1), Ev.bind hq ?_, by show q.1.size ≤ 96; omega, by show 1 ≤ 30; omega, d1, f1⟩
        simp only [e1, Option.bind_some, if_neg k0, if_neg k1, if_pos k2, List.length_nil, List.nil_append, if_pos (show 0 < 4398046511104 by omega)]
        exact Ev.now _
      · refine ⟨(q.1, q.2.1, p1, s1), Ev.bind hq ?_, by show q.1.size ≤ 96; omega, by show q.2.1.length ≤ 30; omega, d1, f1⟩
        simp only [e1, Option.bind_some, if_neg k0, if_neg k1, if_neg k2]
        exact Ev.now _
theorem draw_ex (bs : List Int) (hn : bs.length ≤ 1048576) : ∃ r : ByteArray × List S49 × Int, Ev (fun k => spec_DrawFallenMemory.f k bs) r ∧ r.1.size ≤ 96 ∧ r.2.1.length ≤ 30 := by
  obtain ⟨s, hs⟩ := new_ex bs
  obtain ⟨q, hq, q1, q2, q3, q4⟩ := any_mem bs hn 0 s (by omega) (by omega)
  obtain ⟨v, p1, s1, e1, _, d1, f1⟩ := pickint_ex bs hn q.2.2.1 q.2.2.2 [0, 1, 2, 5, 10, 255, 9223372036854775807, (-1)] (by decide) q3 q4
  refine ⟨(q.1, q.2.1, v), ?_, q1, q2⟩
  unfold spec_DrawFallenMemory.f
  refine Ev.bind hs (Ev.bind hq ?_)
  simp only [e1, Option.bind_some]
  exact Ev.now _

theorem tail_ev (K : ByteArray) (xs : List S49) (h : memB K xs = true) (hK : K.size ≤ 100) (hl : xs.length ≤ 100) (K' : ByteArray) (hK' : K' = fallN 9223372036854775807 xs K xs.length) : ∀ d i : Nat, i + d = 2 * xs.length → Ev (fun k => laws_FnUnsure.l0 k (xs.map (·.f0)) (i : Int) K xs K' []) true := by
  have hsz : K'.size = K.size := by rw [hK']; exact fallN_size (mem_cells h).2 _ (Nat.le_refl _)
  have h' := mem_nil h hsz
  have hfew := cells_few h hK
  have hfa := fall_at h (by omega) xs.length (Nat.le_refl _)
  rw [← hK'] at hfa
  have hlen : (xs.map (·.f0)).length = xs.length := List.length_map ..
  have e0 : wrap64 (2 * ((xs.map (·.f0)).length : Int)) = ((2 * xs.length : Nat) : Int) := by rw [hlen, w64 (by omega) (by omega)]; omega
  intro d
  induction d with
  | zero =>
    intro i hi
    have hs := spec_lines_ev K xs (by omega) xs.length 0 (by omega) [] (by simp)
    have hz := impl_lines_ev K' [] (by simp) 0 0 (by simp) [] (by simp)
    refine ev_succ ?_
    simp only [laws_FnUnsure.l0, e0, if_neg (show ¬ (i : Int) < ((2 * xs.length : Nat) : Int) by omega)]
    have hs' : Ev (fun k => spec_Unsure.f k K xs) (xs.map (·.f0)) := by
      unfold spec_Unsure.f
      simpa using hs
    have hz' : Ev (fun k => impl_Unsure.f k K' ([] : List S49)) [] := by
      unfold impl_Unsure.f
      simpa using hz
    have hi' : Ev (fun k => laws_sameInts.f k (xs.map (·.f0)) (xs.map (·.f0))) true := by
      unfold laws_sameInts.f
      exact ev_pos rfl (ints_same _ (by omega) (xs.map (·.f0)).length 0 (by omega))
    refine Ev.bind hs' (Ev.bind hi' (ev_pos rfl (Ev.bind hz' ?_)))
    simp only [memnew_ev, Option.bind_some, List.length_nil, zeros16]
    exact ev_pos (by rfl) (Ev.now _)
  | succ d ih =>
    intro i hi
    have ih := ih (i + 1) (by omega)
    have hj : i / 2 < xs.length := by omega
    have e4 : rd (xs.map (·.f0)) ((i / 2 : Nat) : Int) = (rd_T49 xs ((i / 2 : Nat) : Int)).f0 := by
      unfold rd rd_T49
      rw [Int.toNat_natCast, List.getD_eq_getElem?_getD, List.getD_eq_getElem?_getD, List.getElem?_map, List.getElem?_eq_getElem hj]
      rfl
    obtain ⟨a0, a1, a2, _⟩ := mem_at h hj
    obtain ⟨n, hn⟩ : ∃ n : Nat, (rd_T49 xs ((i / 2 : Nat) : Int)).f0 = (n : Int) := ⟨_, (Int.toNat_of_nonneg a0).symm⟩
    have hn16 : (n + 1) * 16 ≤ K.size := by omega
    have q1 : (i : Int) < ((2 * xs.length : Nat) : Int) := by omega
    have q2 : (0 : Int) ≤ ((i / 2 : Nat) : Int) := by omega
    have q3 : ((i / 2 : Nat) : Int) < (xs.length : Int) := by omega
    obtain ⟨s, hs, hz, hs1, _⟩ := line_ev h (by omega) (by omega) n hn16
    obtain ⟨s', hs', hz', _, hs2⟩ := line_ev h' (by omega) (by simp) n (by omega)
    have hss : s' = s := by
      rw [hs1 _ hj hn, hs2 (fun j hj => by simp at hj)]
      apply data_ext
      rw [extract_list, ← hfa _ hj, hn, show (n + 1) * 16 - n * 16 = 16 by omega, show ((n : Int) * 16).toNat = n * 16 by omega]
    subst hss
    have w1 := wordat_ev h' (by omega) (by simp) n (i % 2) (by omega) (by omega) hs' hz'
    have w2 := wordat_ev h (by omega) (by omega) n (i % 2) (by omega) (by omega) hs hz
    have e0' := e0
    rw [hlen] at e0'
    refine ev_succ ?_
    simp only [laws_FnUnsure.l0, e0', if_pos q1, wnat (a := Int.tdiv (i : Int) 2) (b := i / 2) (by rw [Int.tdiv_eq_ediv_of_nonneg (by omega)]; omega) (by omega), hlen, if_pos q2, if_pos q3, e4, hn, wnat (a := 2 * (n : Int)) (b := 2 * n) (by omega) (by omega), show Int.tmod (i : Int) 2 = ((i % 2 : Nat) : Int) by rw [Int.tmod_eq_emod_of_nonneg (by omega)]; omega, wnat (a := ((2 * n : Nat) : Int) + ((i % 2 : Nat) : Int)) (b := 2 * n + i % 2) (by omega) (by omega), wnat (a := (i : Int) + 1) (b := i + 1) (by omega) (by omega)]
    refine Ev.bind w1 ?_
    refine Ev.bind w2 ?_
    exact ev_pos rfl ih
theorem FnUnsure : Go.Proofs.Ytnmkcognggeioaa.QFnUnsure.Stated := by
  intro bs _
  unfold laws_FnUnsure.f laws_big.f
  refine Ev.rounds ?_
  simp only [Option.bind_some]
  by_cases hbig : (bs.length : Int) > 1048576
  · simp only [decide_eq_true hbig, if_true]
    exact Ev.now _
  simp only [decide_eq_false hbig, Bool.false_eq_true, if_false]
  obtain ⟨⟨K, xs, p⟩, hd, hK, hl⟩ := draw_ex bs (by omega)
  have hK : K.size ≤ 96 := hK
  have hl : xs.length ≤ 30 := hl
  have hs := spec_fallen p K xs (by omega) (by omega)
  have hi := impl_fallen p K xs (by omega) (by omega)
  have hm := spec_mem K xs (by omega) (by omega)
  obtain ⟨r1, r2⟩ := fallen_size p K xs
  have hrl : (fallen p K xs).2.length ≤ 1048576 := by
    rcases r2 with e | e
    · rw [e]; omega
    · rw [e]; simp
  refine Ev.bind hd (Ev.bind hi (Ev.bind hs (Ev.bind (mem_same _ _ hrl) (ev_pos rfl (Ev.bind hm ?_)))))
  have same : memB K xs ≠ true ∨ p < 0 → Ev (fun k => laws_FnUnsure.j0 k true K xs (fallen p K xs).1 (fallen p K xs).2) true := fun h => by
    have hf : fallen p K xs = (K, xs) := by
      unfold fallen
      exact if_neg (fun c => by rcases h with h | h; exact h c.1; omega)
    rw [hf]
    refine ev_succ ?_
    simp only [laws_FnUnsure.j0, if_true]
    refine Ev.bind (mem_same K xs (by omega)) (ev_pos rfl ?_)
    simp only [memnew_ev, Option.bind_some, zeros16]
    exact Ev.now _
  by_cases h : memB K xs = true
  · refine ev_pos h ?_
    by_cases hp : p < 0
    · simp only [decide_eq_true hp]
      exact same (.inr hp)
    · simp only [decide_eq_false hp]
      have hall := impl_fallen 9223372036854775807 K xs (by omega) (by omega)
      have hf : fallen 9223372036854775807 K xs = (fallN 9223372036854775807 xs K xs.length, []) := by
        unfold fallen
        exact if_pos ⟨h, by omega⟩
      rw [hf] at hall
      have hu := impl_lines_ev K xs (by omega) xs.length 0 (by omega) [] (by simp)
      have hu' : Ev (fun k => impl_Unsure.f k K xs) (xs.map (·.f0)) := by
        unfold impl_Unsure.f
        simpa using hu
      refine ev_succ ?_
      simp only [laws_FnUnsure.j0, Bool.false_eq_true, if_false]
      exact Ev.bind hall (Ev.bind hu' (tail_ev K xs h (by omega) (by omega) _ rfl (2 * xs.length) 0 (by omega)))
  · exact ev_neg h (same (.inl h))
end Go.Proofs.Ytnmkcognggeioaa.Pure
