import Derived.Test.YtjjdjkkhhcbogaaShelfA
import Derived.Test.YtjjdjkkhhcbogaaX53
import Derived.Test.YtjjdjkkhhcbogaaFG1
import Derived.Test.YtjjdjkkhhcbogaaFM13
namespace Go.Proofs.Ytjjdjkkhhcbogaa.DM
set_option linter.unusedVariables false
set_option linter.unusedSimpArgs false
set_option maxRecDepth 4000
set_option maxHeartbeats 8000000
theorem rD_ints : ∀ l : List Int, rD l = l.map fun x => .sc (.int .i64 x)
  | [] => rfl
  | x :: l => by rw [rD_cons, rD_ints l]; rfl
theorem srt_len (l : List Int) : (srt l).length = l.length := List.length_mergeSort l
theorem sortI_spec (l : List Int) (h0 : 0 < l.length) (hl : l.length ≤ 1099511627776) : Spec Try.prog 100 [.one (.m 1 l.length (rD l))] [] [] [.one (.m 1 l.length (rD (srt l)))] := by
  rw [rD_ints, rD_ints]
  refine Spec.sortI ⟨_, Try.func100, by kernel_rfl, by kernel_rfl⟩ h0 (srt_len l) fun b o c w hH hb hc hm => ?_
  exact Try.slices_Sort_int b o c l w hH hb (by omega)
theorem compact_le (l : List Int) : (Lib.compact l).length ≤ l.length := by
  have := List.length_filter_le (Lib.keeps l.toArray) (List.range l.length)
  simpa [Lib.compact, Lib.compactUpTo] using this
theorem compactI_spec (l : List Int) (h0 : 0 < l.length) : Spec Try.prog 101 [.one (.c 1 l.length (rD l))] [none] [dr (Lib.compact l)] [.one (.c 1 l.length (rD l))] := by
  show Spec _ _ _ _ [.ow () 1 _ (rD (Lib.compact l))] _
  rw [rD_ints, rD_ints]
  have hle := compact_le l
  refine Spec.compactI (zs := List.replicate (l.length - (Lib.compact l).length) 0) ⟨_, Try.func101, by kernel_rfl, by kernel_rfl⟩ h0 (by rw [List.length_append, List.length_replicate]; omega) fun b o c w hH hb hc hm => ?_
  exact Try.slices_Compact_int b o c l w hH (by simp only [maxLen] at hm; omega) hc
theorem sortN_spec : Spec Try.prog 100 [.one (.r (.sl 0 []))] [] [] [.one (.r (.sl 0 []))] := Spec.read0 ⟨_, Try.func100, by kernel_rfl, by kernel_rfl⟩ fun p c w => Try.slices_Sort_int_none p c w
theorem compactN_spec : Spec Try.prog 101 [.one (.c 1 0 [])] [none] [.ow () 1 0 []] [.one (.c 1 0 [])] := Spec.give0 ⟨_, Try.func101, by kernel_rfl, by kernel_rfl⟩ fun p c w => Try.slices_Compact_int_empty p c w
theorem rD_flat {α : Type} [Row α] (h : ∀ x : α, (Row.d x).all flatD = true) : ∀ l : List α, (rD l).all flatD = true
  | [] => rfl
  | x :: l => by rw [rD_cons, List.all_append, h x, rD_flat h l]; rfl
@[simp] theorem rD_flat_Int (l : List Int) : (rD l).all flatD = true := rD_flat (fun _ => rfl) l
@[simp] theorem rD_flat_BA (l : List ByteArray) : (rD l).all flatD = true := rD_flat (fun _ => rfl) l
@[simp] theorem rD_flat_Write (l : List Write) : (rD l).all flatD = true := rD_flat (fun _ => rfl) l
@[simp] theorem rD_flat_Step (l : List Step) : (rD l).all flatD = true := rD_flat (fun _ => rfl) l
@[simp] theorem rD_flat_Sealing (l : List Sealing) : (rD l).all flatD = true := rD_flat (fun _ => rfl) l
theorem ins_skip (n : Int) : ∀ (A B : List Int), (∀ x ∈ A, x < n) → ins n (A ++ B) = A ++ ins n B
  | [], B, _ => rfl
  | a :: A, B, h => by
    have ha := h a List.mem_cons_self
    have := ins_skip n A B fun x hx => h x (List.mem_cons_of_mem _ hx)
    simp [ins, ha, this]
theorem insI_at (n : Int) (L : List Int) (k : Nat) (hk : k ≤ L.length) (h : ∀ x ∈ L.take k, x < n) (hn : ∀ (hk : k < L.length), ¬ L[k] < n) : ins n L = if hk : k < L.length then (if L[k] = n then L else L.take k ++ n :: L.drop k) else L.take k ++ n :: L.drop k := by
  have h0 := ins_skip n (L.take k) (L.drop k) h
  rw [List.take_append_drop] at h0
  split
  · rename_i hk
    rw [h0, List.drop_eq_getElem_cons hk]
    have hnn := hn hk
    split
    · rename_i he
      simp only [ins, if_neg hnn, if_pos he]
      rw [← List.drop_eq_getElem_cons hk, List.take_append_drop]
    · rename_i he
      simp only [ins, if_neg hnn, if_neg he]
  · rename_i hk
    rw [h0, List.drop_eq_nil_of_le (by omega)]; rfl
def lnsN (ws : List Write) (i : Nat) : List Int := (ws.take i).foldl sstep []
theorem lnsN_succ (ws : List Write) (i : Nat) (h : i < ws.length) : lnsN ws (i + 1) = sstep (lnsN ws i) ws[i] := by
  unfold lnsN; rw [take_succ' ws i h, List.foldl_append]; rfl
theorem lnsN_len (ws : List Write) (i : Nat) : (lnsN ws i).length ≤ i := by
  have := s_len (ws.take i) []
  simp only [List.length_nil, List.length_take] at this
  unfold lnsN; omega
theorem rD_takeI (l : List Int) (k : Nat) : (rD l).take k = rD (l.take k) := by rw [rD_ints, rD_ints, List.map_take]
theorem rD_dropI (l : List Int) (k : Nat) : (rD l).drop k = rD (l.drop k) := by rw [rD_ints, rD_ints, List.map_drop]
def atsN (ws : List Write) (i : Nat) : List Int := (ws.take i).foldl istep []
theorem atsN_succ (ws : List Write) (i : Nat) (h : i < ws.length) : atsN ws (i + 1) = istep (atsN ws i) ws[i] := by
  unfold atsN; rw [take_succ' ws i h, List.foldl_append]; rfl
theorem atsN_len (ws : List Write) : ∀ i, i ≤ ws.length → (atsN ws i).length ≤ i
  | 0, _ => by simp [atsN]
  | i + 1, h => by
    have := atsN_len ws i (by omega)
    rw [atsN_succ ws i (by omega)]
    unfold istep
    split <;> simp <;> omega
theorem atsN_pos (ws : List Write) (h : ∀ w ∈ ws, 0 ≤ w.At) : ∀ i, i ≤ ws.length → (atsN ws i).length = i
  | 0, _ => by simp [atsN]
  | i + 1, hi => by
    rw [atsN_succ ws i (by omega)]
    have := atsN_pos ws h i (by omega)
    unfold istep
    rw [if_pos (h _ (List.getElem_mem _))]
    simp [this]
def durN (ws : List Write) (i : Nat) : List Step := (ws.take i).map fun w => ⟨1, w.At, w.Word⟩
theorem durN_succ (ws : List Write) (i : Nat) (h : i < ws.length) : durN ws (i + 1) = durN ws i ++ [⟨1, (ws[i]).At, (ws[i]).Word⟩] := by
  unfold durN; rw [take_succ' ws i h, List.map_append]; rfl
theorem durN_len (ws : List Write) (i : Nat) : (durN ws i).length = min i ws.length := by simp [durN]
def durF (ws : List Write) (j : Nat) : List Step := durN ws ws.length ++ ((linesOf ws).take j).map fun x => ⟨2, x, ByteArray.empty⟩
theorem durF_succ (ws : List Write) (i : Nat) (h : i < (linesOf ws).length) : durF ws (i + 1) = durF ws i ++ [⟨2, (linesOf ws)[i], ByteArray.empty⟩] := by
  unfold durF; rw [take_succ' _ i h, List.map_append, List.append_assoc]; rfl
theorem durF_len (ws : List Write) (i : Nat) : (durF ws i).length = ws.length + min i (linesOf ws).length := by simp [durF, durN_len]
theorem durable_eq (ws : List Write) (h : 0 < ws.length) : durable ws = durF ws (linesOf ws).length ++ [⟨3, 0, ByteArray.empty⟩] := by
  unfold durable durF durN
  rw [if_neg (by omega), List.take_length, List.take_length]

theorem specLinesOf_spec (ws : List Write) (hl : ws.length ≤ 2 ^ 36) : Spec Try.prog 45 [ra ws] [none] [dr (linesOf ws)] [ra ws] := by
  refine Spec.intro Try.func45 rfl rfl Try.ntmps45 rfl (by simp) ?_
  refine DW.seq ?_
  refine DW.reg (by simp (maxSteps := 200000) (disch := first | omega | (simp; done) | fail) [wrapI, leT, leF, ltT, ltF, eqF, nleT, nleF, nltT, nltF]; rfl) ?_
  refine DW.seq ?_
  refine DW.reg (by simp (maxSteps := 200000) (disch := first | omega | (simp; done) | fail) [wrapI, leT, leF, ltT, ltF, eqF, nleT, nleF, nltT, nltF]; rfl) ?_
  refine DW.seq ?_
  refine DW.seq ?_
  refine DW.reg (by simp (maxSteps := 200000) (disch := first | omega | (simp; done) | fail) [wrapI, leT, leF, ltT, ltF, eqF, nleT, nleF, nltT, nltF]; rfl) ?_
  refine DW.ghost (Ghost.nlRow 3 1000 1 (by simp) (by simp)) ?_
  refine DW.block ?_
  refine DW.loopS (α := Nat) (fun i => i ≤ ws.length) (fun i => ws.length - i) (fun i => [(4, vi i), (3, .v (.one (.sl 1000 [] 0 (lnsN ws i).length)))]) (fun i => [(1000, .ow () 1 (lnsN ws i).length (rD (lnsN ws i)))]) [(0, _)] [] [] 0 (by simp) (by simp [lnsN]; rfl) (by simp [lnsN]) (by simp) (by rfl) ?_
  intro i hi
  refine DW.seq ?_
  refine DW.seq ?_
  refine DW.reg (by simp (maxSteps := 200000) (disch := first | omega | (simp; done) | fail) [wrapI, leT, leF, ltT, ltF, eqF, nleT, nleF, nltT, nltF]; rfl) ?_
  refine DW.condB (by simp (maxSteps := 200000) (disch := first | omega | (simp; done) | fail) [wrapI, leT, leF, ltT, ltF, eqF, nleT, nleF, nltT, nltF]; exact rfl) (fun hc0 => ?_) (fun hc0 => ?_)
  · have hlt : i < ws.length := by simpa using hc0
    have hlt1 : (i : Int) < ws.length := by omega
    have hd := rR_drop_Write ws i hlt
    have hw := wr ((i : Int) + 1) (by omega) (by omega)
    have hR := lnsN_succ ws i hlt
    have hKl := lnsN_len ws i
    generalize ws[i] = c at hd hR
    generalize (lnsN ws i) = K at hR hKl ⊢
    obtain ⟨q, hq⟩ : ∃ q, IntKind.i64.wrap (c.At.tdiv 2) = q := ⟨_, rfl⟩
    have hlq : ln c = q := hq
    refine DW.skip ?_
    refine DW.seq ?_
    refine DW.block ?_
    refine DW.seq ?_
    refine DW.reg (by simp (maxSteps := 200000) (disch := first | omega | (simp; done) | fail) [wrapI, leT, leF, ltT, ltF, eqF, nleT, nleF, nltT, nltF, hlt1, hw, hd, hq]; rfl) ?_
    refine DW.seq ?_
    refine DW.seq ?_
    refine DW.reg (by simp (maxSteps := 200000) (disch := first | omega | (simp; done) | fail) [wrapI, leT, leF, ltT, ltF, eqF, nleT, nleF, nltT, nltF, hlt1, hw, hd, hq]; rfl) ?_
    refine DW.condB (by simp (maxSteps := 200000) (disch := first | omega | (simp; done) | fail) [wrapI, leT, leF, ltT, ltF, eqF, nleT, nleF, nltT, nltF, hlt1, hw, hd, hq]; exact rfl) (fun hc1 => ?_) (fun hc1 => ?_)
    · have hneg : c.At < 0 := by simpa using hc1
      have hR : lnsN ws (i + 1) = K := by rw [hR, sstep, if_pos hneg]
      have hRd : True := trivial
      refine DW.exit ?_
      refine DW.reg (by simp (maxSteps := 200000) (disch := first | omega | (simp; done) | fail) [wrapI, leT, leF, ltT, ltF, eqF, nleT, nleF, nltT, nltF, hlt1, hw, hd, hq]; rfl) ?_
      exact ⟨i + 1, hlt, by omega, by simp [hR], by simp [hR], by simp, by rfl⟩
    · have hneg : ¬ c.At < 0 := by simpa using hc1
      rw [sstep, if_neg hneg, hlq] at hR
      refine DW.skip ?_
      refine DW.seq ?_
      refine DW.reg (by simp (maxSteps := 200000) (disch := first | omega | (simp; done) | fail) [wrapI, leT, leF, ltT, ltF, eqF, nleT, nleF, nltT, nltF, hlt1, hw, hd, hq]; rfl) ?_
      refine DW.seq ?_
      refine DW.block ?_
      refine DW.loopS (α := Nat) (fun k => k ≤ K.length ∧ ∀ x ∈ K.take k, x < q) (fun k => K.length - k) (fun k => [(6, vi k)]) (fun k => []) [(0, _), (3, _), (4, _), (5, _)] [(1000, _)] [] 0 (⟨Nat.zero_le _, by simp⟩) (by simp; exact ⟨rfl, rfl, rfl, rfl⟩) (by simp; exact rfl) (by simp) (by rfl) ?_
      rintro k ⟨hk, hall⟩
      refine DW.seq ?_
      refine DW.seq ?_
      by_cases hkl : k < K.length
      · have hd2 := rD_get_Int K k hkl
        have hkl1 : (k : Int) < K.length := by omega
        refine DW.reg (by simp (maxSteps := 200000) (disch := first | omega | (simp; done) | fail) [wrapI, leT, leF, ltT, ltF, eqF, nleT, nleF, nltT, nltF, hlt1, hw, hd, hq, hkl, hkl1, hd2]; rfl) ?_
        refine DW.condB (by simp (maxSteps := 200000) (disch := first | omega | (simp; done) | fail) [wrapI, leT, leF, ltT, ltF, eqF, nleT, nleF, nltT, nltF, hlt1, hw, hd, hq, hkl, hkl1, hd2]; exact rfl) (fun hc2 => ?_) (fun hc2 => ?_)
        · have hkq : K[k] < q := by simpa using hc2
          have hwk := wr ((k : Int) + 1) (by omega) (by omega)
          refine DW.skip ?_
          refine DW.block ?_
          refine DW.reg (by simp (maxSteps := 200000) (disch := first | omega | (simp; done) | fail) [wrapI, leT, leF, ltT, ltF, eqF, nleT, nleF, nltT, nltF, hlt1, hw, hd, hq, hkl, hkl1, hd2, hwk]; rfl) ?_
          exact ⟨k + 1, ⟨hkl, by rw [take_succ' K k hkl]; intro x hx; rcases List.mem_append.1 hx with hx | hx; exact hall x hx; rw [List.mem_singleton.1 hx]; exact hkq⟩, by omega, by simp, by simp, by simp, by rfl⟩
        · have hkq : ¬ K[k] < q := by simpa using hc2
          have hix := insI_at q K k hk hall fun _ => hkq
          rw [dif_pos hkl] at hix
          refine DW.exit ?_
          refine DW.seq ?_
          refine DW.seq ?_
          refine DW.reg (by simp (maxSteps := 200000) (disch := first | omega | (simp; done) | fail) [wrapI, leT, leF, ltT, ltF, eqF, nleT, nleF, nltT, nltF, hlt1, hw, hd, hq, hkl, hkl1, hd2]; rfl) ?_
          refine DW.condB (by simp (maxSteps := 200000) (disch := first | omega | (simp; done) | fail) [wrapI, leT, leF, ltT, ltF, eqF, nleT, nleF, nltT, nltF, hlt1, hw, hd, hq, hkl, hkl1, hd2]; exact rfl) (fun hc3 => ?_) (fun hc3 => ?_)
          · have hke : K[k] = q := by simpa using hc3
            rw [if_pos hke] at hix
            rw [hix] at hR
            have hRd : True := trivial
            refine DW.exit ?_
            refine DW.reg (by simp (maxSteps := 200000) (disch := first | omega | (simp; done) | fail) [wrapI, leT, leF, ltT, ltF, eqF, nleT, nleF, nltT, nltF, hlt1, hw, hd, hq, hkl, hkl1, hd2]; rfl) ?_
            exact ⟨i + 1, hlt, by omega, by simp [hR], by simp [hR], by simp, by rfl⟩
          · have hke : ¬ K[k] = q := by simpa using hc3
            rw [if_neg hke] at hix
            rw [hix] at hR
            refine DW.skip ?_
            refine DW.seq ?_
            have hRDx : rD (K.take k ++ q :: K.drop k) = (rD (K.take k) ++ [T.sc (.int .i64 q)]) ++ rD (K.drop k) := by
              rw [rD_append, rD_cons, List.append_assoc]; rfl
            have hA : (rD K).take k = rD (K.take k) := rD_takeI K k
            have hB : (rD K).drop k = rD (K.drop k) := rD_dropI K k
            have hAl : (K.take k).length = k := by simp; omega
            have hBl : (K.drop k).length = K.length - k := by simp
            have hk0 : (k : Int) ≤ K.length := by omega
            have n1 : k * 8 ≤ 140737488355328 := by omega
            have n2 : k ≤ 140737488355328 := by omega
            have n3 : (k + 1) * 8 ≤ 140737488355328 := by omega
            have n4 : k + 1 ≤ 140737488355328 := by omega
            have n5 : (k + 1 + (K.length - k)) * 8 ≤ 140737488355328 := by omega
            have n6 : k + 1 + (K.length - k) ≤ 140737488355328 := by omega
            have hBt : (rD (K.drop k)).take (K.length - k) = rD (K.drop k) := by have := rD_take1_Int (K.drop k); rwa [hBl] at this
            have hRl : (K.take k ++ q :: K.drop k).length = k + 1 + (K.length - k) := by simp; omega
            have hRR : rD (lnsN ws (i + 1)) = (rD (K.take k) ++ [T.sc (.int .i64 q)]) ++ rD (K.drop k) := by rw [hR]; exact hRDx
            have hRlen : (lnsN ws (i + 1)).length = k + 1 + (K.length - k) := by rw [hR]; exact hRl
            clear hR
            have hAl2 : (rD (K.take k)).length = k := by rw [rD_len_Int, hAl]; omega
            have hBl2 : (rD (K.drop k)).length = K.length - k := by rw [rD_len_Int, hBl]; omega
            generalize K.take k = KA at *
            generalize K.drop k = KB at *
            have hAk : k ≤ KA.length := by omega
            have hAt : (rD KA).take k = rD KA := List.take_of_length_le (by omega)
            have n4b : k ≤ 140737488355327 := by omega
            have hCt : (rD KA ++ [(T.sc (.int .i64 q) : D)]).take (k + 1) = rD KA ++ [T.sc (.int .i64 q)] := List.take_of_length_le (by simp; omega)
            refine DW.reg (by simp [hlt1, hw, hd, hq, hkl, hkl1, hd2, hk, hk0, hA, hAk, hAt, n1, n2, n3, n4, n4b]; rfl) ?_
            refine DW.reg (by simp [hlt1, hw, hd, hq, hkl, hkl1, hd2, hk, hk0, hB, hBt, hAl, hBl, hAl2, hBl2, hCt, n5, n6]; rfl) ?_
            refine DW.ghost (Ghost.free 1000) ?_
            refine DW.ghost (Ghost.move (id := 65) (id' := 1000) (p := []) (by simp [FS.free]; rfl) (by simp [FS.free]; first | exact ⟨rfl, rfl, rfl⟩ | rfl) (by simp [FS.free])) ?_
            refine DW.norm [(0, _), (3, _), (4, _)] [(1000, _)] [] (by simp [hlt1, hw, hd, hq, hkl, hkl1, hd2, FS.free]; exact ⟨rfl, rfl, rfl⟩) (by simp [hlt1, hw, hd, hq, hkl, hkl1, hd2, FS.free]; rfl) (by simp [hlt1, hw, hd, hq, hkl, hkl1, hd2, FS.free]) (by rfl) ?_
            refine DW.reg (by simp (maxSteps := 200000) (disch := first | omega | (simp; done) | fail) [wrapI, leT, leF, ltT, ltF, eqF, nleT, nleF, nltT, nltF, hlt1, hw, hd, hq, hkl, hkl1, hd2]; rfl) ?_
            exact ⟨i + 1, hlt, by omega, by simp [hRlen], by simp [hRR, hRlen], by simp, by rfl⟩
      · have hix := insI_at q K k hk hall fun h => absurd h hkl
        rw [dif_neg hkl] at hix
        have hkn : k = K.length := by omega
        rw [hix] at hR
        refine DW.reg (by simp (maxSteps := 200000) (disch := first | omega | (simp; done) | fail) [wrapI, leT, leF, ltT, ltF, eqF, nleT, nleF, nltT, nltF, hlt1, hw, hd, hq, hkl]; rfl) ?_
        refine DW.condF (by simp (maxSteps := 200000) (disch := first | omega | (simp; done) | fail) [wrapI, leT, leF, ltT, ltF, eqF, nleT, nleF, nltT, nltF, hlt1, hw, hd, hq, hkl]) ?_
        refine DW.exit ?_
        refine DW.seq ?_
        refine DW.seq ?_
        refine DW.reg (by simp (maxSteps := 200000) (disch := first | omega | (simp; done) | fail) [wrapI, leT, leF, ltT, ltF, eqF, nleT, nleF, nltT, nltF, hlt1, hw, hd, hq, hkl]; rfl) ?_
        refine DW.condF (by simp (maxSteps := 200000) (disch := first | omega | (simp; done) | fail) [wrapI, leT, leF, ltT, ltF, eqF, nleT, nleF, nltT, nltF, hlt1, hw, hd, hq, hkl]) ?_
        refine DW.skip ?_
        refine DW.seq ?_
        have hRDx : rD (K.take k ++ q :: K.drop k) = (rD (K.take k) ++ [T.sc (.int .i64 q)]) ++ rD (K.drop k) := by
          rw [rD_append, rD_cons, List.append_assoc]; rfl
        have hA : (rD K).take k = rD (K.take k) := rD_takeI K k
        have hB : (rD K).drop k = rD (K.drop k) := rD_dropI K k
        have hAl : (K.take k).length = k := by simp; omega
        have hBl : (K.drop k).length = K.length - k := by simp
        have hk0 : (k : Int) ≤ K.length := by omega
        have n1 : k * 8 ≤ 140737488355328 := by omega
        have n2 : k ≤ 140737488355328 := by omega
        have n3 : (k + 1) * 8 ≤ 140737488355328 := by omega
        have n4 : k + 1 ≤ 140737488355328 := by omega
        have n5 : (k + 1 + (K.length - k)) * 8 ≤ 140737488355328 := by omega
        have n6 : k + 1 + (K.length - k) ≤ 140737488355328 := by omega
        have hBt : (rD (K.drop k)).take (K.length - k) = rD (K.drop k) := by have := rD_take1_Int (K.drop k); rwa [hBl] at this
        have hRl : (K.take k ++ q :: K.drop k).length = k + 1 + (K.length - k) := by simp; omega
        have hRR : rD (lnsN ws (i + 1)) = (rD (K.take k) ++ [T.sc (.int .i64 q)]) ++ rD (K.drop k) := by rw [hR]; exact hRDx
        have hRlen : (lnsN ws (i + 1)).length = k + 1 + (K.length - k) := by rw [hR]; exact hRl
        clear hR
        have hAl2 : (rD (K.take k)).length = k := by rw [rD_len_Int, hAl]; omega
        have hBl2 : (rD (K.drop k)).length = K.length - k := by rw [rD_len_Int, hBl]; omega
        generalize K.take k = KA at *
        generalize K.drop k = KB at *
        have hAk : k ≤ KA.length := by omega
        have hAt : (rD KA).take k = rD KA := List.take_of_length_le (by omega)
        have n4b : k ≤ 140737488355327 := by omega
        have hCt : (rD KA ++ [(T.sc (.int .i64 q) : D)]).take (k + 1) = rD KA ++ [T.sc (.int .i64 q)] := List.take_of_length_le (by simp; omega)
        refine DW.reg (by simp [hlt1, hw, hd, hq, hkl, hk, hk0, hA, hAk, hAt, n1, n2, n3, n4, n4b]; rfl) ?_
        refine DW.reg (by simp [hlt1, hw, hd, hq, hkl, hk, hk0, hB, hBt, hAl, hBl, hAl2, hBl2, hCt, n5, n6]; rfl) ?_
        refine DW.ghost (Ghost.free 1000) ?_
        refine DW.ghost (Ghost.move (id := 65) (id' := 1000) (p := []) (by simp [FS.free]; rfl) (by simp [FS.free]; first | exact ⟨rfl, rfl, rfl⟩ | rfl) (by simp [FS.free])) ?_
        refine DW.norm [(0, _), (3, _), (4, _)] [(1000, _)] [] (by simp [hlt1, hw, hd, hq, hkl, FS.free]; exact ⟨rfl, rfl, rfl⟩) (by simp [hlt1, hw, hd, hq, hkl, FS.free]; rfl) (by simp [hlt1, hw, hd, hq, hkl, FS.free]) (by rfl) ?_
        refine DW.reg (by simp (maxSteps := 200000) (disch := first | omega | (simp; done) | fail) [wrapI, leT, leF, ltT, ltF, eqF, nleT, nleF, nltT, nltF, hlt1, hw, hd, hq, hkl]; rfl) ?_
        have hz0 : K.length - k = 0 := by omega
        exact ⟨i + 1, hlt, by omega, by simp [hRlen, hz0], by simp [hRR, hRlen, hz0], by simp, by rfl⟩
  · have hil : i = ws.length := by
      have : ¬ i < ws.length := by simpa using hc0
      omega
    subst hil
    have hfin : lnsN ws ws.length = linesOf ws := by unfold lnsN linesOf; rw [List.take_length]
    rw [hfin]
    refine DW.exit ?_
    refine DW.seq ?_
    refine DW.reg (by simp (maxSteps := 200000) (disch := first | omega | (simp; done) | fail) [wrapI, leT, leF, ltT, ltF, eqF, nleT, nleF, nltT, nltF]; rfl) ?_
    refine DW.ret ?_
    simp [Try.results45]
theorem implLinesOf_spec (ws : List Write) (hl : ws.length ≤ 2 ^ 36) : Spec Try.prog 43 [ra ws] [none] [dr (linesOf ws)] [ra ws] := by
  refine Spec.intro Try.func43 rfl rfl Try.ntmps43 rfl (by simp) ?_
  refine DW.seq ?_
  refine DW.reg (by simp (maxSteps := 200000) (disch := first | omega | (simp; done) | fail) [wrapI, leT, leF, ltT, ltF, eqF, nleT, nleF, nltT, nltF]; rfl) ?_
  refine DW.seq ?_
  refine DW.reg (by simp (maxSteps := 200000) (disch := first | omega | (simp; done) | fail) [wrapI, leT, leF, ltT, ltF, eqF, nleT, nleF, nltT, nltF]; rfl) ?_
  refine DW.ghost (Ghost.nlRow 3 21 1 (by simp) (by simp)) ?_
  refine DW.seq ?_
  refine DW.seq ?_
  refine DW.reg (by simp (maxSteps := 200000) (disch := first | omega | (simp; done) | fail) [wrapI, leT, leF, ltT, ltF, eqF, nleT, nleF, nltT, nltF]; rfl) ?_
  refine DW.block ?_
  refine DW.loopS (α := Nat) (fun i => i ≤ ws.length) (fun i => ws.length - i) (fun i => [(9, vi i), (3, .v (.one (.sl 21 [] 0 (atsN ws i).length)))]) (fun i => [(21, .ow () 1 (atsN ws i).length (rD (atsN ws i)))]) [(7, _), (8, _)] [] [] 0 (by simp) (by simp [atsN]; exact ⟨rfl, rfl⟩) (by simp [atsN]) (by simp) (by rfl) ?_
  intro i hi
  refine DW.seq ?_
  refine DW.reg (by simp (maxSteps := 200000) (disch := first | omega | (simp; done) | fail) [wrapI, leT, leF, ltT, ltF, eqF, nleT, nleF, nltT, nltF]; rfl) ?_
  refine DW.seq ?_
  refine DW.condB (by simp (maxSteps := 200000) (disch := first | omega | (simp; done) | fail) [wrapI, leT, leF, ltT, ltF, eqF, nleT, nleF, nltT, nltF]; exact rfl) (fun hc0 => ?_) (fun hc0 => ?_)
  · have hlt : i < ws.length := by simpa using hc0
    have hlt1 : (i : Int) < ws.length := by omega
    have hd := rR_drop_Write ws i hlt
    have hw := wr ((i : Int) + 1) (by omega) (by omega)
    have hR := atsN_succ ws i hlt
    have hKl := atsN_len ws i hi
    have b1 : ((atsN ws i).length + 1) * 8 ≤ 140737488355328 := by omega
    have b2 : (atsN ws i).length + 1 ≤ 140737488355328 := by omega
    generalize ws[i] = c at hd hR
    generalize (atsN ws i) = K at *
    obtain ⟨q, hq⟩ : ∃ q, IntKind.i64.wrap (c.At.tdiv 2) = q := ⟨_, rfl⟩
    have hlq : ln c = q := hq
    have hRd : rD [q] = [T.sc (.int .i64 q)] := rfl
    refine DW.skip ?_
    refine DW.seq ?_
    refine DW.block ?_
    refine DW.seq ?_
    refine DW.reg (by simp [hlt1, hw, hd, hq, b1, b2]; rfl) ?_
    refine DW.seq ?_
    refine DW.reg (by simp (maxSteps := 200000) (disch := first | omega | (simp; done) | fail) [wrapI, leT, leF, ltT, ltF, eqF, nleT, nleF, nltT, nltF, hlt1, hw, hd, hq, b1, b2]; rfl) ?_
    refine DW.condB (by simp (maxSteps := 200000) (disch := first | omega | (simp; done) | fail) [wrapI, leT, leF, ltT, ltF, eqF, nleT, nleF, nltT, nltF, hlt1, hw, hd, hq, b1, b2]; exact rfl) (fun hc1 => ?_) (fun hc1 => ?_)
    · have hge : c.At ≥ 0 := by simpa using hc1
      rw [istep, if_pos hge, hlq] at hR
      refine DW.reg (by simp [hlt1, hw, hd, hq, b1, b2]; rfl) ?_
      refine DW.norm [(3, _), (7, _), (8, _), (9, _)] [(21, _)] [] (by simp [hlt1, hw, hd, hq, b1, b2]; exact ⟨rfl, rfl, rfl, rfl⟩) (by simp [hlt1, hw, hd, hq, b1, b2]; rfl) (by simp [hlt1, hw, hd, hq, b1, b2]) (by rfl) ?_
      refine DW.reg (by simp (maxSteps := 200000) (disch := first | omega | (simp; done) | fail) [wrapI, leT, leF, ltT, ltF, eqF, nleT, nleF, nltT, nltF, hlt1, hw, hd, hq, b1, b2]; rfl) ?_
      exact ⟨i + 1, hlt, by omega, by simp [hR], by simp [hR, rD_append, hRd], by simp, by rfl⟩
    · have hge : ¬ c.At ≥ 0 := by simpa using hc1
      rw [istep, if_neg hge] at hR
      refine DW.skip ?_
      refine DW.reg (by simp (maxSteps := 200000) (disch := first | omega | (simp; done) | fail) [wrapI, leT, leF, ltT, ltF, eqF, nleT, nleF, nltT, nltF, hlt1, hw, hd, hq, b1, b2]; rfl) ?_
      exact ⟨i + 1, hlt, by omega, by simp [hR], by simp [hR, rD_append, hRd], by simp, by rfl⟩
  · have hil : i = ws.length := by
      have : ¬ i < ws.length := by simpa using hc0
      omega
    subst hil
    have hQ : Lib.compact (srt (atsN ws ws.length)) = linesOf ws := by have := same ws; unfold atsN linesOf; rw [List.take_length]; exact this
    have hQm := atsN_len ws ws.length (Nat.le_refl _)
    generalize atsN ws ws.length = Q at *
    have hsl := srt_len Q
    have hcl := compact_le (srt Q)
    have hTt : (rD (srt Q)).take Q.length = rD (srt Q) := by have := rD_take1_Int (srt Q); rwa [hsl] at this
    have hTl : (rD (srt Q)).length = Q.length := by rw [rD_len_Int, hsl]; omega
    refine DW.exit ?_
    refine DW.seq ?_
    rcases Nat.eq_zero_or_pos Q.length with hz | hQ0
    · obtain rfl := List.eq_nil_of_length_eq_zero hz
      have hem0 : Lib.compact (srt []) = [] := by simp [srt, Lib.compact, Lib.compactUpTo]
      refine DW.regs ?_
      refine RegO.opN 1 (by simp (maxSteps := 200000) (disch := first | omega | (simp; done) | fail) [wrapI, leT, leF, ltT, ltF, eqF, nleT, nleF, nltT, nltF, hTt, hTl]; rfl) ?_
      refine RegO.step rfl (OpStep.ghost (Ghost.empty 23) (OpStep.callA rfl (by simp [emC, mapV]; first | exact ⟨rfl, rfl⟩ | rfl) (by simp [emC, mapV] <;> rfl) sortN_spec (by simp) (by simp [emC, mapV] <;> rfl)) Ghost.refl) ?_
      refine RegO.nil ?_
      refine DW.norm [(3, _)] [(21, _)] [] (by simp [hTt, hTl]; rfl) (by simp [hTt, hTl]; rfl) (by simp [hTt, hTl]) (by rfl) ?_
      refine DW.seq ?_
      first | (generalize srt Q = T_ at *) | skip
      refine DW.regs ?_
      refine RegO.opN 1 (by simp (maxSteps := 200000) (disch := first | omega | (simp; done) | fail) [wrapI, leT, leF, ltT, ltF, eqF, nleT, nleF, nltT, nltF, hTt, hTl]; rfl) ?_
      refine RegO.step rfl (OpStep.callG (io := 0) rfl (by simp; rfl) compactN_spec rfl rfl rfl (by simp [giveG]; rfl) (by simp; rfl) (by simp [rosOk, roA_, toRC, mapO]) (by simp [noRoL, noRo]) (by simp [finish, packDV, packD]; rfl)) ?_
      refine RegO.opN 1 (by simp (maxSteps := 200000) (disch := first | omega | (simp; done) | fail) [wrapI, leT, leF, ltT, ltF, eqF, nleT, nleF, nltT, nltF, hTt, hTl]; rfl) ?_
      refine RegO.nil ?_
      refine DW.ret ?_
      rw [← hQ]
      simp [Try.results43, hem0]
    · have hQs : 0 < (srt Q).length := by omega
      have hem : ∀ id p off, emC (.sl id p off Q.length) = .sl id p off Q.length := fun _ _ _ => emC_pos hQ0
      refine DW.regs ?_
      refine RegO.opN 1 (by simp (maxSteps := 200000) (disch := first | omega | (simp; done) | fail) [wrapI, leT, leF, ltT, ltF, eqF, nleT, nleF, nltT, nltF, hTt, hTl, hem]; rfl) ?_
      refine RegO.step rfl (OpStep.callL (io := 0) rfl (by simp [hem]; rfl) (sortI_spec Q hQ0 (by omega)) (by rfl) (by rfl) (by rfl) (by rfl) (by simp [lendL, FS.lend, hem]; exact ⟨rfl, rfl⟩) (by simp [apartP]) (by simp) (by simp [hem]; rfl) (by simp [rosOk]) (by simp) (by simp [backFS, hBack, pzsC, pzS, paCells, PC.tree, hem]; rfl)) ?_
      refine RegO.nil ?_
      refine DW.norm [(3, _)] [(21, _)] [] (by simp [hTt, hTl, hem]; rfl) (by simp [hTt, hTl, hem]; rfl) (by simp [hTt, hTl, hem]) (by rfl) ?_
      refine DW.seq ?_
      first | (generalize srt Q = T_ at *) | skip
      refine DW.regs ?_
      refine RegO.opN 1 (by simp (maxSteps := 200000) (disch := first | omega | (simp; done) | fail) [wrapI, leT, leF, ltT, ltF, eqF, nleT, nleF, nltT, nltF, hTt, hTl, hem]; rfl) ?_
      refine RegO.step rfl (OpStep.callG (io := 0) rfl (by simp; rfl) (hsl ▸ compactI_spec T_ hQs) rfl rfl rfl (by simp [giveG, hTt, hTl]; rfl) (by simp; rfl) (by simp [rosOk, roA_, toRC, mapO]) (by simp [noRoL, noRo]) (by simp [finish, packDV, packD]; rfl)) ?_
      refine RegO.opN 1 (by simp (maxSteps := 200000) (disch := first | omega | (simp; done) | fail) [wrapI, leT, leF, ltT, ltF, eqF, nleT, nleF, nltT, nltF, hTt, hTl, hem]; rfl) ?_
      refine RegO.nil ?_
      refine DW.ret ?_
      rw [← hQ]
      simp [Try.results43]
end Go.Proofs.Ytjjdjkkhhcbogaa.DM
