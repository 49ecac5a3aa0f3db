/-
  slices.Insert of one cell, by the model: there is room (in place); there is none (a new block).
-/
import Derived.Shelf.Spec.SlicesInsertGrow
import Derived.Test.YtjjdjkkhhcbogaaFM1
namespace Go.Proofs.Ytjjdjkkhhcbogaa.DM
open Go.Shelf Go.RowKit Go.Lib
set_option linter.unusedVariables false
set_option linter.unusedSimpArgs false
theorem infoE : (Try.prog.info? 115).map (fun i => (i.zero, i.size, i.bytes)) = some (some (.agg #[.int .i64 0, .string ⟨#[]⟩, .bool false]), 3, 32) := by kernel_rfl
/-- copy where an element has more than one cell. -/
theorem run_copy_cellsN {P : Program} (w : Go.World) (dT sT ty elem : TypeId) (size : Nat) (b o dLen dCap : Nat) (a : Addr) (sLen sCap : Nat) (cs : List Value)
    (hu : P.underlying dT = some (.slice elem)) (hs : (P.info? elem).map (·.size) = some size) (hn : cs.length = Nat.min sLen dLen * size) (n : Nat) (hn2 : n = Nat.min sLen dLen)
    (hsrc : ∀ j v, cs[j]? = some v → w.cell? (a.add j) = some v) (hc : ∀ j, j < cs.length → (w.cell? ⟨b, o + j, none⟩).isSome = true) (hf : ∀ j, j < cs.length → w.frozen? ⟨b, o + j, none⟩ = false) (h1 : ∀ v ∈ cs, v.oneCell' = true) :
    (Builtin.copy_ #[dT, sT] ty #[.slice (some ⟨b, o, none⟩) dLen dCap, .slice (some a) sLen sCap]).run P w = .ok (goInt n) (w.setCells b o cs) := by
  subst hn2
  have hl := run_loadCells_list (P := P) w a cs hsrc
  have hst := run_storeCells_cells (P := P) b o cs 0 w (by simpa using hc) (by simpa using hf) h1
  cases hq : P.info? elem with
  | none => simp [hq] at hs
  | some i =>
    have hi : i.size = size := by simpa [hq] using hs
    simp [Builtin.copy_, run_underlying hu, Builtin.lenOf, Builtin.firstCells, sizeOf, typeInfo, hq, hi, ← hn, hl, hst]
set_option maxHeartbeats 8000000 in
set_option maxRecDepth 100000 in
theorem ins_shift (g o n cap i vb vo vc : Nat) (cs vs : List Value) (w : Go.World) (hcl : cs.length = n * 3) (hvl : vs.length = 3) (hcell : ∀ j v, cs[j]? = some v → w.cell? ⟨g, o + j, none⟩ = some v) (hsome : ∀ j, j < (n + 1) * 3 → (w.cell? ⟨g, o + j, none⟩).isSome = true) (hfz : ∀ j, j < (n + 1) * 3 → w.frozen? ⟨g, o + j, none⟩ = false)
    (hvs : ∀ j v, vs[j]? = some v → w.cell? ⟨vb, vo + j, none⟩ = some v) (h1c : ∀ v ∈ cs, v.oneCell' = true) (h1v : ∀ v ∈ vs, v.oneCell' = true) (hm : cap ≤ maxLen) (hl : n ≤ 2199023255552) (hi : i < n) (hroom : n + 1 ≤ cap) (hvg : vb ≠ g) (hvc : 1 ≤ vc)
    (tA tB : TypeId) (kA kB : Nat) (hsa : w.shape? vb = some (tA, kA)) (hsb : w.shape? g = some (tB, kB)) (hkB : kB ≠ 0) (hfa : w.frozen? ⟨vb, vo, none⟩ = false) (hfe : w.frozen? ⟨vb, kA, none⟩ = false) :
    Calls Try.prog 131 #[.slice (some ⟨g, o, none⟩) n cap, .int .i64 (i : Int), .slice (some ⟨vb, vo, none⟩) 1 vc] w fun e w' => e = .returned (.slice (some ⟨g, o, none⟩) (n + 1) cap) ∧ w' = (w.drew.setCells g (o + (i + 1) * 3) (cs.drop (i * 3))).setCells g (o + i * 3) vs := by
  have hu29 := Try.underlying29
  have hc63 : (cap : Int) ≤ 9223372036854775807 := by unfold maxLen at hm; omega
  have hp1 : ((n : Int) ≤ (cap : Int)) = True := eq_true (by omega)
  have hz2 : ¬ ((i : Int) = (n : Int)) := by omega
  have hz2b : decide ((i : Int) = (n : Int)) = false := decide_eq_false hz2
  have hw0 : IntKind.i64.wrap ((n : Int) + 1) = ((n + 1 : Nat) : Int) := (wr _ (by omega) (by omega)).trans (by omega)
  have hw1 : IntKind.i64.wrap ((i : Int) + 1) = ((i + 1 : Nat) : Int) := (wr _ (by omega) (by omega)).trans (by omega)
  have hzE : ∀ w : Go.World, (Go.sizeOf 115).run Try.prog w = .ok 3 w := fun w => by
    obtain ⟨i0, hi0, h0, h1, h2⟩ := info_parts infoE
    simp [Go.sizeOf, typeInfo, hi0, h1]
  have hz3 : (Try.prog.info? 115).map (·.size) = some 3 := by
    obtain ⟨i0, hi0, h0, h1, h2⟩ := info_parts infoE
    rw [hi0]; simp [h1]
  have hdl : (cs.drop (i * 3)).length = (n - i) * 3 := by rw [List.length_drop, hcl]; omega
  have hcp1 : ∀ ty dc sc, (Builtin.copy_ #[29, 29] ty #[.slice (some ⟨g, o + (i + 1) * 3, none⟩) (n - i) dc, .slice (some ⟨g, o + i * 3, none⟩) (n + 1 - i) sc]).run Try.prog w.drew = .ok (goInt ((n - i : Nat) : Int)) (w.drew.setCells g (o + (i + 1) * 3) (cs.drop (i * 3))) := fun ty dc sc =>
    run_copy_cellsN w.drew 29 29 ty 115 3 g (o + (i + 1) * 3) (n - i) dc ⟨g, o + i * 3, none⟩ (n + 1 - i) sc (cs.drop (i * 3)) Try.underlying29 hz3 (by rw [hdl]; simp only [Nat.min_def]; split <;> omega) (n - i) (by simp only [Nat.min_def]; split <;> omega)
      (fun j v hj => by rw [Addr.add_lit, Nat.add_assoc]; exact hcell (i * 3 + j) v (by rwa [List.getElem?_drop] at hj))
      (fun j hj => by rw [Nat.add_assoc]; exact hsome _ (by omega)) (fun j hj => by rw [Nat.add_assoc]; exact hfz _ (by omega)) (fun v hv => h1c v (List.mem_of_mem_drop hv))
  obtain ⟨W1, hW1⟩ : ∃ W1, W1 = w.drew.setCells g (o + (i + 1) * 3) (cs.drop (i * 3)) := ⟨_, rfl⟩
  have hsp1 : ∀ k, k < (n + 1) * 3 → (W1.cell? ⟨g, o + k, none⟩).isSome = true := fun k hk => by
    rw [hW1]
    exact isSome_setCells g (cs.drop (i * 3)) (o + (i + 1) * 3) w.drew (fun j hj => by rw [Nat.add_assoc]; exact hsome _ (by omega)) (o + k) (hsome k hk)
  have hcp2 : ∀ (W : Go.World), (∀ x, W.cell? x = W1.cell? x) → (∀ x, W.frozen? x = W1.frozen? x) → ∀ ty dc, (Builtin.copy_ #[29, 29] ty #[.slice (some ⟨g, o + i * 3, none⟩) (n + 1 - i) dc, .slice (some ⟨vb, vo, none⟩) 1 vc]).run Try.prog W = .ok (goInt 1) (W.setCells g (o + i * 3) vs) := fun W hWc hWf ty dc =>
    run_copy_cellsN W 29 29 ty 115 3 g (o + i * 3) (n + 1 - i) dc ⟨vb, vo, none⟩ 1 vc vs Try.underlying29 hz3 (by rw [hvl]; simp only [Nat.min_def]; split <;> omega) 1 (by simp only [Nat.min_def]; split <;> omega)
      (fun j v hj => by
        rw [Addr.add_lit, hWc, hW1, Go.World.cell?_setCells_out g _ _ _ _ (fun h _ => absurd h hvg)]
        exact hvs j v hj)
      (fun j hj => by rw [hWc, Nat.add_assoc]; exact hsp1 _ (by omega)) (fun j hj => by rw [hWf, hW1, Go.World.frozen?_setCells, Nat.add_assoc]; exact hfz _ (by omega)) h1v
  rw [← hW1] at hcp1 ⊢
  have hov : ∀ lb cb, (callFunc 153 #[.slice (some ⟨vb, vo, none⟩) 1 vc, .slice (some ⟨g, o + (i + 1) * 3, none⟩) lb cb]).run Try.prog w = .ok (.value (.bool false)) w := fun lb cb => by
    rw [run_callFunc_extern Try.func153 (by kernel_rfl) (by kernel_rfl) (by kernel_rfl) (e := Extern.SlicesOverlaps.overlaps #[29, 29] #[4]) (by kernel_rfl)]
    rw [Lib.run_overlaps_apart w 29 4 115 Try.underlying29 3 hzE ⟨vb, vo, none⟩ ⟨g, o + (i + 1) * 3, none⟩ 1 vc lb cb hvg tA tB kA kB hsa hsb hkB hfa hfe]
    rfl
  have hq1 : (cap = i + 1) = False := eq_false (by omega)
  have hq2 : (cap = i) = False := eq_false (by omega)
  have hq3 : ((i : Int) + 1 ≤ (n : Int) + 1) = True := eq_true (by omega)
  have hq4 : (i ≤ n) = True := eq_true (by omega)
  have hq5 : ((i : Int) ≤ (n : Int)) = True := eq_true (by omega)
  have hq6 : ((0 : Int) ≤ (i : Int) + 1) = True := eq_true (by omega)
  have hq7 : ((i : Int) ≤ (n : Int) + 1) = True := eq_true (by omega)
  have hq8 : (i ≤ n + 1) = True := eq_true (by omega)
  clear hsp1 hsome hcell hvs hfz hcl hdl hm hsa hsb hfa hfe
  go_enter Try.func131, Try.ntmps131
  go_wp2_with (simp only [hov])
  go_region_law (refine step_copy_runI rfl _ _ 29 29 rfl _ _ (by simp [Act.eval, Act.put]) (by simp [Act.eval, Act.put]) (hcp1 3 (cap - (i + 1)) (cap - i)) ?_)
  all_goals (
    go_wp2_with (at_builtin; refine wpList_copy_runI _ rfl _ _ 29 29 rfl _ _ rfl rfl (hcp2 _ (fun _ => by rw [hW1]) (fun _ => by rw [hW1]) _ _) ?_)
    go_ret
    first | exact ⟨rfl, rfl⟩ | exact ⟨rfl, by rw [hW1]⟩)
set_option maxHeartbeats 8000000 in
set_option maxRecDepth 100000 in
theorem ins_grow (g o n cap i vb vo vc : Nat) (cs vs : List Value) (w : Go.World) (hcl : cs.length = n * 3) (hvl : vs.length = 3) (hbw : g < w.heap.size) (hvw : vb < w.heap.size) (hcell : ∀ j v, cs[j]? = some v → w.cell? ⟨g, o + j, none⟩ = some v) (hvs : ∀ j v, vs[j]? = some v → w.cell? ⟨vb, vo + j, none⟩ = some v)
    (h1c : ∀ v ∈ cs, v.oneCell' = true) (h1v : ∀ v ∈ vs, v.oneCell' = true) (hm : cap ≤ maxLen) (hl : n ≤ 2199023255552) (hi : i < n) (hnc : n ≤ cap) (hroom : cap < n + 1) (hvc : 1 ≤ vc) :
    Calls Try.prog 131 #[.slice (some ⟨g, o, none⟩) n cap, .int .i64 (i : Int), .slice (some ⟨vb, vo, none⟩) 1 vc] w fun e w' => ∃ (G : Nat) (ROW : Array Value), e = .returned (.slice (some ⟨w.heap.size, 0, none⟩) (n + 1) G) ∧ n + 1 ≤ G ∧ G ≤ maxLen ∧ ROW.size = G * 3 ∧ ROW.toList.take (i * 3) = cs.take (i * 3) ∧
      w' = (((w.alloc (.cells ROW 115)).drew.setCells w.heap.size (i * 3) vs).drew).setCells w.heap.size ((i + 1) * 3) (cs.drop (i * 3)) := by
  have hu29 := Try.underlying29
  have hu3 := Try.underlying3
  have hc63 : (cap : Int) ≤ 9223372036854775807 := by unfold maxLen at hm; omega
  have hp1 : ((n : Int) ≤ (cap : Int)) = True := eq_true (by omega)
  have hz2 : ¬ ((i : Int) = (n : Int)) := by omega
  have hz2b : decide ((i : Int) = (n : Int)) = false := decide_eq_false hz2
  have hw0 : IntKind.i64.wrap ((n : Int) + 1) = ((n + 1 : Nat) : Int) := (wr _ (by omega) (by omega)).trans (by omega)
  have hw1 : IntKind.i64.wrap ((i : Int) + 1) = ((i + 1 : Nat) : Int) := (wr _ (by omega) (by omega)).trans (by omega)
  obtain ⟨i0, hi0, hz0, hzs, hzb⟩ := info_parts infoE
  have hz3 : (Try.prog.info? 115).map (·.size) = some 3 := by
    rw [hi0]; simp [hzs]
  have hdl : (cs.drop (i * 3)).length = (n - i) * 3 := by rw [List.length_drop, hcl]; omega
  have hkk : (n : Int) + 1 - (i : Int) = ((n + 1 - i : Nat) : Int) := by omega
  have hik : i + (n + 1 - i) = n + 1 := by omega
  have hold : (Builtin.firstCells i0.size i (.slice (some ⟨g, o, none⟩) i cap)).run Try.prog w.drew = .ok (cs.take (i * 3)).toArray w.drew := by
    rw [hzs]
    exact run_firstCells_some w.drew 3 i ⟨g, o, none⟩ i cap (cs.take (i * 3)) (by rw [List.length_take, hcl]; omega) (fun j v hj => by
      rw [Addr.add_lit]
      rw [List.getElem?_take] at hj
      split at hj
      · exact hcell j v hj
      · cases hj)
  have hrz : ∀ ty, (Builtin.append_ #[29, 3] ty #[.slice (some ⟨g, o, none⟩) i cap, .int .i64 ((n : Int) + 1 - (i : Int))]).run Try.prog w =
      .ok (.slice (some ⟨w.heap.size, 0, none⟩) (n + 1) (grownCap w (n + 1) cap 115)) (w.drew.alloc (.cells ((cs.take (i * 3)).toArray ++ Builtin.zeroCells (Value.agg #[.int .i64 0, .string ⟨#[]⟩, .bool false]).cells (n + 1 - i) ++ Builtin.zeroCells (Value.agg #[.int .i64 0, .string ⟨#[]⟩, .bool false]).cells (grownCap w (n + 1) cap 115 - (n + 1))) 115)) := fun ty => by
    have h := Lib.run_append_grow_zeros w 29 3 ty 115 i0 _ .i64 .i64 Try.underlying29 Try.underlying3 hi0 hz0 (some ⟨g, o, none⟩) i cap (cs.take (i * 3)) hold (n + 1 - i) (by omega) (by omega) (by omega) (by omega) (by rw [hzb]; omega) (by rw [hzb, hik]; exact growslice_fits hroom (by omega))
    rw [hik] at h
    rw [hkk]
    exact h
  obtain ⟨G, hG⟩ : ∃ G, G = grownCap w (n + 1) cap 115 := ⟨_, rfl⟩
  obtain ⟨ROW, hROW⟩ : ∃ ROW : Array Value, ROW = (cs.take (i * 3)).toArray ++ Builtin.zeroCells (Value.agg #[.int .i64 0, .string ⟨#[]⟩, .bool false]).cells (n + 1 - i) ++ Builtin.zeroCells (Value.agg #[.int .i64 0, .string ⟨#[]⟩, .bool false]).cells (G - (n + 1)) := ⟨_, rfl⟩
  rw [← hG] at hrz
  rw [← hROW] at hrz
  have hGn : n + 1 ≤ G := by rw [hG]; exact grownCap_ge w _ _ _
  have hGm : G ≤ maxLen := by
    have := grownCap_le_maxLen w (n + 1) cap 115 (by unfold maxLen; omega)
    rw [← hG] at this
    exact this
  have hRl : ROW.size = G * 3 := by
    rw [hROW]
    simp [Builtin.zeroCells, Value.cells, hcl]
    omega
  have hRt : ROW.toList.take (i * 3) = cs.take (i * 3) := by
    rw [hROW]
    simp only [Array.toList_append, List.append_assoc]
    rw [List.take_left' (by rw [List.length_take, hcl]; omega)]
  have hG63 : (G : Int) ≤ 9223372036854775807 := by unfold maxLen at hGm; omega
  obtain ⟨W1, hW1⟩ : ∃ W1, W1 = w.drew.alloc (.cells ROW 115) := ⟨_, rfl⟩
  rw [← hW1] at hrz
  have hN : ∀ j, j < (n + 1) * 3 → (W1.cell? ⟨w.heap.size, j, none⟩).isSome = true := fun j hj => by
    rw [hW1, Go.World.cell?_alloc_at (w := w.drew) ROW _ w.heap.size j rfl, Array.getElem?_eq_getElem (by omega)]; rfl
  have hNf : ∀ j, W1.frozen? ⟨w.heap.size, j, none⟩ = false := fun j => by rw [hW1]; exact Go.World.frozen?_alloc_at (w := w.drew) ROW _ w.heap.size j rfl
  have hOb : ∀ j v, w.cell? ⟨g, j, none⟩ = some v → W1.cell? ⟨g, j, none⟩ = some v := fun j v h => by rw [hW1, Go.World.cell?_alloc_past (w := w.drew) _ g j hbw]; exact h
  have hOv : ∀ j v, w.cell? ⟨vb, j, none⟩ = some v → W1.cell? ⟨vb, j, none⟩ = some v := fun j v h => by rw [hW1, Go.World.cell?_alloc_past (w := w.drew) _ vb j hvw]; exact h
  have hcpA : ∀ (W : Go.World), (∀ x, W.cell? x = W1.cell? x) → (∀ x, W.frozen? x = W1.frozen? x) → ∀ ty dc, (Builtin.copy_ #[29, 29] ty #[.slice (some ⟨w.heap.size, i * 3, none⟩) (n + 1 - i) dc, .slice (some ⟨vb, vo, none⟩) 1 vc]).run Try.prog W = .ok (goInt 1) (W.setCells w.heap.size (i * 3) vs) := fun W hWc hWf ty dc =>
    run_copy_cellsN W 29 29 ty 115 3 w.heap.size (i * 3) (n + 1 - i) dc ⟨vb, vo, none⟩ 1 vc vs Try.underlying29 hz3 (by rw [hvl]; simp only [Nat.min_def]; split <;> omega) 1 (by simp only [Nat.min_def]; split <;> omega)
      (fun j v hj => by rw [Addr.add_lit, hWc]; exact hOv _ v (hvs j v hj))
      (fun j hj => by rw [hWc]; exact hN _ (by omega)) (fun j hj => by rw [hWf]; exact hNf _) h1v
  have hbN : g ≠ w.heap.size := by omega
  have hcpB : ∀ (W : Go.World), (∀ x_, W.cell? x_ = (W1.setCells w.heap.size (i * 3) vs).cell? x_) → (∀ x_, W.frozen? x_ = (W1.setCells w.heap.size (i * 3) vs).frozen? x_) → ∀ ty dc sc, (Builtin.copy_ #[29, 29] ty #[.slice (some ⟨w.heap.size, (i + 1) * 3, none⟩) (n - i) dc, .slice (some ⟨g, o + i * 3, none⟩) (n - i) sc]).run Try.prog W = .ok (goInt ((n - i : Nat) : Int)) (W.setCells w.heap.size ((i + 1) * 3) (cs.drop (i * 3))) := fun W hWc hWf ty dc sc =>
    run_copy_cellsN W 29 29 ty 115 3 w.heap.size ((i + 1) * 3) (n - i) dc ⟨g, o + i * 3, none⟩ (n - i) sc (cs.drop (i * 3)) Try.underlying29 hz3 (by rw [hdl]; simp only [Nat.min_def]; split <;> omega) (n - i) (by simp only [Nat.min_def]; split <;> omega)
      (fun j v hj => by
        rw [Addr.add_lit, hWc, Go.World.cell?_setCells_out _ _ _ _ _ (fun h _ => absurd h hbN), Nat.add_assoc]
        exact hOb _ v (hcell (i * 3 + j) v (by rwa [List.getElem?_drop] at hj)))
      (fun j hj => by rw [hWc]; exact isSome_setCells w.heap.size vs (i * 3) W1 (fun t ht => hN _ (by omega)) _ (hN _ (by omega)))
      (fun j hj => by rw [hWf, Go.World.frozen?_setCells]; exact hNf _) (fun v hv => h1c v (List.mem_of_mem_drop hv))
  subst hW1
  have hE1 : ∀ x, ((w.alloc (.cells ROW 115)).drew).cell? x = (w.drew.alloc (.cells ROW 115)).cell? x := fun x => rfl
  have hE2 : ∀ x, ((w.alloc (.cells ROW 115)).drew).frozen? x = (w.drew.alloc (.cells ROW 115)).frozen? x := fun x => rfl
  have hF1 : ∀ y, (((w.alloc (.cells ROW 115)).drew.setCells w.heap.size (i * 3) vs).drew).cell? y = ((w.drew.alloc (.cells ROW 115)).setCells w.heap.size (i * 3) vs).cell? y := fun x => rfl
  have hF2 : ∀ y, (((w.alloc (.cells ROW 115)).drew.setCells w.heap.size (i * 3) vs).drew).frozen? y = ((w.drew.alloc (.cells ROW 115)).setCells w.heap.size (i * 3) vs).frozen? y := fun x => rfl
  have hq2 : (cap = i) = False := eq_false (by omega)
  have hq3 : (G = i) = False := eq_false (by omega)
  have hq4 : (G = i + 1) = False := eq_false (by omega)
  have hq5 : (i ≤ n) = True := eq_true (by omega)
  have hq6 : ((i : Int) ≤ (n : Int)) = True := eq_true (by omega)
  have hq7 : ((0 : Int) ≤ (i : Int) + 1) = True := eq_true (by omega)
  have hq8 : (i ≤ n + 1) = True := eq_true (by omega)
  have hq9 : ((i : Int) ≤ (n : Int) + 1) = True := eq_true (by omega)
  have hz4 : ((cap : Int) < (n : Int) + 1) = True := eq_true (by omega)
  clear hkk hik hold hROW hG hN hNf hOb hOv hcell hvs hdl hcl hm
  go_enter Try.func131, Try.ntmps131
  go_wp2_with (first
    | (at_builtin; refine Lib.wpList_append_run _ rfl _ _ _ _ rfl _ _ rfl rfl _ _ (hrz _) ?_)
    | (at_builtin; refine wpList_copy_runI _ rfl _ _ 29 29 rfl _ _ rfl rfl (hcpA _ hE1 hE2 _ _) ?_))
  go_region_law (refine step_copy_runI rfl _ _ 29 29 rfl (.slice (some ⟨w.heap.size, (i + 1) * 3, none⟩) (n - i) (G - (i + 1))) (.slice (some ⟨g, o + i * 3, none⟩) (n - i) (cap - i)) (by simp [Act.eval, Act.put]) (by simp [Act.eval, Act.put]) (hcpB _ hF1 hF2 3 (G - (i + 1)) (cap - i)) ?_)
  all_goals (
    go_wp2
    go_ret
    exact ⟨G, ROW, rfl, hGn, hGm, hRl, hRt, rfl⟩)
end Go.Proofs.Ytjjdjkkhhcbogaa.DM
