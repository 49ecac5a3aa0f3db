/-
  DM 11. The operations that lay rows or change them.
-/
import Derived.Test.YtjjdjkkhhcbogaaD10
namespace Go.Proofs.Ytjjdjkkhhcbogaa.DM
set_option linter.unusedVariables false
set_option linter.unusedSimpArgs false
def roD : RT → D
  | .sc v => .sc v
  | r => .ro () r
def flatD : D → Bool
  | .sc _ => true
  | .ro _ _ => true
  | _ => false
/-- What is appended: the cells, and the state when they have been taken; what is no more referred to. -/
def srcCells (s : FS) (v : DV) (sz : Nat) : Option (Nat × List D × FS × (DC → DC)) := match v with
  | .v (.one (.t (.sc (.string b)))) => if sz = 1 then some (b.size, b.data.toList.map (fun c => .sc (.int .u8 c.toNat)), s, fun c => c) else none
  | .v (.one (.t (.sl m rcs))) => if rcs.length = m * sz then some (m, rcs.map roD, s, fun c => c) else none
  | .v (.one .nl) => some (0, [], s, fun c => c)
  | .v (.one (.sl id p off m)) => match s.h id with
    | some root => match root.get p with
      | some (.ow _ sz' _ cs) => if (sz' = sz ∨ m = 0) ∧ off + m * sz ≤ cs.length then
          (if ((cs.drop off).take (m * sz)).all flatD then some (m, (cs.drop off).take (m * sz), s, fun c => c)
           else match absorb s (.sl id p off m) with
            | some (.ow _ _ _ xs, s1) => some (m, xs, s1, pzOf (.sl id p off m))
            | _ => none)
          else none
      | _ => none
    | none => none
  | _ => none
def isRow : TypeDesc → Bool
  | .slice _ => true
  | .string => true
  | _ => false
variable (P : Program)
def appendF (nt : Nat) (s : FS) (dst : Option Nat) (b x : Operand) (tb tx : TypeId) : Option FS :=
  match dst, elemT P tb, P.underlying tx with
  | some d, some (e, sz), some du => match zeroT P e, isRow du with
    | some z, true => match srcCells s (ev s.e x) sz, ev s.e b with
      | some (m, new, s1, f), .v (.one c) => match absorb s1 (f c) with
        | some (.ow _ sz' n cs, s2) => if d < nt ∧ z.length = sz ∧ 0 < sz ∧ (sz' = sz ∨ (n = 0 ∧ sz' = 0)) ∧ (n + m) * P.bytesOf e ≤ 140737488355328 ∧ n + m ≤ 140737488355328 then s2.row d (.v (.one (.sl d [] 0 (n + m)))) sz (n + m) (cs ++ new) else none
        | _ => none
      | _, _ => none
    | _, _ => none
  | _, _, _ => none
def quietF (nt : Nat) (dst : Option Nat) (op : Op) (s : FS) : Option FS := match quietV P s op with
  | some v => if dstOk nt dst then some (s.set dst v) else none
  | none => none
def stepF (nt : Nat) (o : Oper) (s : FS) : Option FS := match o.op with
  | .alloc t => match o.dst, zeroT P t with
    | some d, some z => match mapO zcD z with
      | some xs => if d < nt ∧ 0 < xs.length then s.row d (.v (.one (.pt d [] 0))) xs.length 1 xs else none
      | none => none
    | _, _ => none
  | .box t x => match o.dst, dcs (ev s.e x) with
    | some d, some cs => match absorbL s cs with
      | some (xs, s1) => if d < nt ∧ 0 < xs.length then s1.row d (.v (.one (.pt d [] 0))) xs.length 1 xs else none
      | none => none
    | _, _ => none
  | .buildSlice t len parts => match elemT P t, partsC s.e parts.toList with
    | some (e, sz), some ps => match zeroT P e with
      | some z => match mapO zcC z, o.dst with
        | some zs, some d => if zs.length = sz ∧ 0 < sz ∧ len * sz ≤ 2 ^ 24 ∧ d < nt then
            (match len with
             | 0 => if ps.length = 0 then some ⟨upd s.e d (.v (.one .nl)), s.h, s.g⟩ else none
             | _ => match fillC (fun i => some (i * sz, sz)) ((List.replicate len zs).flatten) ps with
              | some cs => match absorbL s cs with
                | some (xs, s1) => s1.row d (.v (.one (.sl d [] 0 len))) sz len xs
                | none => none
              | none => none)
            else none
        | _, _ => none
      | none => none
    | _, _ => none
  | .makeSlice t l c => match elemT P t, asInt (ev s.e l), asInt (ev s.e c) with
    | some (e, sz), some n, some n' => match zeroT P e, o.dst with
      | some z, some d => match mapO zcD z with
        | some zs => if zs.length = sz ∧ 0 < sz ∧ n = n' ∧ 0 ≤ n ∧ P.bytesOf e * n ≤ 2 ^ 48 ∧ n ≤ 2 ^ 48 ∧ d < nt then s.row d (.v (.one (.sl d [] 0 n.toNat))) sz n.toNat ((List.replicate n.toNat zs).flatten) else none
        | none => none
      | _, _ => none
    | _, _, _ => none
  | .store t x y => match o.dst, ev s.e x, dcs (ev s.e y) with
    | none, .v (.one (.pt id p off)), some cs => if szT P t = some cs.length then storeL s id p off cs else none
    | _, _, _ => none
  | .call { callee := .builtin .append, args, argTypes } => match args.toList, argTypes.toList with
    | [b, x], [tb, tx] => appendF P nt s o.dst b x tb tx
    | _, _ => none
  | op => quietF P nt o.dst op s
section
variable {S0 : Fr} {w0 w w' : World} {M M' : Heap} {X : List A} {P : Program} {nt : Nat} {s : FS} {a : Act}
theorem zcD_ok {v : Value} {x : D} (h : zcD v = some x) : ∃ y : A, er y = x ∧ y.val = v ∧ (∀ w, Ok S0 w0 w y) ∧ y.blocks = [] ∧ y.isHold = false := by
  unfold zcD at h
  split at h
  · rename_i hp
    obtain rfl := Option.some.inj h
    exact ⟨.sc v, rfl, rfl, fun w => .sc v hp, rfl, rfl⟩
  · split at h
    · obtain rfl := Option.some.inj h
      exact ⟨.ow (.emp none) 0 0 [], rfl, rfl, fun w => .em none 0, by simp [T.blocks, T.blocksL], rfl⟩
    · cases h
theorem zcDs_ok : ∀ {z : List Value} {xs : List D}, mapO zcD z = some xs → ∃ ys : List A, ys.map er = xs ∧ ys.map T.val = z ∧ ∀ y ∈ ys, (∀ w, Ok S0 w0 w y) ∧ y.blocks = [] ∧ y.isHold = false
  | [], xs, h => by simp only [mapO, Option.some.injEq] at h; subst h; exact ⟨[], rfl, rfl, by simp⟩
  | v :: z, xs, h => by
    simp only [mapO] at h
    split at h
    · rename_i x xs' h1 h2
      obtain rfl := Option.some.inj h
      obtain ⟨y, e1, e2, e3, e4, e5⟩ := zcD_ok (S0 := S0) (w0 := w0) h1
      obtain ⟨ys, f1, f2, f3⟩ := zcDs_ok h2
      refine ⟨y :: ys, by simp [e1, f1], by simp [e2, f2], fun z hz => ?_⟩
      rcases List.mem_cons.1 hz with rfl | hz
      · exact ⟨e3, e4, e5⟩
      · exact f3 z hz
    · cases h
theorem Inv.hands : ∀ {Y : List A} {X : List A}, Inv S0 w0 M X w → (∀ y ∈ Y, Ok S0 w0 w y ∧ y.blocks = [] ∧ y.isHold = false) → Inv S0 w0 M (X ++ Y) w
  | [], X, h, _ => by simpa using h
  | y :: Y, X, h, hy => by
    obtain ⟨h1, h2, h3⟩ := hy y List.mem_cons_self
    have := Inv.hands (Y := Y) (h.hand h1 h3 h2) (fun z hz => hy z (List.mem_cons_of_mem _ hz))
    simpa using this
theorem get_self {α β : Type} (t : T α β) : t.get [] = some t := rfl
theorem push_alloc (w : World) (cur : Array Value) (ty : TypeId) : (w.alloc (.cells cur ty)).heap = w.heap.push (.cells cur ty (0, 0)) := rfl
theorem nofz {cur : Array Value} : ∀ i, i < cur.size → ¬ ((0, 0) : Nat × Nat).1 ≤ i ∨ ¬ i < ((0, 0) : Nat × Nat).2 := fun i _ => .inr (by simp)
theorem nofz' {k : Nat} : ∀ i, i < k → ¬ (((0, 0) : Nat × Nat).1 ≤ i ∧ i < ((0, 0) : Nat × Nat).2) := fun i _ h => absurd h.2 (by simp)
theorem alloc_ok {o : Oper} {t : TypeId} {s1 : FS} (ho : o.op = .alloc t) (hR : Rel S0 w0 nt s M a w) (h : stepF P nt o s = some s1) :
    ∃ u w1 M1, (execOp a.eval o).run P w = .ok (.value u) w1 ∧ Rel S0 w0 nt s1 M1 (a.put o.dst u) w1 := by
  simp only [stepF, ho] at h
  split at h
  · rename_i d z hd hz
    split at h
    · rename_i xs hxs
      split at h
      · rename_i hdn
        obtain ⟨hdn, hx0⟩ := hdn
        obtain ⟨zv, hz1, hz2⟩ := zeroT_ok hz
        obtain ⟨ys, e1, e2, e3⟩ := zcDs_ok (S0 := S0) (w0 := w0) hxs
        have hlen : ys.length = xs.length := by rw [← e1, List.length_map]
        have hcur : ∀ (i : Nat) (x : A), ys[i]? = some x → zv.cells[i]? = some x.val := fun i x hi => by
          rw [← Array.getElem?_toList, hz2, ← e2, List.getElem?_map, hi]; rfl
        have hsz : zv.cells.size = xs.length := by rw [← Array.length_toList, hz2, ← e2, List.length_map, hlen]
        rw [hd]
        refine ⟨.pointer (some ⟨w.heap.size, 0, none⟩), w.alloc (.cells zv.cells t), upd M d (some (.ow (.blk w.heap.size 0 1) xs.length 1 ys)), ?_, ?_⟩
        · simp [execOp, ho, Instr.alloc, hz1, newVar, newRow]
        · refine entry_ok hR hdn h ?_ (fun hM => ?_) ⟨.pt d [] 0 w.heap.size 0 1 xs.length 1 ys ⟨_, upd_same _ _ _, get_self _⟩, rfl⟩
          · rw [er_ow_mk, e1]
          · have hI := hR.inv.hands (Y := ys) (fun y hy => ⟨(e3 y hy).1 w, (e3 y hy).2⟩)
            rw [List.nil_append] at hI
            exact hI.new hM (push_alloc w _ t) nofz' (by rw [hsz]; omega) hx0 (Nat.le_refl _) (by simp [maxLen]) (by omega) hcur
      · cases h
    · cases h
  · cases h
theorem box_ok {o : Oper} {t : TypeId} {x : Operand} {s1 : FS} (ho : o.op = .box t x) (hR : Rel S0 w0 nt s M a w) (h : stepF P nt o s = some s1) :
    ∃ u w1 M1, (execOp a.eval o).run P w = .ok (.value u) w1 ∧ Rel S0 w0 nt s1 M1 (a.put o.dst u) w1 := by
  simp only [stepF, ho] at h
  split at h
  · rename_i d cs hd hcs
    split at h
    · rename_i xs s2 hxs
      split at h
      · rename_i hdn
        obtain ⟨hdn, hx0⟩ := hdn
        have hL := dcs_rel hcs (ev_ok hR x)
        obtain ⟨M1, ys, hR1, e1, e2, e3⟩ := absorbL_ok hR hL hxs
        rw [List.nil_append] at hR1
        have hlen : ys.length = xs.length := by rw [← e1, List.length_map]
        have hcur : ∀ (i : Nat) (y : A), ys[i]? = some y → (a.eval x).cells[i]? = some y.val := fun i y hi => by
          rw [← Array.getElem?_toList, ← e2, List.getElem?_map, hi]; rfl
        have hsz : (a.eval x).cells.size = xs.length := by rw [← Array.length_toList, ← e2, List.length_map, hlen]
        rw [hd]
        refine ⟨.pointer (some ⟨w.heap.size, 0, none⟩), w.alloc (.cells (a.eval x).cells t), upd M1 d (some (.ow (.blk w.heap.size 0 1) xs.length 1 ys)), ?_, ?_⟩
        · simp [execOp, ho, Instr.box, newVar, newRow]
        · refine entry_ok hR1 hdn h ?_ (fun hM => ?_) ⟨.pt d [] 0 w.heap.size 0 1 xs.length 1 ys ⟨_, upd_same _ _ _, get_self _⟩, rfl⟩
          · rw [er_ow_mk, e1]
          · exact hR1.inv.new hM (push_alloc w _ t) nofz' (by rw [hsz]; omega) hx0 (Nat.le_refl _) (by simp [maxLen]) (by omega) hcur
      · cases h
    · cases h
  · cases h
theorem rep_get {α : Type} {z : List α} : ∀ (n i : Nat), i < n * z.length → (List.replicate n z).flatten[i]? = z[i % z.length]?
  | 0, i, h => by simp at h
  | n + 1, i, h => by
    rw [List.replicate_succ, List.flatten_cons]
    by_cases hi : i < z.length
    · rw [List.getElem?_append_left hi, Nat.mod_eq_of_lt hi]
    · rw [List.getElem?_append_right (by omega), rep_get n (i - z.length) (by rw [Nat.succ_mul] at h; omega)]
      congr 1
      rw [← Nat.mod_eq_sub_mod (by omega)]
theorem rep_len {α : Type} {z : List α} (n : Nat) : (List.replicate n z).flatten.length = n * z.length := by simp
theorem range_map {z : Array Value} {n : Nat} (hz : 0 < z.size) : ((Array.range (n * z.size)).map (z[· % z.size]!)).toList = (List.replicate n z.toList).flatten := by
  apply List.ext_getElem?
  intro i
  by_cases hi : i < n * z.size
  · rw [rep_get n i (by simpa using hi)]
    have hm : i % z.size < z.size := Nat.mod_lt _ hz
    simp [hi, hm]
  · rw [List.getElem?_eq_none (by simp; omega), List.getElem?_eq_none (by simp; omega)]
theorem mapO_append {α β : Type} {f : α → Option β} : ∀ {l l' : List α} {r r' : List β}, mapO f l = some r → mapO f l' = some r' → mapO f (l ++ l') = some (r ++ r')
  | [], l', r, r', h, h' => by simp only [mapO, Option.some.injEq] at h; subst h; simpa using h'
  | x :: l, l', r, r', h, h' => by
    simp only [mapO] at h
    split at h
    · rename_i y ys h1 h2
      obtain rfl := Option.some.inj h
      simp only [List.cons_append, mapO, h1, mapO_append h2 h']
    · cases h
theorem mapO_rep {α β : Type} {f : α → Option β} {l : List α} {r : List β} (h : mapO f l = some r) : ∀ n, mapO f (List.replicate n l).flatten = some (List.replicate n r).flatten
  | 0 => rfl
  | n + 1 => by rw [List.replicate_succ, List.flatten_cons, List.replicate_succ, List.flatten_cons]; exact mapO_append h (mapO_rep h n)
theorem zeroT_info {t : TypeId} {z : List Value} {n : Nat} (h : zeroT P t = some z) (hs : szT P t = some n) : ∃ i zv, P.info? t = some i ∧ i.zero = some zv ∧ i.size = n ∧ zv.cells.toList = z ∧ i.bytes = P.bytesOf t := by
  unfold szT at hs
  obtain ⟨i, hi, hn⟩ := Option.map_eq_some_iff.1 hs
  unfold zeroT at h
  rw [hi] at h
  obtain ⟨zv, hz, h1⟩ := Option.map_eq_some_iff.1 h
  exact ⟨i, zv, hi, by simpa using hz, hn, h1, by simp [Program.bytesOf, hi]⟩
theorem makeSlice_ok {o : Oper} {t : TypeId} {l c : Operand} {s1 : FS} (ho : o.op = .makeSlice t l c) (hR : Rel S0 w0 nt s M a w) (h : stepF P nt o s = some s1) :
    ∃ u w1 M1, (execOp a.eval o).run P w = .ok (.value u) w1 ∧ Rel S0 w0 nt s1 M1 (a.put o.dst u) w1 := by
  simp only [stepF, ho] at h
  split at h
  · rename_i e sz n n' he hl hc
    split at h
    · rename_i z d hz hd
      split at h
      · rename_i zs hzs
        split at h
        · rename_i hcond
          obtain ⟨c1, cz, rfl, c3, c4, c5, c6⟩ := hcond
          obtain ⟨u1, u2⟩ := elemT_ok he
          obtain ⟨i, zv, i1, i2, i3, i4, i5⟩ := zeroT_info hz u2
          obtain ⟨k1, hk1⟩ := asInt_ok hl (ev_ok hR l)
          obtain ⟨k2, hk2⟩ := asInt_ok hc (ev_ok hR c)
          obtain ⟨ys, e1, e2, e3⟩ := zcDs_ok (S0 := S0) (w0 := w0) (mapO_rep hzs n.toNat)
          have hzl : zs.length = z.length := (mapO_some hzs).1
          have hlen : ys.length = n.toNat * sz := by
            have : ys.length = ((List.replicate n.toNat zs).flatten).length := by rw [← e1, List.length_map]
            rw [this, rep_len, c1]
          have hzvs : zv.cells.size = sz := by rw [← Array.length_toList, i4, ← hzl, c1]
          rw [hd]
          have hcurl : (madeCells zv.cells (n.toNat * sz)).toList = ys.map T.val := by
            rw [e2]
            by_cases h0 : n.toNat * sz = 0
            · have h1 : (madeCells zv.cells (n.toNat * sz)).toList = [] := by rw [h0]; simp [madeCells]
              rw [h1]
              symm
              apply List.eq_nil_of_length_eq_zero
              rw [rep_len, ← hzl, c1]; exact h0
            · have h1 : 0 < zv.cells.size := by
                rw [hzvs]
                rcases Nat.eq_zero_or_pos sz with h2 | h2
                · rw [h2] at h0; simp at h0
                · exact h2
              have := range_map (z := zv.cells) (n := n.toNat) h1
              rw [hzvs, i4] at this
              rw [← this]
              simp [madeCells, hzvs]
          have hrun := run_make (P := P) w t e i zv u1 i1 i2 k1 k2 n n c3 (Int.le_refl _) (by rw [i5]; omega) (by omega)
          rw [i3] at hrun
          refine ⟨.slice (some ⟨w.heap.size, 0, none⟩) n.toNat n.toNat, w.alloc (.cells (madeCells zv.cells (n.toNat * sz)) e), upd M d (some (.ow (.blk w.heap.size 0 n.toNat) sz n.toNat ys)), ?_, ?_⟩
          · simp only [execOp, ho, hk1, hk2, Sem.run_bind, hrun, Result.andThen_ok, Sem.run_pure]
          · refine entry_ok hR c6 h ?_ (fun hM => ?_) ?_
            · rw [er_ow_mk, e1]
            · have hI := hR.inv.hands (Y := ys) (fun y hy => ⟨(e3 y hy).1 w, (e3 y hy).2⟩)
              rw [List.nil_append] at hI
              have hcs : (madeCells zv.cells (n.toNat * sz)).size = n.toNat * sz := by rw [← Array.length_toList, hcurl, List.length_map, hlen]
              exact hI.new hM (push_alloc w _ e) nofz' (by omega) cz (Nat.le_refl _) (by simp only [maxLen]; omega) hlen (fun i x hi => by rw [← Array.getElem?_toList, hcurl, List.getElem?_map, hi]; rfl)
            · have := RelC.sl (S0 := S0) (w0 := w0) (M := upd M d (some (.ow (.blk w.heap.size 0 n.toNat) sz n.toNat ys))) d [] 0 n.toNat w.heap.size 0 n.toNat sz n.toNat ys ⟨_, upd_same _ _ _, get_self _⟩ (by omega)
              rw [Nat.zero_mul, Nat.sub_zero] at this
              exact ⟨this, rfl⟩
        · cases h
      · cases h
    · cases h
  · cases h
theorem buildSlice_ok {o : Oper} {t : TypeId} {len : Nat} {parts : Array (Nat × Operand)} {s1 : FS} (ho : o.op = .buildSlice t len parts) (hR : Rel S0 w0 nt s M a w) (h : stepF P nt o s = some s1) :
    ∃ u w1 M1, (execOp a.eval o).run P w = .ok (.value u) w1 ∧ Rel S0 w0 nt s1 M1 (a.put o.dst u) w1 := by
  simp only [stepF, ho] at h
  split at h
  · rename_i e sz ps he hps
    split at h
    · rename_i z hz
      split at h
      · rename_i zs d hzs hd
        split at h
        · rename_i hcond
          obtain ⟨c1, c2, c3, c4⟩ := hcond
          obtain ⟨u1, u2⟩ := elemT_ok he
          obtain ⟨i, zv, i1, i2, i3, i4, i5⟩ := zeroT_info hz u2
          obtain ⟨p1, p2⟩ := parts_ok hR hps
          have hzl : zs.length = z.length := (mapO_some hzs).1
          have hzvs : zv.cells.size = sz := by rw [← Array.length_toList, i4, ← hzl, c1]
          have hpm : (Array.map (fun x => match x with | (i, x) => (i, a.eval x)) parts).toList = parts.toList.map fun x => (x.1, a.eval x.2) := by simp
          have h24 : ¬ (2 ^ 24 < len * sz) := by omega
          rw [hd]
          split at h
          · split at h
            · rename_i hpl
              obtain rfl := Option.some.inj h
              have hp0 : parts.toList.map (fun x => (x.1, a.eval x.2)) = [] := List.length_eq_zero_iff.1 (by rw [← p1]; exact hpl)
              refine ⟨.slice (some ⟨w.heap.size, 0, none⟩) 0 0, w.alloc (.cells #[] e), M, ?_, ?_⟩
              · simp only [execOp, ho, Instr.buildSlice, Sem.run_bind, run_underlying u1, Result.andThen_ok, sizeOf, typeInfo, run_program, i1, Sem.run_pure, i3, Nat.zero_mul]
                rw [if_neg (by omega)]
                simp only [if_true, Sem.run_pure, Sem.run_bind, Result.andThen_ok, hpm, hp0, Instr.fill, newRow, run_newObj]
                have hr0 : Array.range 0 = #[] := rfl
                simp [hr0]
              · have h1 := hR.inv.world (w' := w.alloc (.cells #[] e)) (fun k hk => by rw [push_alloc, Array.getElem?_push_lt hk, Array.getElem?_eq_getElem hk]) (by rw [push_alloc]; simp)
                have hR1 : Rel S0 w0 nt s M a (w.alloc (.cells #[] e)) := ⟨h1, hR.er, hR.en, hR.nt, hR.df, hR.gh⟩
                exact hR1.put (v := .v (.one .nl)) ⟨.nl _, rfl⟩ c4
            · cases h
          · rename_i hl0
            have hl1 : 0 < len := Nat.pos_of_ne_zero hl0
            split at h
            · rename_i cs hcs
              split at h
              · rename_i xs s2 hxs
                have h0 : 0 < zv.cells.size := by omega
                have hinit : RelL S0 w0 M ((List.replicate len zs).flatten) ((Array.range (len * sz)).map (zv.cells[· % zv.cells.size]!)).toList := by
                  have := range_map (z := zv.cells) (n := len) h0
                  rw [hzvs, i4] at this
                  rw [hzvs, this]
                  exact zeros_rel (mapO_rep hzs len)
                obtain ⟨rv, g1, g2⟩ := fill_ok hcs hinit p1 p2
                obtain ⟨M1, ys, hR1, e1, e2, e3⟩ := absorbL_ok hR g2 hxs
                rw [List.nil_append] at hR1
                have hlen2 : ys.length = rv.size := by
                  have : (ys.map T.val).length = rv.toList.length := by rw [e2]
                  simpa using this
                have hrv : rv.size = len * sz := by
                  have hfl : ∀ (ps : List (Nat × List DC)) (z r : List DC), fillC (fun i => some (i * sz, sz)) z ps = some r → r.length = z.length := by
                    intro ps
                    induction ps with
                    | nil => intro z r h; simp only [fillC, Option.some.injEq] at h; rw [h]
                    | cons p ps ih =>
                      intro z r h
                      obtain ⟨i, c⟩ := p
                      simp only [fillC] at h
                      split at h
                      · rename_i hc
                        rw [ih _ _ h]
                        simp only [List.length_append, List.length_take, List.length_drop]
                        omega
                      · cases h
                  have h1 := hfl _ _ _ hcs
                  have h2 := g2.1
                  rw [h1, rep_len, c1] at h2
                  simpa using h2
                have hcur : ∀ (i : Nat) (y : A), ys[i]? = some y → rv[i]? = some y.val := fun i y hi => by
                  rw [← Array.getElem?_toList, ← e2, List.getElem?_map, hi]; rfl
                have hne0 : len * sz ≠ 0 := Nat.mul_ne_zero (by omega) (by omega)
                have hlm : len ≤ 2 ^ 24 := Nat.le_trans (Nat.le_mul_of_pos_right len c2) c3
                refine ⟨.slice (some ⟨w.heap.size, 0, none⟩) len len, w.alloc (.cells rv e), upd M1 d (some (.ow (.blk w.heap.size 0 len) sz len ys)), ?_, ?_⟩
                · simp only [execOp, ho, Instr.buildSlice, Sem.run_bind, run_underlying u1, Result.andThen_ok, sizeOf, typeInfo, run_program, i1, Sem.run_pure, i3]
                  rw [if_neg (by omega)]
                  simp only [if_neg hne0, zeroValue, typeInfo, Sem.run_pure, Sem.run_bind, run_program, i1, i2, Result.andThen_ok, hpm, g1, newRow, run_newObj]
                  rfl
                · refine entry_ok hR1 c4 h ?_ (fun hM => ?_) ?_
                  · rw [er_ow_mk, e1]
                  · exact hR1.inv.new hM (push_alloc w _ e) nofz' (by omega) c2 (Nat.le_refl _) (by simp only [maxLen]; omega) (by omega) hcur
                  · have := RelC.sl (S0 := S0) (w0 := w0) (M := upd M1 d (some (.ow (.blk w.heap.size 0 len) sz len ys))) d [] 0 len w.heap.size 0 len sz len ys ⟨_, upd_same _ _ _, get_self _⟩ (by omega)
                    rw [Nat.zero_mul, Nat.sub_zero] at this
                    exact ⟨this, rfl⟩
              · cases h
            · cases h
        · cases h
      · cases h
    · cases h
  · cases h
theorem storeop_ok {o : Oper} {t : TypeId} {x y : Operand} {s1 : FS} (ho : o.op = .store t x y) (hR : Rel S0 w0 nt s M a w) (h : stepF P nt o s = some s1) :
    ∃ w1 M1, (execOp a.eval o).run P w = .ok .skip w1 ∧ Rel S0 w0 nt s1 M1 (a.put o.dst undef) w1 := by
  simp only [stepF, ho] at h
  split at h
  · rename_i id p off cs e0 e1 e2
    split at h
    · rename_i e3
      obtain ⟨w1, M1, hrun, hR1⟩ := store_ok hR e1 e2 e3 h
      refine ⟨w1, M1, ?_, by rw [e0]; exact hR1⟩
      simp only [execOp, ho, Sem.run_bind, hrun, Result.andThen_ok, Sem.run_pure]
    · cases h
  · cases h
end
end Go.Proofs.Ytjjdjkkhhcbogaa.DM
