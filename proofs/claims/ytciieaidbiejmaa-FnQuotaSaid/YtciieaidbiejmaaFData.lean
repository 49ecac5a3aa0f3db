/-
  Data of the program, as the machine of values has it.
-/
import Derived.Test.YtciieaidbiejmaaTy
import Derived.Test.YtciieaidbiejmaaDC
namespace Go.Proofs.Ytciieaidbiejmaa.DM
set_option linter.unusedVariables false
set_option linter.unusedSimpArgs false
theorem wr (x : Int) (h1 : -9223372036854775808 ≤ x) (h2 : x < 9223372036854775808) : IntKind.i64.wrap x = x := by
  rw [IntKind.wrap_i64]; omega
abbrev ri (x : Int) : PA := .one (.r (.sc (.int .i64 x)))
abbrev rb (x : Bool) : PA := .one (.r (.sc (.bool x)))
abbrev rs (x : ByteArray) : PA := .one (.r (.sc (.string x)))
theorem DW.condT {P : Program} {nt : Nat} {s : FS} {Q : Exit → FS → Prop} {c : Operand} {x y : Code} (hc : asSc (ev s.e c) = some (.bool true)) (h : DW P nt x s Q) : DW P nt (.cond c x y) s Q := DW.cond hc (fun _ => h) (fun h => by cases h)
theorem DW.condF {P : Program} {nt : Nat} {s : FS} {Q : Exit → FS → Prop} {c : Operand} {x y : Code} (hc : asSc (ev s.e c) = some (.bool false)) (h : DW P nt y s Q) : DW P nt (.cond c x y) s Q := DW.cond hc (fun h => by cases h) (fun _ => h)
@[simp] theorem beq_bytes (x y : ByteArray) : (x.toList == y.toList) = decide (x = y) := by
  by_cases h : x = y
  · subst h; simp
  · simp only [h, decide_false, beq_eq_false_iff_ne, ne_eq]
    intro he
    rw [ByteArray.toList_eq, ByteArray.toList_eq] at he
    exact h (by cases x; cases y; congr; exact Array.toList_inj.1 he)
/-- A whole number in a value. -/
abbrev di (x : Int) : D := .sc (.int .i64 x)
abbrev ds (x : ByteArray) : D := .sc (.string x)
abbrev db (x : Bool) : D := .sc (.bool x)
abbrev vi (x : Int) : DV := .v (.one (.t (.sc (.int .i64 x))))
abbrev vb (x : Bool) : DV := .v (.one (.t (.sc (.bool x))))
abbrev vs (x : ByteArray) : DV := .v (.one (.t (.sc (.string x))))
theorem rows_drop {α β : Type} {enc : α → List β} {sz : Nat} (h : ∀ x, (enc x).length = sz) : ∀ (l : List α) (i : Nat), (l.flatMap enc).drop (i * sz) = (l.drop i).flatMap enc
  | l, 0 => by simp
  | [], i + 1 => by simp
  | x :: l, i + 1 => by
    rw [List.flatMap_cons, Nat.succ_mul, Nat.add_comm, ← List.drop_drop, show ((enc x ++ l.flatMap enc).drop sz) = l.flatMap enc by rw [← h x, List.drop_left], rows_drop h l i]
    rfl
theorem rows_take {α β : Type} {enc : α → List β} {sz : Nat} (h : ∀ x, (enc x).length = sz) : ∀ (l : List α) (i : Nat), (l.flatMap enc).take (i * sz) = (l.take i).flatMap enc
  | l, 0 => by simp
  | [], i + 1 => by simp
  | x :: l, i + 1 => by
    rw [List.flatMap_cons, Nat.succ_mul, Nat.add_comm, List.take_add, List.take_succ_cons, List.flatMap_cons, show ((enc x ++ l.flatMap enc).take sz) = enc x by rw [← h x, List.take_left], show ((enc x ++ l.flatMap enc).drop sz) = l.flatMap enc by rw [← h x, List.drop_left], rows_take h l i]
theorem rows_len {α β : Type} {enc : α → List β} {sz : Nat} (h : ∀ x, (enc x).length = sz) : ∀ (l : List α), (l.flatMap enc).length = l.length * sz
  | [] => by simp
  | x :: l => by rw [List.flatMap_cons, List.length_append, h, rows_len h l, List.length_cons, Nat.succ_mul, Nat.add_comm]
/-- What stands in rows of its own width. -/
class Row (α : Type) where
  w : Nat
  r : α → List RT
  d : α → List D
  lr : ∀ x, (r x).length = w
  ld : ∀ x, (d x).length = w
  rt : ∀ x, toRTs (d x) = some (r x)
  nr : ∀ x, noRoL (d x) = true
  wp : 0 < w
  /-- no list or text in it is longer -/
  ok : Nat → α → Prop
  /-- lengths of lists and texts, together -/
  sz : α → Nat
  /-- as the laws mark an element of a list -/
  mkE : α → Int → α
  ct : α → Nat
  cl : ∀ x, ct x ≤ 40 * (1 + sz x)
def rR {α : Type} [Row α] (l : List α) : List RT := l.flatMap Row.r
def rD {α : Type} [Row α] (l : List α) : List D := l.flatMap Row.d
section
variable {α : Type} [Row α]
theorem rR_len (l : List α) : (rR l).length = l.length * Row.w α := rows_len Row.lr l
theorem rD_len (l : List α) : (rD l).length = l.length * Row.w α := rows_len Row.ld l
theorem rR_drop (l : List α) (i : Nat) (h : i < l.length) : (rR l).drop (i * Row.w α) = Row.r l[i] ++ rR (l.drop (i + 1)) := by
  unfold rR
  rw [rows_drop Row.lr, List.drop_eq_getElem_cons h, List.flatMap_cons]
theorem rD_drop (l : List α) (i : Nat) (h : i < l.length) : (rD l).drop (i * Row.w α) = Row.d l[i] ++ rD (l.drop (i + 1)) := by
  unfold rD
  rw [rows_drop Row.ld, List.drop_eq_getElem_cons h, List.flatMap_cons]
theorem rR_take (l : List α) : (rR l).take (l.length * Row.w α) = rR l := List.take_of_length_le (by rw [rR_len]; exact Nat.le_refl _)
theorem rD_take (l : List α) : (rD l).take (l.length * Row.w α) = rD l := List.take_of_length_le (by rw [rD_len]; exact Nat.le_refl _)
@[simp] theorem rR_nil : rR ([] : List α) = [] := rfl
@[simp] theorem rD_nil : rD ([] : List α) = [] := rfl
theorem rR_cons (x : α) (l : List α) : rR (x :: l) = Row.r x ++ rR l := rfl
theorem rD_cons (x : α) (l : List α) : rD (x :: l) = Row.d x ++ rD l := rfl
theorem rR_append (l l' : List α) : rR (l ++ l') = rR l ++ rR l' := List.flatMap_append
theorem rD_append (l l' : List α) : rD (l ++ l') = rD l ++ rD l' := List.flatMap_append
theorem toRTs_append : ∀ {a b : List D} {x y : List RT}, toRTs a = some x → toRTs b = some y → toRTs (a ++ b) = some (x ++ y)
  | [], b, x, y, h, h' => by simp only [toRTs, Option.some.injEq] at h; subst h; simpa using h'
  | d :: a, b, x, y, h, h' => by
    simp only [toRTs] at h
    split at h
    · rename_i r rs h1 h2
      obtain rfl := Option.some.inj h
      simp [toRTs, h1, toRTs_append h2 h']
    · cases h
@[simp] theorem rD_rt : ∀ l : List α, toRTs (rD l) = some (rR l)
  | [] => rfl
  | x :: l => toRTs_append (Row.rt x) (rD_rt l)
theorem rR_ro_flat (h : ∀ x : α, (Row.r x).map roD = Row.d x) (l : List α) : (rR l).map roD = rD l := by
  unfold rR rD
  rw [List.map_flatMap]
  congr 1
  funext x
  exact h x
theorem noRoL_append : ∀ {a b : List D}, noRoL a = true → noRoL b = true → noRoL (a ++ b) = true
  | [], b, h, h' => h'
  | d :: a, b, h, h' => by
    simp only [noRoL, Bool.and_eq_true] at h
    simp [noRoL, h.1, noRoL_append h.2 h']
@[simp] theorem rD_nr : ∀ l : List α, noRoL (rD l) = true
  | [] => rfl
  | x :: l => noRoL_append (Row.nr x) (rD_nr l)
end
attribute [simp] toRTs toRT noRoL noRo FS.move mvC cutD emptyC
section
variable {α : Type} [Row α]
def okL (B : Nat) (l : List α) : Prop := l.length ≤ B ∧ ∀ x ∈ l, Row.ok B x
def szL : List α → Nat
  | [] => 0
  | x :: l => 1 + Row.sz x + szL l
def mkL : List α → Int → List α
  | [], _ => []
  | x :: l, k => Row.mkE x k :: mkL l (k + Row.ct x)
def ctL : List α → Nat
  | [] => 0
  | x :: l => Row.ct x + ctL l
@[simp] theorem mkL_len : ∀ (l : List α) (k : Int), (mkL l k).length = l.length
  | [], _ => rfl
  | x :: l, k => by simp [mkL, mkL_len l]
theorem mkL_append : ∀ (l l' : List α) (k : Int), mkL (l ++ l') k = mkL l k ++ mkL l' (k + ctL l)
  | [], l', k => by simp [mkL, ctL]
  | x :: l, l', k => by simp only [List.cons_append, mkL, ctL, mkL_append l l']; congr 3; omega
theorem ctL_append : ∀ (l l' : List α), ctL (l ++ l') = ctL l + ctL l'
  | [], l' => by simp [ctL]
  | x :: l, l' => by simp only [List.cons_append, ctL, ctL_append l l']; omega
theorem szL_append : ∀ (l l' : List α), szL (l ++ l') = szL l + szL l'
  | [], l' => by simp [szL]
  | x :: l, l' => by simp only [List.cons_append, szL, szL_append l l']; omega
theorem szL_len : ∀ l : List α, l.length ≤ szL l
  | [] => Nat.le_refl _
  | x :: l => by have := szL_len l; simp only [szL, List.length_cons]; omega
theorem take_succ' {β : Type} (l : List β) (i : Nat) (h : i < l.length) : l.take (i + 1) = l.take i ++ [l[i]] := by rw [List.take_add_one, List.getElem?_eq_getElem h]; rfl
theorem ctL_le : ∀ l : List α, ctL l ≤ 40 * szL l
  | [] => Nat.le_refl _
  | x :: l => by have h1 := Row.cl x; have h2 := ctL_le l; simp only [ctL, szL]; omega
@[simp] theorem mkL_nil (k : Int) : mkL ([] : List α) k = [] := rfl
@[simp] theorem ctL_nil : ctL ([] : List α) = 0 := rfl
@[simp] theorem szL_nil : szL ([] : List α) = 0 := rfl
theorem nil_or_pos {β : Type} (l : List β) : l = [] ∨ 0 < l.length := by cases l <;> simp
theorem rD_dropc (l : List α) (i : Nat) (h : i < l.length) : rD (l.drop i) = Row.d l[i] ++ rD (l.drop (i + 1)) := by rw [List.drop_eq_getElem_cons h, rD_cons]
theorem szL_take (l : List α) (i : Nat) (h : i < l.length) : szL (l.take (i + 1)) = szL (l.take i) + 1 + Row.sz l[i] := by
  rw [take_succ' l i h, szL_append]; simp [szL]; omega
theorem szL_at (l : List α) (i : Nat) (h : i < l.length) : szL (l.take i) + 1 + Row.sz l[i] + szL (l.drop (i + 1)) = szL l := by
  conv => rhs; rw [← List.take_append_drop i l, List.drop_eq_getElem_cons h]
  rw [szL_append]; simp only [szL]; omega
theorem ctL_at (l : List α) (i : Nat) (h : i < l.length) : ctL (l.take i) + Row.ct l[i] + ctL (l.drop (i + 1)) = ctL l := by
  conv => rhs; rw [← List.take_append_drop i l, List.drop_eq_getElem_cons h]
  rw [ctL_append]; simp only [ctL]; omega
theorem ctL_take (l : List α) (i : Nat) (h : i < l.length) : ctL (l.take (i + 1)) = ctL (l.take i) + Row.ct l[i] := by
  rw [take_succ' l i h, ctL_append]; simp [ctL]
theorem mkL_take (l : List α) (i : Nat) (k : Int) (h : i < l.length) : mkL (l.take (i + 1)) k = mkL (l.take i) k ++ [Row.mkE l[i] (k + ctL (l.take i))] := by
  rw [take_succ' l i h, mkL_append]; simp [mkL]
end
theorem okL_at {α : Type} [Row α] {B : Nat} {l : List α} (h : okL B l) (i : Nat) (hi : i < l.length) : Row.ok B l[i] := h.2 _ (List.getElem_mem hi)
theorem mkL_get {α : Type} [Row α] (l : List α) (k : Int) (i : Nat) (h : i < l.length) : (mkL l k)[i]'(by simpa using h) = Row.mkE l[i] (k + ctL (l.take i)) := by
  have h1 := mkL_take l i k h
  have h2 : mkL l k = mkL (l.take (i + 1)) k ++ mkL (l.drop (i + 1)) (k + ctL (l.take (i + 1))) := by rw [← mkL_append, List.take_append_drop]
  have h3 : (mkL l k)[i]? = some (Row.mkE l[i] (k + ctL (l.take i))) := by
    rw [h2, List.getElem?_append_left (by simp; omega), h1, List.getElem?_append_right (by simp; omega)]
    have : (mkL (l.take i) k).length = i := by simp; omega
    rw [this]; simp
  rw [List.getElem?_eq_getElem (by simpa using h)] at h3
  exact Option.some.inj h3
/-- What is left of a measure. -/
def szr (x : Int) : Int := if x < 0 then -1 else x
theorem szr_neg {x : Int} (h : x < 0) : szr x = -1 := if_pos h
theorem szr_pos {x : Int} (h : 0 ≤ x) : szr x = x := if_neg (by omega)
@[simp] theorem szr_lt (x : Int) : szr x < 0 ↔ x < 0 := by
  unfold szr
  split
  · omega
  · exact Iff.rfl
theorem app_get {α : Type} {A : List α} {n : Nat} (h : A.length = n) (L : List α) (j : Nat) : (A ++ L)[n + j]? = L[j]? := by rw [List.getElem?_append_right (by omega), h, Nat.add_sub_cancel_left]
theorem app_get0 {α : Type} {A : List α} {n : Nat} (h : A.length = n) (L : List α) : (A ++ L)[n]? = L[0]? := app_get h L 0
theorem app_set {α : Type} {A : List α} {n : Nat} (h : A.length = n) (L : List α) (j : Nat) (v : α) : (A ++ L).set (n + j) v = A ++ L.set j v := by rw [List.set_append_right _ _ (by omega), h, Nat.add_sub_cancel_left]
theorem app_set0 {α : Type} {A : List α} {n : Nat} (h : A.length = n) (L : List α) (v : α) : (A ++ L).set n v = A ++ L.set 0 v := app_set h L 0 v
theorem app_drop {α : Type} {A : List α} {n : Nat} (h : A.length = n) (L : List α) (j : Nat) : (A ++ L).drop (n + j) = L.drop j := by rw [← List.drop_drop, ← h, List.drop_left]
theorem app_drop0 {α : Type} {A : List α} {n : Nat} (h : A.length = n) (L : List α) : (A ++ L).drop n = L := app_drop h L 0
/-- A list that is lent; an empty one is only read. -/
def mc {α : Type} [Row α] (l : List α) : PC := if l.length = 0 then .r (.sl 0 []) else .m (Row.w α) l.length (rD l)
theorem mc_pos {α : Type} [Row α] {l : List α} (h : 0 < l.length) : mc l = .m (Row.w α) l.length (rD l) := if_neg (by omega)
@[simp] theorem mc_nil {α : Type} [Row α] : mc ([] : List α) = .r (.sl 0 []) := rfl
theorem emC_pos {id : Nat} {p : List Nat} {off n : Nat} (h : 0 < n) : emC (.sl id p off n) = .sl id p off n := by cases n with | zero => omega | succ n => rfl
theorem nil_or_pos' {α : Type} [Row α] (l : List α) : (∃ (_ _ _ _ : True), l = []) ∨ (∃ (_ : mc l = .m (Row.w α) l.length (rD l)) (_ : ∀ k, mc (mkL l k) = .m (Row.w α) l.length (rD (mkL l k))) (_ : ∀ id p off, emC (.sl id p off l.length) = .sl id p off l.length) (_ : 0 < l.length), True) := by
  rcases nil_or_pos l with rfl | h
  · exact .inl ⟨trivial, trivial, trivial, trivial, rfl⟩
  · exact .inr ⟨mc_pos h, fun k => by rw [mc_pos (by simpa using h), mkL_len], fun _ _ _ => emC_pos h, h, trivial⟩
/-- A number of the machine. -/
def IntOk (x : Int) : Prop := -9223372036854775808 ≤ x ∧ x < 9223372036854775808
theorem nil_or_pos2 {α : Type} [Row α] (l : List α) : (∃ (_ : mc l = .m (Row.w α) l.length (rD l)) (_ : ∀ k, mc (mkL l k) = .m (Row.w α) l.length (rD (mkL l k))), 0 < l.length) ∨ (∃ (_ : mc l = .r (.sl 0 [])) (_ : ∀ k, mc (mkL l k) = .r (.sl 0 [])), l = []) := by
  rcases nil_or_pos l with rfl | h
  · exact .inr ⟨rfl, fun _ => rfl, rfl⟩
  · exact .inl ⟨mc_pos h, fun k => by rw [mc_pos (by simpa using h), mkL_len], h⟩
/-- What the laws mark text with. -/
def dg (k : Nat) : UInt8 := UInt8.ofNat (48 + k % 10)
@[simp] theorem empty_mk : (ByteArray.mk #[]) = ByteArray.empty := rfl
def mtB (k : Nat) (acc : ByteArray) : ByteArray := if h : 0 < k then mtB (k / 10) (⟨#[dg k]⟩ ++ acc) else acc
termination_by k
decreasing_by omega
def mt (k : Int) : ByteArray := ⟨#[109]⟩ ++ mtB k.toNat ByteArray.empty
def mb (k : Int) : Bool := k.tmod 3 == 0
instance : Row Int := ⟨1, fun x => [.sc (.int .i64 x)], fun x => [.sc (.int .i64 x)], fun _ => rfl, fun _ => rfl, fun x => by simp, fun x => by simp, by decide, fun _ x => IntOk x, fun _ => 0, fun _ k => k, fun _ => 1, fun _ => by simp⟩
instance : Row ByteArray := ⟨1, fun x => [.sc (.string x)], fun x => [.sc (.string x)], fun _ => rfl, fun _ => rfl, fun x => by simp, fun x => by simp, by decide, fun B x => x.size ≤ B, fun x => x.size, fun _ k => mt k, fun _ => 1, fun x => by show 1 ≤ 40 * (1 + x.size); omega⟩
instance : Row Bool := ⟨1, fun x => [.sc (.bool x)], fun x => [.sc (.bool x)], fun _ => rfl, fun _ => rfl, fun x => by simp, fun x => by simp, by decide, fun _ _ => True, fun _ => 0, fun _ k => mb k, fun _ => 1, fun _ => by simp⟩
/-- A row as it is read, or as it is held. -/
abbrev ra {α : Type} [Row α] (l : List α) : PA := .one (.r (.sl l.length (rR l)))
abbrev dr {α : Type} [Row α] (l : List α) : D := .ow () (Row.w α) l.length (rD l)

@[simp] theorem w_Int : Row.w Int = 1 := rfl
@[simp] theorem rR_len_Int (l : List Int) : (rR l).length = l.length * 1 := rR_len l
@[simp] theorem rD_len_Int (l : List Int) : (rD l).length = l.length * 1 := rD_len l
theorem rR_drop_Int (l : List Int) (i : Nat) (h : i < l.length) : (rR l).drop (i * 1) = [RT.sc (.int .i64 l[i])] ++ rR (l.drop (i + 1)) := rR_drop l i h
theorem rD_drop_Int (l : List Int) (i : Nat) (h : i < l.length) : (rD l).drop (i * 1) = [T.sc (.int .i64 l[i])] ++ rD (l.drop (i + 1)) := rD_drop l i h
@[simp] theorem rR_take_Int (l : List Int) : (rR l).take (l.length * 1) = rR l := rR_take l
@[simp] theorem rD_take_Int (l : List Int) : (rD l).take (l.length * 1) = rD l := rD_take l
@[simp] theorem rD_takeM_Int (l : List Int) (k : Int) : (rD (mkL l k)).take (l.length * 1) = rD (mkL l k) := by have := rD_take (mkL l k); rwa [mkL_len] at this
@[simp] theorem rR_ro_Int (l : List Int) : (rR l).map roD = rD l := rR_ro_flat (fun _ => rfl) l
@[simp] theorem rR_ro_u_Int (l : List Int) : List.map (fun a => match a with | RT.sc v => T.sc v | r => T.ro () r) (rR l) = rD l := rR_ro_Int l
@[simp] theorem rR_take1_Int (l : List Int) : (rR l).take l.length = rR l := by simpa using rR_take_Int l
@[simp] theorem rD_take1_Int (l : List Int) : (rD l).take l.length = rD l := by simpa using rD_take_Int l
@[simp] theorem rD_takeM1_Int (l : List Int) (k : Int) : (rD (mkL l k)).take l.length = rD (mkL l k) := by simpa using rD_takeM_Int l k
theorem rR_get_Int (l : List Int) (i : Nat) (h : i < l.length) : (rR l)[i]? = some (RT.sc (.int .i64 l[i])) := by have := congrArg (·[0]?) (rR_drop_Int l i h); simpa using this
theorem rD_get_Int (l : List Int) (i : Nat) (h : i < l.length) : (rD l)[i]? = some (T.sc (.int .i64 l[i])) := by have := congrArg (·[0]?) (rD_drop_Int l i h); simpa using this
@[simp] theorem w_ByteArray : Row.w ByteArray = 1 := rfl
@[simp] theorem rR_len_ByteArray (l : List ByteArray) : (rR l).length = l.length * 1 := rR_len l
@[simp] theorem rD_len_ByteArray (l : List ByteArray) : (rD l).length = l.length * 1 := rD_len l
theorem rR_drop_ByteArray (l : List ByteArray) (i : Nat) (h : i < l.length) : (rR l).drop (i * 1) = [RT.sc (.string l[i])] ++ rR (l.drop (i + 1)) := rR_drop l i h
theorem rD_drop_ByteArray (l : List ByteArray) (i : Nat) (h : i < l.length) : (rD l).drop (i * 1) = [T.sc (.string l[i])] ++ rD (l.drop (i + 1)) := rD_drop l i h
@[simp] theorem rR_take_ByteArray (l : List ByteArray) : (rR l).take (l.length * 1) = rR l := rR_take l
@[simp] theorem rD_take_ByteArray (l : List ByteArray) : (rD l).take (l.length * 1) = rD l := rD_take l
@[simp] theorem rD_takeM_ByteArray (l : List ByteArray) (k : Int) : (rD (mkL l k)).take (l.length * 1) = rD (mkL l k) := by have := rD_take (mkL l k); rwa [mkL_len] at this
@[simp] theorem rR_ro_ByteArray (l : List ByteArray) : (rR l).map roD = rD l := rR_ro_flat (fun _ => rfl) l
@[simp] theorem rR_ro_u_ByteArray (l : List ByteArray) : List.map (fun a => match a with | RT.sc v => T.sc v | r => T.ro () r) (rR l) = rD l := rR_ro_ByteArray l
@[simp] theorem rR_take1_ByteArray (l : List ByteArray) : (rR l).take l.length = rR l := by simpa using rR_take_ByteArray l
@[simp] theorem rD_take1_ByteArray (l : List ByteArray) : (rD l).take l.length = rD l := by simpa using rD_take_ByteArray l
@[simp] theorem rD_takeM1_ByteArray (l : List ByteArray) (k : Int) : (rD (mkL l k)).take l.length = rD (mkL l k) := by simpa using rD_takeM_ByteArray l k
theorem rR_get_ByteArray (l : List ByteArray) (i : Nat) (h : i < l.length) : (rR l)[i]? = some (RT.sc (.string l[i])) := by have := congrArg (·[0]?) (rR_drop_ByteArray l i h); simpa using this
theorem rD_get_ByteArray (l : List ByteArray) (i : Nat) (h : i < l.length) : (rD l)[i]? = some (T.sc (.string l[i])) := by have := congrArg (·[0]?) (rD_drop_ByteArray l i h); simpa using this
@[simp] theorem w_Bool : Row.w Bool = 1 := rfl
@[simp] theorem rR_len_Bool (l : List Bool) : (rR l).length = l.length * 1 := rR_len l
@[simp] theorem rD_len_Bool (l : List Bool) : (rD l).length = l.length * 1 := rD_len l
theorem rR_drop_Bool (l : List Bool) (i : Nat) (h : i < l.length) : (rR l).drop (i * 1) = [RT.sc (.bool l[i])] ++ rR (l.drop (i + 1)) := rR_drop l i h
theorem rD_drop_Bool (l : List Bool) (i : Nat) (h : i < l.length) : (rD l).drop (i * 1) = [T.sc (.bool l[i])] ++ rD (l.drop (i + 1)) := rD_drop l i h
@[simp] theorem rR_take_Bool (l : List Bool) : (rR l).take (l.length * 1) = rR l := rR_take l
@[simp] theorem rD_take_Bool (l : List Bool) : (rD l).take (l.length * 1) = rD l := rD_take l
@[simp] theorem rD_takeM_Bool (l : List Bool) (k : Int) : (rD (mkL l k)).take (l.length * 1) = rD (mkL l k) := by have := rD_take (mkL l k); rwa [mkL_len] at this
@[simp] theorem rR_ro_Bool (l : List Bool) : (rR l).map roD = rD l := rR_ro_flat (fun _ => rfl) l
@[simp] theorem rR_ro_u_Bool (l : List Bool) : List.map (fun a => match a with | RT.sc v => T.sc v | r => T.ro () r) (rR l) = rD l := rR_ro_Bool l
@[simp] theorem rR_take1_Bool (l : List Bool) : (rR l).take l.length = rR l := by simpa using rR_take_Bool l
@[simp] theorem rD_take1_Bool (l : List Bool) : (rD l).take l.length = rD l := by simpa using rD_take_Bool l
@[simp] theorem rD_takeM1_Bool (l : List Bool) (k : Int) : (rD (mkL l k)).take l.length = rD (mkL l k) := by simpa using rD_takeM_Bool l k
theorem rR_get_Bool (l : List Bool) (i : Nat) (h : i < l.length) : (rR l)[i]? = some (RT.sc (.bool l[i])) := by have := congrArg (·[0]?) (rR_drop_Bool l i h); simpa using this
theorem rD_get_Bool (l : List Bool) (i : Nat) (h : i < l.length) : (rD l)[i]? = some (T.sc (.bool l[i])) := by have := congrArg (·[0]?) (rD_drop_Bool l i h); simpa using this
structure Geo where
  Tenants : Int
  Pages : Int
  Inodes : Int
  Quota : Int
abbrev Geo.r (x : Geo) : List RT := [.sc (.int .i64 x.Tenants), .sc (.int .i64 x.Pages), .sc (.int .i64 x.Inodes), .sc (.int .i64 x.Quota)]
abbrev Geo.d (x : Geo) : List D := [.sc (.int .i64 x.Tenants), .sc (.int .i64 x.Pages), .sc (.int .i64 x.Inodes), .sc (.int .i64 x.Quota)]
def Geo.ok (B : Nat) (x : Geo) : Prop := IntOk x.Tenants ∧ IntOk x.Pages ∧ IntOk x.Inodes ∧ IntOk x.Quota
def Geo.sz (x : Geo) : Nat := 0
def Geo.mkE (x : Geo) (k : Int) : Geo := ⟨k, k + 1, k + 2, k + 3⟩
def Geo.ct (x : Geo) : Nat := 4
def Geo.mkT (x : Geo) (k : Int) : Geo := ⟨x.Tenants, x.Pages, x.Inodes, x.Quota⟩
def Geo.ctT (x : Geo) : Nat := 0
theorem Geo_cl (x : Geo) : Geo.ct x ≤ 40 * (1 + Geo.sz x) := by unfold Geo.ct Geo.sz; omega
theorem Geo_clT (x : Geo) : Geo.ctT x ≤ 40 * Geo.sz x := by unfold Geo.ctT Geo.sz; omega
instance : Row Geo := ⟨4, Geo.r, Geo.d, fun _ => rfl, fun _ => rfl, fun x => by simp [toRTs, toRT], fun x => by simp [noRoL, noRo], by decide, Geo.ok, Geo.sz, Geo.mkE, Geo.ct, Geo_cl⟩
@[simp] theorem w_Geo : Row.w Geo = 4 := rfl
@[simp] theorem rR_len_Geo (l : List Geo) : (rR l).length = l.length * 4 := rR_len l
@[simp] theorem rD_len_Geo (l : List Geo) : (rD l).length = l.length * 4 := rD_len l
theorem rR_drop_Geo (l : List Geo) (i : Nat) (h : i < l.length) : (rR l).drop (i * 4) = Geo.r l[i] ++ rR (l.drop (i + 1)) := rR_drop l i h
theorem rD_drop_Geo (l : List Geo) (i : Nat) (h : i < l.length) : (rD l).drop (i * 4) = Geo.d l[i] ++ rD (l.drop (i + 1)) := rD_drop l i h
@[simp] theorem rR_take_Geo (l : List Geo) : (rR l).take (l.length * 4) = rR l := rR_take l
@[simp] theorem rD_take_Geo (l : List Geo) : (rD l).take (l.length * 4) = rD l := rD_take l
@[simp] theorem rD_takeM_Geo (l : List Geo) (k : Int) : (rD (mkL l k)).take (l.length * 4) = rD (mkL l k) := by have := rD_take (mkL l k); rwa [mkL_len] at this
@[simp] theorem rR_ro_Geo (l : List Geo) : (rR l).map roD = rD l := rR_ro_flat (fun _ => rfl) l
theorem Geo_sz (x : Geo) : Row.sz x = 0 := rfl
theorem Geo_ct (x : Geo) : Row.ct x = 4 := rfl
theorem Geo_mk (x : Geo) (k : Int) : Row.mkE x k = ⟨k, k + 1, k + 2, k + 3⟩ := rfl
theorem Geo_ok (B : Nat) (x : Geo) : Row.ok B x = (IntOk x.Tenants ∧ IntOk x.Pages ∧ IntOk x.Inodes ∧ IntOk x.Quota) := rfl
def Geo.zero : Geo := ⟨0, 0, 0, 0⟩
abbrev raGeo (x : Geo) : PA := .agg [.r (.sc (.int .i64 x.Tenants)), .r (.sc (.int .i64 x.Pages)), .r (.sc (.int .i64 x.Inodes)), .r (.sc (.int .i64 x.Quota))]
abbrev maGeo (x : Geo) : PA := .agg [.r (.sc (.int .i64 x.Tenants)), .r (.sc (.int .i64 x.Pages)), .r (.sc (.int .i64 x.Inodes)), .r (.sc (.int .i64 x.Quota))]
structure Item where
  Path : ByteArray
  Dir : Bool
  Text : ByteArray
abbrev Item.r (x : Item) : List RT := [.sc (.string x.Path), .sc (.bool x.Dir), .sc (.string x.Text)]
abbrev Item.d (x : Item) : List D := [.sc (.string x.Path), .sc (.bool x.Dir), .sc (.string x.Text)]
def Item.ok (B : Nat) (x : Item) : Prop := x.Path.size ≤ B ∧ x.Text.size ≤ B
def Item.sz (x : Item) : Nat := x.Path.size + x.Text.size
def Item.mkE (x : Item) (k : Int) : Item := ⟨mt (k), mb (k + 1), mt (k + 2)⟩
def Item.ct (x : Item) : Nat := 3
def Item.mkT (x : Item) (k : Int) : Item := ⟨x.Path, x.Dir, x.Text⟩
def Item.ctT (x : Item) : Nat := 0
theorem Item_cl (x : Item) : Item.ct x ≤ 40 * (1 + Item.sz x) := by unfold Item.ct Item.sz; omega
theorem Item_clT (x : Item) : Item.ctT x ≤ 40 * Item.sz x := by unfold Item.ctT Item.sz; omega
instance : Row Item := ⟨3, Item.r, Item.d, fun _ => rfl, fun _ => rfl, fun x => by simp [toRTs, toRT], fun x => by simp [noRoL, noRo], by decide, Item.ok, Item.sz, Item.mkE, Item.ct, Item_cl⟩
@[simp] theorem w_Item : Row.w Item = 3 := rfl
@[simp] theorem rR_len_Item (l : List Item) : (rR l).length = l.length * 3 := rR_len l
@[simp] theorem rD_len_Item (l : List Item) : (rD l).length = l.length * 3 := rD_len l
theorem rR_drop_Item (l : List Item) (i : Nat) (h : i < l.length) : (rR l).drop (i * 3) = Item.r l[i] ++ rR (l.drop (i + 1)) := rR_drop l i h
theorem rD_drop_Item (l : List Item) (i : Nat) (h : i < l.length) : (rD l).drop (i * 3) = Item.d l[i] ++ rD (l.drop (i + 1)) := rD_drop l i h
@[simp] theorem rR_take_Item (l : List Item) : (rR l).take (l.length * 3) = rR l := rR_take l
@[simp] theorem rD_take_Item (l : List Item) : (rD l).take (l.length * 3) = rD l := rD_take l
@[simp] theorem rD_takeM_Item (l : List Item) (k : Int) : (rD (mkL l k)).take (l.length * 3) = rD (mkL l k) := by have := rD_take (mkL l k); rwa [mkL_len] at this
@[simp] theorem rR_ro_Item (l : List Item) : (rR l).map roD = rD l := rR_ro_flat (fun _ => rfl) l
theorem Item_sz (x : Item) : Row.sz x = x.Path.size + x.Text.size := rfl
theorem Item_ct (x : Item) : Row.ct x = 3 := rfl
theorem Item_mk (x : Item) (k : Int) : Row.mkE x k = ⟨mt (k), mb (k + 1), mt (k + 2)⟩ := rfl
theorem Item_ok (B : Nat) (x : Item) : Row.ok B x = (x.Path.size ≤ B ∧ x.Text.size ≤ B) := rfl
def Item.zero : Item := ⟨ByteArray.empty, false, ByteArray.empty⟩
abbrev raItem (x : Item) : PA := .agg [.r (.sc (.string x.Path)), .r (.sc (.bool x.Dir)), .r (.sc (.string x.Text))]
abbrev maItem (x : Item) : PA := .agg [.r (.sc (.string x.Path)), .r (.sc (.bool x.Dir)), .r (.sc (.string x.Text))]
structure View where
  Items : (List Item)
abbrev View.r (x : View) : List RT := [.sl x.Items.length (rR x.Items)]
abbrev View.d (x : View) : List D := [.ow () 3 x.Items.length (rD x.Items)]
def View.ok (B : Nat) (x : View) : Prop := okL B x.Items
def View.sz (x : View) : Nat := szL x.Items
def View.mkE (x : View) (k : Int) : View := ⟨mkL x.Items (k)⟩
def View.ct (x : View) : Nat := 0 + ctL x.Items
def View.mkT (x : View) (k : Int) : View := ⟨mkL x.Items (k)⟩
def View.ctT (x : View) : Nat := ctL x.Items
theorem View_cl (x : View) : View.ct x ≤ 40 * (1 + View.sz x) := by have h0 := ctL_le x.Items; unfold View.ct View.sz; omega
theorem View_clT (x : View) : View.ctT x ≤ 40 * View.sz x := by have h0 := ctL_le x.Items; unfold View.ctT View.sz; omega
instance : Row View := ⟨1, View.r, View.d, fun _ => rfl, fun _ => rfl, fun x => by simp [toRTs, toRT], fun x => by simp [noRoL, noRo], by decide, View.ok, View.sz, View.mkE, View.ct, View_cl⟩
@[simp] theorem w_View : Row.w View = 1 := rfl
@[simp] theorem rR_len_View (l : List View) : (rR l).length = l.length * 1 := rR_len l
@[simp] theorem rD_len_View (l : List View) : (rD l).length = l.length * 1 := rD_len l
theorem rR_drop_View (l : List View) (i : Nat) (h : i < l.length) : (rR l).drop (i * 1) = View.r l[i] ++ rR (l.drop (i + 1)) := rR_drop l i h
theorem rD_drop_View (l : List View) (i : Nat) (h : i < l.length) : (rD l).drop (i * 1) = View.d l[i] ++ rD (l.drop (i + 1)) := rD_drop l i h
@[simp] theorem rR_take_View (l : List View) : (rR l).take (l.length * 1) = rR l := rR_take l
@[simp] theorem rD_take_View (l : List View) : (rD l).take (l.length * 1) = rD l := rD_take l
@[simp] theorem rD_takeM_View (l : List View) (k : Int) : (rD (mkL l k)).take (l.length * 1) = rD (mkL l k) := by have := rD_take (mkL l k); rwa [mkL_len] at this
theorem View_sz (x : View) : Row.sz x = szL x.Items := rfl
theorem View_ct (x : View) : Row.ct x = 0 + ctL x.Items := rfl
theorem View_mk (x : View) (k : Int) : Row.mkE x k = ⟨mkL x.Items (k)⟩ := rfl
theorem View_ok (B : Nat) (x : View) : Row.ok B x = (okL B x.Items) := rfl
def View.zero : View := ⟨[]⟩
abbrev raView (x : View) : PA := .agg [.r (.sl x.Items.length (rR x.Items))]
abbrev maView (x : View) : PA := .agg [mc x.Items]
structure Ask where
  Kind : Int
  Path : ByteArray
  To : ByteArray
  Off : Int
  Len : Int
  Text : ByteArray
abbrev Ask.r (x : Ask) : List RT := [.sc (.int .i64 x.Kind), .sc (.string x.Path), .sc (.string x.To), .sc (.int .i64 x.Off), .sc (.int .i64 x.Len), .sc (.string x.Text)]
abbrev Ask.d (x : Ask) : List D := [.sc (.int .i64 x.Kind), .sc (.string x.Path), .sc (.string x.To), .sc (.int .i64 x.Off), .sc (.int .i64 x.Len), .sc (.string x.Text)]
def Ask.ok (B : Nat) (x : Ask) : Prop := IntOk x.Kind ∧ x.Path.size ≤ B ∧ x.To.size ≤ B ∧ IntOk x.Off ∧ IntOk x.Len ∧ x.Text.size ≤ B
def Ask.sz (x : Ask) : Nat := x.Path.size + x.To.size + x.Text.size
def Ask.mkE (x : Ask) (k : Int) : Ask := ⟨k, mt (k + 1), mt (k + 2), k + 3, k + 4, mt (k + 5)⟩
def Ask.ct (x : Ask) : Nat := 6
def Ask.mkT (x : Ask) (k : Int) : Ask := ⟨x.Kind, x.Path, x.To, x.Off, x.Len, x.Text⟩
def Ask.ctT (x : Ask) : Nat := 0
theorem Ask_cl (x : Ask) : Ask.ct x ≤ 40 * (1 + Ask.sz x) := by unfold Ask.ct Ask.sz; omega
theorem Ask_clT (x : Ask) : Ask.ctT x ≤ 40 * Ask.sz x := by unfold Ask.ctT Ask.sz; omega
instance : Row Ask := ⟨6, Ask.r, Ask.d, fun _ => rfl, fun _ => rfl, fun x => by simp [toRTs, toRT], fun x => by simp [noRoL, noRo], by decide, Ask.ok, Ask.sz, Ask.mkE, Ask.ct, Ask_cl⟩
@[simp] theorem w_Ask : Row.w Ask = 6 := rfl
@[simp] theorem rR_len_Ask (l : List Ask) : (rR l).length = l.length * 6 := rR_len l
@[simp] theorem rD_len_Ask (l : List Ask) : (rD l).length = l.length * 6 := rD_len l
theorem rR_drop_Ask (l : List Ask) (i : Nat) (h : i < l.length) : (rR l).drop (i * 6) = Ask.r l[i] ++ rR (l.drop (i + 1)) := rR_drop l i h
theorem rD_drop_Ask (l : List Ask) (i : Nat) (h : i < l.length) : (rD l).drop (i * 6) = Ask.d l[i] ++ rD (l.drop (i + 1)) := rD_drop l i h
@[simp] theorem rR_take_Ask (l : List Ask) : (rR l).take (l.length * 6) = rR l := rR_take l
@[simp] theorem rD_take_Ask (l : List Ask) : (rD l).take (l.length * 6) = rD l := rD_take l
@[simp] theorem rD_takeM_Ask (l : List Ask) (k : Int) : (rD (mkL l k)).take (l.length * 6) = rD (mkL l k) := by have := rD_take (mkL l k); rwa [mkL_len] at this
@[simp] theorem rR_ro_Ask (l : List Ask) : (rR l).map roD = rD l := rR_ro_flat (fun _ => rfl) l
theorem Ask_sz (x : Ask) : Row.sz x = x.Path.size + x.To.size + x.Text.size := rfl
theorem Ask_ct (x : Ask) : Row.ct x = 6 := rfl
theorem Ask_mk (x : Ask) (k : Int) : Row.mkE x k = ⟨k, mt (k + 1), mt (k + 2), k + 3, k + 4, mt (k + 5)⟩ := rfl
theorem Ask_ok (B : Nat) (x : Ask) : Row.ok B x = (IntOk x.Kind ∧ x.Path.size ≤ B ∧ x.To.size ≤ B ∧ IntOk x.Off ∧ IntOk x.Len ∧ x.Text.size ≤ B) := rfl
def Ask.zero : Ask := ⟨0, ByteArray.empty, ByteArray.empty, 0, 0, ByteArray.empty⟩
abbrev raAsk (x : Ask) : PA := .agg [.r (.sc (.int .i64 x.Kind)), .r (.sc (.string x.Path)), .r (.sc (.string x.To)), .r (.sc (.int .i64 x.Off)), .r (.sc (.int .i64 x.Len)), .r (.sc (.string x.Text))]
abbrev maAsk (x : Ask) : PA := .agg [.r (.sc (.int .i64 x.Kind)), .r (.sc (.string x.Path)), .r (.sc (.string x.To)), .r (.sc (.int .i64 x.Off)), .r (.sc (.int .i64 x.Len)), .r (.sc (.string x.Text))]
structure Result where
  Code : Int
  Text : ByteArray
  Size : Int
  Dir : Bool
  Names : (List ByteArray)
abbrev Result.r (x : Result) : List RT := [.sc (.int .i64 x.Code), .sc (.string x.Text), .sc (.int .i64 x.Size), .sc (.bool x.Dir), .sl x.Names.length (rR x.Names)]
abbrev Result.d (x : Result) : List D := [.sc (.int .i64 x.Code), .sc (.string x.Text), .sc (.int .i64 x.Size), .sc (.bool x.Dir), .ow () 1 x.Names.length (rD x.Names)]
def Result.ok (B : Nat) (x : Result) : Prop := IntOk x.Code ∧ x.Text.size ≤ B ∧ IntOk x.Size ∧ okL B x.Names
def Result.sz (x : Result) : Nat := x.Text.size + szL x.Names
def Result.mkE (x : Result) (k : Int) : Result := ⟨k, mt (k + 1), k + 2, mb (k + 3), mkL x.Names (k + 4)⟩
def Result.ct (x : Result) : Nat := 4 + ctL x.Names
def Result.mkT (x : Result) (k : Int) : Result := ⟨x.Code, x.Text, x.Size, x.Dir, mkL x.Names (k)⟩
def Result.ctT (x : Result) : Nat := ctL x.Names
theorem Result_cl (x : Result) : Result.ct x ≤ 40 * (1 + Result.sz x) := by have h0 := ctL_le x.Names; unfold Result.ct Result.sz; omega
theorem Result_clT (x : Result) : Result.ctT x ≤ 40 * Result.sz x := by have h0 := ctL_le x.Names; unfold Result.ctT Result.sz; omega
instance : Row Result := ⟨5, Result.r, Result.d, fun _ => rfl, fun _ => rfl, fun x => by simp [toRTs, toRT], fun x => by simp [noRoL, noRo], by decide, Result.ok, Result.sz, Result.mkE, Result.ct, Result_cl⟩
@[simp] theorem w_Result : Row.w Result = 5 := rfl
@[simp] theorem rR_len_Result (l : List Result) : (rR l).length = l.length * 5 := rR_len l
@[simp] theorem rD_len_Result (l : List Result) : (rD l).length = l.length * 5 := rD_len l
theorem rR_drop_Result (l : List Result) (i : Nat) (h : i < l.length) : (rR l).drop (i * 5) = Result.r l[i] ++ rR (l.drop (i + 1)) := rR_drop l i h
theorem rD_drop_Result (l : List Result) (i : Nat) (h : i < l.length) : (rD l).drop (i * 5) = Result.d l[i] ++ rD (l.drop (i + 1)) := rD_drop l i h
@[simp] theorem rR_take_Result (l : List Result) : (rR l).take (l.length * 5) = rR l := rR_take l
@[simp] theorem rD_take_Result (l : List Result) : (rD l).take (l.length * 5) = rD l := rD_take l
@[simp] theorem rD_takeM_Result (l : List Result) (k : Int) : (rD (mkL l k)).take (l.length * 5) = rD (mkL l k) := by have := rD_take (mkL l k); rwa [mkL_len] at this
theorem Result_sz (x : Result) : Row.sz x = x.Text.size + szL x.Names := rfl
theorem Result_ct (x : Result) : Row.ct x = 4 + ctL x.Names := rfl
theorem Result_mk (x : Result) (k : Int) : Row.mkE x k = ⟨k, mt (k + 1), k + 2, mb (k + 3), mkL x.Names (k + 4)⟩ := rfl
theorem Result_ok (B : Nat) (x : Result) : Row.ok B x = (IntOk x.Code ∧ x.Text.size ≤ B ∧ IntOk x.Size ∧ okL B x.Names) := rfl
def Result.zero : Result := ⟨0, ByteArray.empty, 0, false, []⟩
abbrev raResult (x : Result) : PA := .agg [.r (.sc (.int .i64 x.Code)), .r (.sc (.string x.Text)), .r (.sc (.int .i64 x.Size)), .r (.sc (.bool x.Dir)), .r (.sl x.Names.length (rR x.Names))]
abbrev maResult (x : Result) : PA := .agg [.r (.sc (.int .i64 x.Code)), .r (.sc (.string x.Text)), .r (.sc (.int .i64 x.Size)), .r (.sc (.bool x.Dir)), mc x.Names]
end Go.Proofs.Ytciieaidbiejmaa.DM
