/-
  Numbers and bytes as text: plain lists.
-/
import Derived.Test.YtciieaidbiejmaaFData
import Derived.Test.YtciieaidbiejmaaDD
import Derived.Lib.ItoaNum
import Derived.Lib.HexFns
namespace Go.Proofs.Ytciieaidbiejmaa.DM
set_option linter.unusedVariables false
set_option linter.unusedSimpArgs false
set_option maxRecDepth 4000
def inB (x lo hi : Int) : Bool := decide (lo ≤ x) && decide (x ≤ hi)
theorem inB_iff {x a b : Int} : inB x a b = true ↔ a ≤ x ∧ x ≤ b := by simp [inB]
@[simp] def rFn (f : Nat) : PA := .one (.r (.fn f []))
def decB (n : Int) : ByteArray := ⟨(Lib.itoa n).toArray⟩
def hexL (l : List UInt8) : List UInt8 := Lib.Hx.encode l
def hexB (s : ByteArray) : ByteArray := ⟨(hexL s.data.toList).toArray⟩
theorem digit_nat : ∀ k, k < 16 → (Lib.Hx.digit k).toNat = if k < 10 then 48 + k else 87 + k := by decide
theorem digit_dec : ∀ k, k < 10 → UInt8.ofNat (48 + k) = Lib.Hx.digit k := by decide
theorem ba_cons (c : UInt8) (l : List UInt8) : ((⟨[c].toArray⟩ : ByteArray) ++ ⟨l.toArray⟩) = ⟨(c :: l).toArray⟩ := by
  apply ByteArray.ext
  simp [ByteArray.data_append]
theorem ba_app (k l : List UInt8) : ((⟨k.toArray⟩ : ByteArray) ++ ⟨l.toArray⟩) = ⟨(k ++ l).toArray⟩ := by
  apply ByteArray.ext
  simp [ByteArray.data_append]
@[simp] theorem s1 (c : UInt8) : (⟨#[c]⟩ : ByteArray).size = 1 := rfl
@[simp] theorem ba_size (l : List UInt8) : (⟨l.toArray⟩ : ByteArray).size = l.length := by simp [ByteArray.size]
theorem ba_beq (x y : ByteArray) : (x == y) = decide (x = y) := by
  cases x with | mk a => cases y with | mk b =>
  show (a == b) = _
  by_cases h : a = b
  · subst h; simp
  · have h2 : ¬ (ByteArray.mk a = ByteArray.mk b) := fun e => h (by injection e)
    simp [h2, h]
theorem all_take_succ {α : Type} (p : α → Bool) (l : List α) (i : Nat) (h : i < l.length) : (l.take (i + 1)).all p = ((l.take i).all p && p l[i]) := by
  rw [List.take_succ_eq_append_getElem h, List.all_append]; simp
theorem ba_nil {b : ByteArray} : b.toList = [] ↔ b = ByteArray.empty := by
  rw [ByteArray.toList_eq]
  constructor
  · intro h; cases b with | mk a => simp at h; subst h; rfl
  · rintro rfl; rfl
theorem td0 {x : Int} (h : x < 0) : x.tdiv 10 ≤ 0 := by
  have h8 : 0 ≤ (-x).tdiv 10 := Int.tdiv_nonneg (by omega) (by omega)
  rw [Int.neg_tdiv] at h8; omega
theorem td1 {x : Int} (h : 0 ≤ x) : 0 ≤ x.tdiv 10 := Int.tdiv_nonneg (by omega) (by omega)
def tailD (m : Nat) : List UInt8 := if m = 0 then [] else Lib.decDigits m
theorem tailD_step {m : Nat} (h : m ≠ 0) : tailD m = tailD (m / 10) ++ [Lib.Hx.digit (m % 10)] := by
  unfold tailD
  rw [if_neg h, Lib.decDigits]
  by_cases hs : m < 10
  · rw [dif_pos hs, if_pos (by omega), digit_dec m hs, Nat.mod_eq_of_lt hs]; rfl
  · rw [dif_neg hs, if_neg (by omega), digit_dec _ (by omega)]
theorem decDigits_len : ∀ (k u : Nat), u < 10 ^ (k + 1) → (Lib.decDigits u).length ≤ k + 1
  | k, u, h => by
    rw [Lib.decDigits]
    split
    · simp
    · rename_i hs
      rcases k with _ | k
      · simp at h; omega
      · have := decDigits_len k (u / 10) (by rw [Nat.pow_succ] at h; omega)
        simp; omega
theorem itoa_len (n : Int) (h0 : -9223372036854775808 ≤ n) (h1 : n < 9223372036854775808) : (Lib.itoa n).length ≤ 20 := by
  unfold Lib.itoa
  split
  · have := decDigits_len 18 n.natAbs (by omega); simp; omega
  · have := decDigits_len 18 n.toNat (by omega); omega
theorem decB_size (n : Int) (h0 : -9223372036854775808 ≤ n) (h1 : n < 9223372036854775808) : (decB n).size ≤ 20 := by
  rw [decB, ba_size]; exact itoa_len n h0 h1
theorem hexL_len (l : List UInt8) : (hexL l).length = 2 * l.length := Lib.Hx.encode_length l
theorem hexB_size (s : ByteArray) : (hexB s).size = 2 * s.size := by
  rw [hexB, ba_size, hexL_len]; rfl
theorem hexL_append (k l : List UInt8) : hexL (k ++ l) = hexL k ++ hexL l := by simp [hexL, Lib.Hx.encode]
theorem hexL_succ (l : List UInt8) (i : Nat) (h : i < l.length) : hexL (l.take (i + 1)) = hexL (l.take i) ++ [Lib.Hx.digit (l[i].toNat / 16), Lib.Hx.digit (l[i].toNat % 16)] := by
  rw [List.take_succ_eq_append_getElem h, hexL_append]; simp [hexL, Lib.Hx.encode]
/-- Where the loop of the reference's Decimal stands. -/
def DecI (n x : Int) (l : List UInt8) : Prop := ((0 < x → 0 < n) ∧ (x < 0 → n < 0)) ∧ (-9223372036854775808 ≤ x ∧ x < 9223372036854775808) ∧ tailD x.natAbs ++ l = tailD n.natAbs
theorem DecI.step {n x : Int} {l : List UInt8} (h : DecI n x l) (hx : x ≠ 0) : DecI n (x.tdiv 10) (Lib.Hx.digit (x.natAbs % 10) :: l) := by
  obtain ⟨⟨h1, h2⟩, ⟨h3, h4⟩, h5⟩ := h
  have hn : (x.tdiv 10).natAbs = x.natAbs / 10 := by rw [Int.natAbs_tdiv]; rfl
  refine ⟨⟨fun h => h1 ?_, fun h => h2 ?_⟩, ⟨by omega, by omega⟩, ?_⟩
  · rcases Int.lt_trichotomy x 0 with hh | hh | hh
    · have := td0 hh; omega
    · exact absurd hh hx
    · exact hh
  · rcases Int.lt_trichotomy x 0 with hh | hh | hh
    · exact hh
    · exact absurd hh hx
    · have := td1 (x := x) (by omega); omega
  · rw [hn, ← h5, tailD_step (m := x.natAbs) (by omega)]; simp
theorem DecI.fin {n x : Int} {l : List UInt8} (h : DecI n x l) (hx : x = 0) : l = tailD n.natAbs := by
  have := h.2.2; subst hx; simpa [tailD] using this
theorem DecI.len {n x : Int} {l : List UInt8} (h : DecI n x l) (h0 : -9223372036854775808 ≤ n) (h1 : n < 9223372036854775808) : l.length ≤ 19 := by
  have h5 := congrArg List.length h.2.2
  rw [List.length_append] at h5
  have h6 : (tailD n.natAbs).length ≤ 19 := by
    unfold tailD
    split
    · simp
    · exact decDigits_len 18 n.natAbs (by omega)
  omega
theorem decB_fin {n : Int} (hn : n ≠ 0) : decB n = if n < 0 then ⟨(45 :: tailD n.natAbs).toArray⟩ else ⟨(tailD n.natAbs).toArray⟩ := by
  unfold decB Lib.itoa tailD
  have e : n.natAbs ≠ 0 := by omega
  rw [if_neg e]
  split
  · rfl
  · have : n.toNat = n.natAbs := by omega
    rw [this]
theorem rem10 (x : Int) : (if x.tmod 10 < 0 then 0 - x.tmod 10 else x.tmod 10) = ((x.natAbs % 10 : Nat) : Int) := by
  have h := Int.natAbs_tmod x 10
  have h2 : (x.tmod 10).natAbs = x.natAbs % 10 := h
  split <;> omega
/-- bytes in a row. -/
def bytesR (l : List UInt8) : List D := l.map byteD
@[simp] theorem bytesR_len (l : List UInt8) : (bytesR l).length = l.length := List.length_map _
theorem bytesR_zero (n : Nat) : List.replicate n (T.sc (.int .u8 0) : D) = bytesR (List.replicate n 0) := by simp [bytesR]
theorem bytesR_eq (l : List UInt8) : bytesR l = l.map (fun c => T.sc (.int .u8 c.toNat)) := rfl
theorem bytesR_snoc (l : List UInt8) (b : UInt8) : bytesR l ++ [T.sc (.int .u8 b.toNat)] = bytesR (l ++ [b]) := by simp [bytesR]
theorem bytesR_set (l : List UInt8) (i : Nat) (b : UInt8) : (bytesR l).set i (.sc (.int .u8 b.toNat)) = bytesR (l.set i b) := by simp [bytesR, List.map_set]
@[simp] theorem bytesR_flat (l : List UInt8) : (bytesR l).all flatD = true := by simp [bytesR, List.all_map, List.all_eq_true]
@[simp] theorem bytesR_take (l : List UInt8) (n : Nat) : (bytesR l).take n = bytesR (l.take n) := by simp [bytesR, List.map_take]
@[simp] theorem bytesR_drop (l : List UInt8) (n : Nat) : (bytesR l).drop n = bytesR (l.drop n) := by simp [bytesR, List.map_drop]
@[simp] theorem bytesR_at (l : List UInt8) (i : Nat) (h : i < (bytesR l).length) : (bytesR l)[i] = .sc (.int .u8 (l[i]'(by simpa using h)).toNat) := by simp [bytesR]
theorem bytesR_get (l : List UInt8) (i : Nat) (h : i < l.length) : (bytesR l)[i]? = some (.sc (.int .u8 (l[i]).toNat)) := by simp [bytesR, h]
theorem OpStep.rowStr {P : Program} {nt : Nat} {s : FS} {o : Oper} {src dst e : TypeId} {x : Operand} {d n : Nat} {l : List UInt8} {s' : FS} {f : DC → DC} (ho : o.op = .convert src dst x) (hd : o.dst = some d) (hdn : d < nt) (hs : P.underlying src = some (.slice e)) (hds : P.underlying dst = some .string) (he : P.underlying e = some (.int .u8))
    (hx : rowLen (ev s.e x) = some n) (hsrc : srcCells s (ev s.e x) 1 = some (n, bytesR l, s', f)) : OpStep P nt o s ⟨upd s.e d (.v (.one (.t (.sc (.string ⟨l.toArray⟩))))), s.h, s.g⟩ := OpStep.bytesStr ho hd hdn hs hds he hx hsrc
theorem ba_get (s : ByteArray) (i : Nat) (h : i < s.data.toList.length) : s[i]? = some s.data.toList[i] := by
  have h' : i < s.size := by simpa using h
  rw [getElem?_pos s i h']; rfl
theorem ba_len (s : ByteArray) : s.data.toList.length = s.size := by simp
/-- Text of operations and actions. -/
def plainC (c : UInt8) : Bool := inB c.toNat 33 126
def plainP (s : ByteArray) : Bool := s.data.toList.all plainC && inB s.size 1 100
def askOkB (a : Ask) : Bool := inB a.Kind 1 11 && decide ((a.Text.size : Int) ≤ 200)
def toldA (a : Ask) : Ask := if a.Kind = 5 then ⟨a.Kind, a.Path, a.To, 0, 0, ByteArray.empty⟩ else if a.Kind = 6 then ⟨a.Kind, a.Path, ByteArray.empty, a.Off, a.Len, ByteArray.empty⟩ else if a.Kind = 7 then ⟨a.Kind, a.Path, ByteArray.empty, a.Off, 0, a.Text⟩ else if a.Kind = 8 then ⟨a.Kind, a.Path, ByteArray.empty, 0, a.Len, ByteArray.empty⟩ else ⟨a.Kind, a.Path, ByteArray.empty, 0, 0, ByteArray.empty⟩
abbrev askV (a : Ask) : List Value := [.int .i64 a.Kind, .string a.Path, .string a.To, .int .i64 a.Off, .int .i64 a.Len, .string a.Text]
def eqA (a b : Ask) : Bool := a.Kind == b.Kind && (a.Path == b.Path && (a.To == b.To && (a.Off == b.Off && (a.Len == b.Len && (a.Text == b.Text && true)))))
def askW : List ByteArray := [⟨#[]⟩, ⟨#[99, 114, 101, 97, 116, 101]⟩, ⟨#[109, 107, 100, 105, 114]⟩, ⟨#[117, 110, 108, 105, 110, 107]⟩, ⟨#[114, 109, 100, 105, 114]⟩, ⟨#[114, 101, 110, 97, 109, 101]⟩, ⟨#[114, 101, 97, 100]⟩, ⟨#[119, 114, 105, 116, 101]⟩, ⟨#[116, 114, 117, 110, 99, 97, 116, 101]⟩, ⟨#[115, 116, 97, 116]⟩, ⟨#[108, 105, 115, 116]⟩, ⟨#[115, 121, 110, 99]⟩]
@[simp] theorem askW_len : askW.length = 12 := rfl
def wordAt (k : Int) : ByteArray := askW[k.toNat]?.getD ByteArray.empty
def dashB (s : ByteArray) : ByteArray := if hexB s = ByteArray.empty then ⟨#[45]⟩ else hexB s
def askTail (a : Ask) : ByteArray := if a.Kind = 5 then ⟨#[32]⟩ ++ a.To else if a.Kind = 6 then ⟨#[32]⟩ ++ (decB a.Off ++ (⟨#[32]⟩ ++ decB a.Len)) else if a.Kind = 7 then ⟨#[32]⟩ ++ (decB a.Off ++ (⟨#[32]⟩ ++ dashB a.Text)) else if a.Kind = 8 then ⟨#[32]⟩ ++ decB a.Len else ByteArray.empty
def askLine (a : Ask) : ByteArray := if askOkB a = true ∧ eqA (toldA a) a = true ∧ plainP a.Path = true ∧ (a.Kind = 5 → plainP a.To = true) ∧ inB a.Off 0 1000000000 = true ∧ inB a.Len 0 1000000000 = true then wordAt a.Kind ++ (⟨#[32]⟩ ++ (a.Path ++ askTail a)) else ByteArray.empty
theorem eqA_iff {a b : Ask} : eqA a b = true ↔ a = b := by
  cases a; cases b
  simp [eqA, ba_beq]
theorem word_get (k : Int) (h0 : 1 ≤ k) (h1 : k ≤ 11) : (rD askW)[k.toNat]? = some (T.sc (.string (wordAt k))) ∧ (wordAt k).size ≤ 8 := by
  have : k = 1 ∨ k = 2 ∨ k = 3 ∨ k = 4 ∨ k = 5 ∨ k = 6 ∨ k = 7 ∨ k = 8 ∨ k = 9 ∨ k = 10 ∨ k = 11 := by omega
  rcases this with rfl | rfl | rfl | rfl | rfl | rfl | rfl | rfl | rfl | rfl | rfl <;> exact ⟨rfl, by decide⟩
theorem dashB_size (s : ByteArray) : (dashB s).size ≤ 2 * s.size + 1 := by
  unfold dashB
  split
  · show 1 ≤ _; omega
  · rw [hexB_size]; omega
end Go.Proofs.Ytciieaidbiejmaa.DM
