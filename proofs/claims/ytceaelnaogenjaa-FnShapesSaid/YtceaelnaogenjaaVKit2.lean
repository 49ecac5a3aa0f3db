/-
  KIT2. Plain lemmas on bytes, filled lists and loops that ask one question of each element. No Go, no memory. Written for this claim by the session's own generator (wip/gen).
-/
import Derived.Test.YtceaelnaogenjaaVKit
import Derived.Test.YtceaelnaogenjaaVMore
import Derived.Lib.Bytealg
namespace Go.Proofs.Ytceaelnaogenjaa.Kit
open Go.RowKit Go.Proofs.YtceaelnaogenjaaW.PrintWords Go.Proofs.YtceaelnaogenjaaW.PrintMore
set_option linter.unusedVariables false
set_option linter.unusedSimpArgs false

/-! ### bytes -/
theorem tl (a : ByteArray) : a.toList = a.data.toList := Go.ByteArray.toList_eq a
theorem ba_ext {a b : ByteArray} (h : a.data.toList = b.data.toList) : a = b := by
  cases a; cases b
  congr 1
  exact Array.toList_inj.1 h
theorem tl_inj {a b : ByteArray} : a.toList = b.toList ↔ a = b := by
  rw [tl, tl]
  exact ⟨ba_ext, fun h => by rw [h]⟩
theorem ba_append (a b : ByteArray) : (a ++ b).data.toList = a.data.toList ++ b.data.toList := by
  rw [ByteArray.data_append, Array.toList_append]
theorem ba_size (a : ByteArray) : a.data.toList.length = a.size := by
  show a.data.toList.length = a.data.size
  rw [Array.length_toList]
theorem nums_data (xs : List Int) : (strOfNums xs).data.toList = xs.map fun n => UInt8.ofNat n.toNat := by simp [strOfNums]
theorem nums_size (xs : List Int) : (strOfNums xs).size = xs.length := by simp [strOfNums, ByteArray.size]
theorem bt_get {a : ByteArray} {i : Nat} {b : UInt8} (h : a.data.toList[i]? = some b) : bt a (i : Int) = (b.toNat : Int) := by
  have hlt : i < a.size := by
    have := (List.getElem?_eq_some_iff.1 h).1
    rwa [ba_size] at this
  unfold bt
  rw [dif_pos (by simpa using hlt)]
  have : a.data.toList[i]'(by rw [ba_size]; exact hlt) = b := (List.getElem?_eq_some_iff.1 h).2
  rw [← this]
  rfl

/-! ### loops that ask -/
theorem all_ev {α : Type} {xs : List α} (p : α → Bool) (g : Nat → Int → Option Bool)
    (hnil : ∀ k, g (k + 1) (xs.length : Int) = some true)
    (hcons : ∀ (i : Nat) a, xs[i]? = some a → i < xs.length → (p a = true → ∀ r, Ev (fun k => g k ((i : Int) + 1)) r → Ev (fun k => g k (i : Int)) r) ∧ (p a = false → Ev (fun k => g k (i : Int)) false)) :
    Ev (fun k => g k 0) (xs.all p) := by
  refine loop (xs := xs) (fun k (_ : Unit) i => g k i) (fun _ rest => rest.all p) (fun _ _ _ => True) ?_ ?_ () trivial
  · intro _ _
    exact ev_succ (ev_some fun k => hnil k)
  · intro _ i a rest hd hlt hget _ ih
    obtain ⟨h1, h2⟩ := hcons i a hget hlt
    cases he : p a with
    | true => simpa [he] using h1 he _ (ih () trivial)
    | false => simpa [he] using h2 he
/-- A loop that fills a list, element by element, with what a list of the same length holds. -/
theorem fill_ev {α : Type} {z : List α} (y0 : List α) (hy : y0.length = z.length) (g : Nat → List α → Int → Option (List α))
    (hnil : ∀ k y, y.length = z.length → g (k + 1) y (z.length : Int) = some y)
    (hcons : ∀ (y : List α) (i : Nat) a, z[i]? = some a → i < z.length → y.length = z.length → ∀ r, Ev (fun k => g k (y.set i a) ((i : Int) + 1)) r → Ev (fun k => g k y (i : Int)) r) :
    Ev (fun k => g k y0 0) z := by
  have key := loop (xs := z) g (fun y rest => y.take (z.length - rest.length) ++ rest) (fun y i rest => y.length = z.length ∧ i + rest.length = z.length) ?_ ?_ y0 ⟨hy, by simp⟩
  · simpa using key
  · intro y ⟨h1, _⟩
    refine ev_succ (ev_some fun k => ?_)
    rw [hnil k y h1]
    simp [← h1]
  · intro y i a rest hd hlt hget ⟨h1, h2⟩ ih
    have h2' : i + 1 + rest.length = z.length := by simp only [List.length_cons] at h2; omega
    refine hcons y i a hget hlt h1 _ (ev_eq (ih (y.set i a) ⟨by simpa using h1, h2'⟩) ?_)
    have e1 : z.length - rest.length = i + 1 := by omega
    have e2 : z.length - (a :: rest).length = i := by simp only [List.length_cons]; omega
    simp only [e1, e2]
    rw [set_take_succ (by omega)]
    simp
theorem ev_map {α β : Type} {g : Nat → Option α} {r : α} (f : α → β) (h : Ev g r) : Ev (fun k => (g k).map f) (f r) := by
  obtain ⟨K, h⟩ := h
  exact ⟨K, fun k hk => by simp [h k hk]⟩
/-- The same, where the loop ends in a value made of the list. -/
theorem fill_ev' {α β : Type} {z : List α} (fin : List α → β) (y0 : List α) (hy : y0.length = z.length) (g : Nat → List α → Int → Option β)
    (hnil : ∀ k y, y.length = z.length → g (k + 1) y (z.length : Int) = some (fin y))
    (hcons : ∀ (y : List α) (i : Nat) a, z[i]? = some a → i < z.length → y.length = z.length → ∀ r, Ev (fun k => g k (y.set i a) ((i : Int) + 1)) r → Ev (fun k => g k y (i : Int)) r) :
    Ev (fun k => g k y0 0) (fin z) := by
  have key := loop (xs := z) g (fun y rest => fin (y.take (z.length - rest.length) ++ rest)) (fun y i rest => y.length = z.length ∧ i + rest.length = z.length) ?_ ?_ y0 ⟨hy, by simp⟩
  · simpa using key
  · intro y ⟨h1, _⟩
    refine ev_succ (ev_some fun k => ?_)
    rw [hnil k y h1]
    simp [← h1]
  · intro y i a rest hd hlt hget ⟨h1, h2⟩ ih
    have h2' : i + 1 + rest.length = z.length := by simp only [List.length_cons] at h2; omega
    refine hcons y i a hget hlt h1 _ (ev_eq (ih (y.set i a) ⟨by simpa using h1, h2'⟩) ?_)
    have e1 : z.length - rest.length = i + 1 := by omega
    have e2 : z.length - (a :: rest).length = i := by simp only [List.length_cons]; omega
    simp only [e1, e2]
    rw [set_take_succ (by omega)]
    simp

/-! ### a number's bytes, the most significant first -/
def dg (n : Int) : Nat → List Int
  | 0 => []
  | m + 1 => (n / 2 ^ (8 * m)) % 256 :: dg n m
theorem dg_length (n : Int) : ∀ m, (dg n m).length = m
  | 0 => rfl
  | m + 1 => by simp [dg, dg_length n m]
theorem dg_get (n : Int) : ∀ (m i : Nat), i < m → (dg n m)[i]? = some ((n / 2 ^ (8 * (m - 1 - i))) % 256)
  | 0, i, h => by omega
  | m + 1, 0, h => by simp [dg]
  | m + 1, i + 1, h => by
    simp only [dg, List.getElem?_cons_succ]
    rw [dg_get n m i (by omega)]
    congr 5
    omega
theorem shr_i64 (n : Int) (m : Nat) (h : m ≤ 7) : shr .i64 n (8 * (m : Int)) = n / 2 ^ (8 * m) := by
  unfold shr
  have : min ((8 * (m : Int)).toNat) (IntKind.bits .i64) = 8 * m := by
    have e : (8 * (m : Int)).toNat = 8 * m := by omega
    rw [e]
    show min (8 * m) 64 = 8 * m
    omega
  rw [this]
theorem wrapu {x : Int} (h1 : 0 ≤ x) (h2 : x < 18446744073709551616) : IntKind.u64.wrap x = x := by
  simp only [IntKind.wrap, IntKind.signed, IntKind.bits]
  simp
  omega
end Go.Proofs.Ytceaelnaogenjaa.Kit
