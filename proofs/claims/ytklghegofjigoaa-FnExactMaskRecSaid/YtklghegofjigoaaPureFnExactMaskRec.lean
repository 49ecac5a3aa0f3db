/-
  FnExactMaskRec: the pure part: what the law computes is true, whatever the input.
-/
import Derived.Test.YtklghegofjigoaaOpenFnExactMaskRec
import Derived.Test.YtklghegofjigoaaKit2
namespace Go.Proofs.Ytklghegofjigoaa.Pure
open Go.RowKit Go.Proofs.YtklghegofjigoaaW.PrintWords Go.Proofs.YtklghegofjigoaaW.PrintLast Go.Proofs.YtklghegofjigoaaW.PrintMore Go.Proofs.Ytklghegofjigoaa.QFnExactMaskRec Go.Proofs.Ytklghegofjigoaa.Kit
set_option linter.unusedVariables false
set_option linter.unusedSimpArgs false

theorem long_ev (n : Nat) (x : Int) (hn : n ≤ 1048576) : Ev (fun k => spec_l01Long.f k (n : Int) x) (strOfNums (List.replicate n x)) := by
  unfold spec_l01Long.f
  refine ev_pos (by omega) (ev_pos (by simp; omega) ?_)
  have hz : (List.replicate n x).length = n := by simp
  have key := fill_ev' (z := List.replicate n x) strOfNums (List.replicate n (0 : Int)) (by simp) (fun k y i => spec_l01Long.l0 k (n : Int) x y i) ?_ ?_
  · simpa using key
  · intro k y hy
    rw [hz]
    simp only [spec_l01Long.l0, if_neg (Int.lt_irrefl _)]
  · intro y i a hget hlt hy r ih
    rw [hz] at hlt hy
    have ha : a = x := by
      have := List.mem_of_getElem? hget
      exact List.eq_of_mem_replicate this
    subst ha
    have e : wrap64 ((i : Int) + 1) = (i : Int) + 1 := w64 (by omega) (by omega)
    refine ev_succ ?_
    simp only [spec_l01Long.l0, if_pos (show (i : Int) < (n : Int) by omega), if_pos (show (0 : Int) ≤ (i : Int) by omega), if_pos (show (i : Int) < (y.length : Int) by omega), Int.toNat_natCast, e]
    exact ih

def allz (a : ByteArray) (x : Int) : Bool := a.data.toList.all fun b => decide ((b.toNat : Int) = x)
theorem all_ok (a : ByteArray) (x : Int) (h : a.size ≤ 1048576) : Ev (fun k => spec_l26All.f k a x) (allz a x) := by
  unfold spec_l26All.f
  refine all_ev (xs := a.data.toList) (fun b => decide ((b.toNat : Int) = x)) (fun k i => spec_l26All.l0 k a x i) ?_ ?_
  · intro k
    rw [ba_size]
    simp only [spec_l26All.l0, if_neg (Int.lt_irrefl _)]
  · intro i b hget hlt
    rw [ba_size] at hlt
    have e : wrap64 ((i : Int) + 1) = (i : Int) + 1 := w64 (by omega) (by omega)
    have hb := bt_get hget
    refine ⟨fun hp r ih => ev_succ ?_, fun hp => ev_succ ?_⟩
    · simp only [decide_eq_true_eq] at hp
      simp only [spec_l26All.l0, if_pos (show (i : Int) < (a.size : Int) by omega), if_pos (show (0 : Int) ≤ (i : Int) by omega), hb, if_pos hp, e]
      exact ih
    · simp only [decide_eq_false_iff_not] at hp
      simp only [spec_l26All.l0, if_pos (show (i : Int) < (a.size : Int) by omega), if_pos (show (0 : Int) ≤ (i : Int) by omega), hb, if_neg hp]
      exact Ev.now _

def zw : ByteArray := (⟨#[]⟩ : ByteArray) ++ zeros 8
theorem zeroWord_ok : impl_zeroWord.f = some zw := by
  unfold impl_zeroWord.f impl_padded.f
  rw [if_pos ⟨by decide, by decide, by decide⟩]
  rfl
theorem zw_data : zw.data.toList = List.replicate 8 0 := by
  unfold zw zeros
  rw [ba_append]
  simp
theorem allz_zw (a : ByteArray) (h : a.size = 8) : (allz a 0 = true) ↔ a.toList = zw.toList := by
  rw [tl, tl, zw_data, List.eq_replicate_iff]
  unfold allz
  simp only [List.all_eq_true, decide_eq_true_eq]
  constructor
  · intro h1
    refine ⟨by rw [ba_size]; exact h, fun b hb => ?_⟩
    have := h1 b hb
    have h2 : b.toNat = 0 := by omega
    exact UInt8.toNat_inj.1 (by simpa using h2)
  · rintro ⟨-, h1⟩ b hb
    rw [h1 b hb]; rfl

theorem core (a : ByteArray) (h : a.size ≤ 1048576) : ∃ r, Ev (fun k => spec_MaskRec.f k a) r ∧ impl_MaskRec.f a = some r := by
  unfold spec_MaskRec.f impl_MaskRec.f
  by_cases h8 : (a.size : Int) = 8
  · simp only [if_pos h8, zeroWord_ok, Option.bind_some]
    have h8' : a.size = 8 := by omega
    have he : (a.extract 0 4).size = 4 := by simp [h8']
    by_cases hz : allz a 0 = true
    · refine ⟨a, Ev.bind (all_ok a 0 h) (ev_pos hz (Ev.now _)), ?_⟩
      rw [if_pos ((allz_zw a h8').1 hz)]
    · refine ⟨a.extract 0 4 ++ strOfNums (List.replicate 4 255), Ev.bind (all_ok a 0 h) (ev_neg hz ?_), ?_⟩
      · refine ev_pos (by omega) (ev_pos (by omega) (Ev.bind (long_ev 4 255 (by omega)) (ev_pos ?_ (Ev.now _))))
        rw [he, nums_size]; simp
      · rw [if_neg (fun e => hz ((allz_zw a h8').2 e)), if_pos (by omega), if_pos (by omega), if_pos (by rw [he]; omega)]
        rfl
  · simp only [if_neg h8]
    exact ⟨a, Ev.now _, rfl⟩
theorem FnExactMaskRec : Go.Proofs.Ytklghegofjigoaa.QFnExactMaskRec.Stated := by
  intro a0 y0
  unfold laws_FnExactMaskRec.f
  refine Ev.rounds ?_
  by_cases hc : (a0.size : Int) > 1048576
  · exact ev_pos hc (Ev.now _)
  · refine ev_neg hc ?_
    obtain ⟨r, h1, h2⟩ := core a0 (by omega)
    refine Ev.bind h1 (Ev.bind (ev_some (a := r) fun _ => h2) ?_)
    exact ev_pos rfl (Ev.now _)
end Go.Proofs.Ytklghegofjigoaa.Pure
