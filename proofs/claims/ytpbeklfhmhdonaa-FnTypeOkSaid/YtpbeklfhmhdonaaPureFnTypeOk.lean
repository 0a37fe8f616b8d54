/- A drawn list is its kind's just if it is as long as that, holds 0 and 1 alone and, for the kind of one 1, one 1. No condition. -/
import Derived.Test.YtpbeklfhmhdonaaUDraw
import Derived.Test.YtpbeklfhmhdonaaPx10
namespace Go.Proofs.Ytpbeklfhmhdonaa.Pure
open Go.RowKit Go.Proofs.Ytpbeklfhmhdonaa.P Go.Proofs.Ytpbeklfhmhdonaa.Num Go.Proofs.YtpbeklfhmhdonaaW.PrintWords Go.Proofs.YtpbeklfhmhdonaaW.PrintLast
set_option linter.unusedSimpArgs false
set_option linter.unusedVariables false

theorem flag_no (a : Int) (l : List Int) (b : Bool) (hl : l.length ≤ 5) (d : Nat) : ∀ (i : Nat) (s : Int), i + d = l.length → Ev (fun k => laws_FnTypeOk.l0 k a l b false s (i : Int)) (b == false) := by
  induction d with
  | zero =>
    intro i s hi
    refine ⟨1, fun k hk => ?_⟩
    obtain ⟨k, rfl⟩ : ∃ m, k = m + 1 := ⟨k - 1, by omega⟩
    simp only [laws_FnTypeOk.l0]
    rw [if_neg (by omega), if_neg (by simp)]
  | succ d ih =>
    intro i s hi
    have hil : i < l.length := by omega
    obtain ⟨K1, h1⟩ := ih (i + 1) s (by omega)
    obtain ⟨K2, h2⟩ := ih (i + 1) (wrap64 (s + rd l (i : Int))) (by omega)
    dsimp only at h1 h2
    refine ⟨K1 + K2 + 1, fun k hk => ?_⟩
    obtain ⟨k, rfl⟩ : ∃ m, k = m + 1 := ⟨k - 1, by omega⟩
    simp only [laws_FnTypeOk.l0]
    rw [if_pos (by omega), if_neg (by simp), if_pos (by omega), w64 (n := (i : Int) + 1) (by omega)]
    rw [show ((i : Int) + 1) = ((i + 1 : Nat) : Int) by omega, h1 k (by omega), h2 k (by omega)]
    (repeat' split) <;> rfl
def bits01 (l : List Int) : Bool := l.all fun x => decide (x = 0 ∨ x = 1)
def flagged (a : Int) (b : Bool) (s : Int) (l : List Int) : Bool := if bits01 l then (if a = 2 then b == (s + l.sum == 1) else b == true) else b == false
theorem flag_yes (a : Int) (l : List Int) (b : Bool) (hl : l.length ≤ 5) (d : Nat) : ∀ (i : Nat) (s : Int), i + d = l.length → 0 ≤ s ∧ s ≤ (i : Int) → Ev (fun k => laws_FnTypeOk.l0 k a l b true s (i : Int)) (flagged a b s (l.drop i)) := by
  induction d with
  | zero =>
    intro i s hi hs
    refine ⟨1, fun k hk => ?_⟩
    obtain ⟨k, rfl⟩ : ∃ m, k = m + 1 := ⟨k - 1, by omega⟩
    simp only [laws_FnTypeOk.l0]
    rw [if_neg (by omega), if_pos trivial, List.drop_of_length_le (by omega)]
    unfold flagged bits01
    by_cases e : a = 2
    · simp [e]
    · simp [e]
  | succ d ih =>
    intro i s hi hs
    have hil : i < l.length := by omega
    have hd := List.drop_eq_getElem_cons hil
    by_cases h0 : l[i] = 0
    · obtain ⟨K, h⟩ := ih (i + 1) s (by omega) (by omega)
      refine ⟨K + 1, fun k hk => ?_⟩
      obtain ⟨k, rfl⟩ : ∃ m, k = m + 1 := ⟨k - 1, by omega⟩
      simp only [laws_FnTypeOk.l0]
      rw [if_pos (by omega), if_pos trivial, if_pos (by omega), rd_lt hil, if_pos h0, if_neg (by omega), w64 (by omega)]
      refine (h k (by omega)).trans ?_
      rw [hd, h0]; unfold flagged bits01; simp
    by_cases h1 : l[i] = 1
    · obtain ⟨K, h⟩ := ih (i + 1) (s + 1) (by omega) (by omega)
      refine ⟨K + 1, fun k hk => ?_⟩
      obtain ⟨k, rfl⟩ : ∃ m, k = m + 1 := ⟨k - 1, by omega⟩
      simp only [laws_FnTypeOk.l0]
      rw [if_pos (by omega), if_pos trivial, if_pos (by omega), rd_lt hil, if_neg h0, if_pos (by omega), if_pos (by omega), h1, w64 (n := s + 1) (by omega), w64 (by omega)]
      refine (h k (by omega)).trans ?_
      rw [hd, h1]; unfold flagged bits01; simp [Int.add_assoc]
    · have hb : (l[i] == 1) = false := by rw [beq_eq_false_iff_ne]; exact h1
      obtain ⟨K1, e1⟩ := flag_no a l b hl d (i + 1) s (by omega)
      obtain ⟨K2, e2⟩ := flag_no a l b hl d (i + 1) (wrap64 (s + l[i])) (by omega)
      dsimp only at e1 e2
      refine ⟨K1 + K2 + 1, fun k hk => ?_⟩
      obtain ⟨k, rfl⟩ : ∃ m, k = m + 1 := ⟨k - 1, by omega⟩
      simp only [laws_FnTypeOk.l0]
      rw [if_pos (by omega), if_pos trivial, if_pos (by omega), rd_lt hil, if_neg h0, hb, w64 (n := (i : Int) + 1) (by omega)]
      rw [show ((i : Int) + 1) = ((i + 1 : Nat) : Int) by omega, e1 k (by omega), e2 k (by omega)]
      have : flagged a b s (l.drop i) = (b == false) := by
        unfold flagged bits01; rw [hd, List.all_cons, decide_eq_false (by omega)]; simp
      rw [this]
      (repeat' split) <;> rfl
theorem flag_right {a : Int} {l : List Int} (h : kindI a = true) (hl : (l.length : Int) = lenI a) : flagged a (valR a l).2 0 l = true := by
  rw [valR_ok, mem_encs]
  have hr := lenI_rng a
  have hle : l.length ≤ 20 := by omega
  unfold flagged
  cases hb : bits01 l
  · rw [if_neg (by simp)]
    have : (vecI a l && okL a l) = false := by
      cases q : (vecI a l && okL a l)
      · rfl
      · simp only [Bool.and_eq_true] at q
        obtain ⟨q1, q2⟩ := q
        have hs : allOk l = true := by unfold vecI at q1; simp at q1; exact (shareOk_iff.1 q1.1.2).1
        have q3 : l.all (fun x => decide (x ≤ 1)) = true := by unfold okL at q2; simp only [Bool.and_eq_true] at q2; exact q2.1
        have : bits01 l = true := by
          unfold bits01; rw [List.all_eq_true]; intro x hx
          have b1 := okF_iff.1 (allOk_iff.1 hs x hx)
          have b2 := List.all_eq_true.1 q3 x hx
          simp only [decide_eq_true_eq] at b2 ⊢; omega
        rw [hb] at this; cases this
    rw [this]; rfl
  · rw [if_pos rfl]
    have hx : ∀ x ∈ l, x = 0 ∨ x = 1 := fun x hx => by simpa using List.all_eq_true.1 hb x hx
    have hs : allOk l = true := allOk_iff.2 fun x h => okF_iff.2 (by rcases hx x h with rfl | rfl <;> omega)
    have hv : vecI a l = true := by unfold vecI; rw [h, decide_eq_true hl, shareOk_iff.2 ⟨hs, hle⟩]; rfl
    have hall : l.all (fun x => decide (x ≤ 1)) = true := by rw [List.all_eq_true]; intro x h; rcases hx x h with rfl | rfl <;> rfl
    rw [hv]; unfold okL; rw [hall]
    by_cases e : a = 2
    · rw [if_pos e, if_pos e]; simp
    · rw [if_neg e, if_neg e]; rfl
theorem not_vec {a : Int} {l : List Int} (h : ¬ (kindI a = true ∧ (l.length : Int) = lenI a)) : (valR a l).2 = false := by
  rw [valR_ok, mem_encs]
  have : vecI a l = false := by
    cases q : vecI a l
    · rfl
    · unfold vecI at q; simp at q; exact absurd ⟨q.1.1, q.2⟩ h
  rw [this]; rfl
theorem FnTypeOk : laws_FnTypeOk.Pure := by
  intro l _ _ hb
  unfold laws_FnTypeOk.f
  by_cases h : (l.length : Int) > 1048576
  · exact ⟨1, by rw [if_pos h]⟩
  obtain ⟨a, c, ⟨K1, e1⟩, a1, a2, hc⟩ := drawTypeOk_ev (bytes_of hb)
  obtain ⟨K2, e2⟩ := iTypeOk a c
  obtain ⟨K3, e3⟩ := sTypeOk a c (by omega)
  obtain ⟨K4, e4⟩ := flag_no a c (valR a c).2 hc c.length 0 0 (by omega)
  obtain ⟨K5, e5⟩ := flag_yes a c (valR a c).2 hc c.length 0 0 (by omega) (by omega)
  dsimp only at e1 e2 e3 e4 e5
  refine ⟨K1 + K2 + K3 + K4 + K5 + 1, ?_⟩
  rw [if_neg h, e1 _ (by omega)]
  simp only [Option.bind_some]
  rw [e2 _ (by omega), e3 _ (by omega)]
  simp only [Option.bind_some, bne_self_eq_false, Bool.false_eq_true, if_false, impl_TypeLen.f]
  have hr := lenI_rng a
  cases hk : kindI a
  · have h0 := lenI_kind hk
    rw [if_neg (by omega), laws_FnTypeOk.j0]
    refine (e4 _ (by omega)).trans ?_
    rw [not_vec (by rw [hk]; simp)]; rfl
  · have hpos : lenI a > 0 := by rcases kindI_iff.1 hk with rfl | rfl | rfl <;> decide
    rw [if_pos hpos, laws_FnTypeOk.j0]
    by_cases hl : (c.length : Int) = lenI a
    · rw [beq_iff_eq.2 hl]
      refine (e5 _ (by omega)).trans ?_
      rw [List.drop_zero, flag_right hk hl]
    · rw [beq_eq_false_iff_ne.2 hl]
      refine (e4 _ (by omega)).trans ?_
      rw [not_vec (fun q => hl q.2)]; rfl

end Go.Proofs.Ytpbeklfhmhdonaa.Pure
