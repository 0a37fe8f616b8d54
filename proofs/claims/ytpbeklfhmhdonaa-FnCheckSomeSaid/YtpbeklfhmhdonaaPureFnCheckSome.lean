/- A well formed list that is not its kind's is checked 0 at few places, at most as many as it is long. No condition. -/
import Derived.Test.YtpbeklfhmhdonaaCheck
import Derived.Test.YtpbeklfhmhdonaaUDraw
import Derived.Test.YtpbeklfhmhdonaaPx15
namespace Go.Proofs.Ytpbeklfhmhdonaa.Pure
open Go.RowKit Go.Proofs.Ytpbeklfhmhdonaa.P Go.Proofs.Ytpbeklfhmhdonaa.Num Go.Proofs.YtpbeklfhmhdonaaW.PrintWords Go.Proofs.YtpbeklfhmhdonaaW.PrintLast
set_option linter.unusedSimpArgs false
set_option linter.unusedVariables false

theorem count_loop {a : Int} {c : List Int} (hv : vecI a c = true) (d : Nat) : ∀ (i n : Nat), i + d = 31 → n ≤ i → Ev (fun k => laws_FnCheckSome.l0 k a c (n : Int) (i : Int)) (decide (((n + cntN (fun j => decide (ev (cs a c) (j : Int) % 31 = 0)) i d : Nat) : Int) ≤ lenI a)) := by
  induction d with
  | zero =>
    intro i n hi hn
    refine ⟨1, fun k hk => ?_⟩
    obtain ⟨k, rfl⟩ : ∃ m, k = m + 1 := ⟨k - 1, by omega⟩
    simp only [laws_FnCheckSome.l0, impl_TypeLen.f]
    rw [if_neg (by omega)]
    rfl
  | succ d ih =>
    intro i n hi hn
    obtain ⟨K1, h1⟩ := ih (i + 1) (n + 1) (by omega) (by omega)
    obtain ⟨K3, h3⟩ := ih (i + 1) n (by omega) (by omega)
    obtain ⟨K2, h2⟩ := iTypeCheck a c (i : Int)
    dsimp only at h1 h2 h3
    have hc : check a c (i : Int) = ev (cs a c) (i : Int) % 31 := by unfold check chk; rw [hv, okF_iff.2 (by omega)]; rfl
    refine ⟨K1 + K2 + K3 + 1, fun k hk => ?_⟩
    obtain ⟨k, rfl⟩ : ∃ m, k = m + 1 := ⟨k - 1, by omega⟩
    simp only [laws_FnCheckSome.l0]
    rw [if_pos (by omega), h2 _ (by omega), hc]
    simp only [Option.bind_some]
    by_cases e : ev (cs a c) (i : Int) % 31 = 0
    · rw [if_pos e, w64 (by omega), w64 (by omega)]
      refine (h1 k (by omega)).trans ?_
      simp only [cntN, e, decide_true, if_true]
      congr 2; simp; omega
    · rw [if_neg e, w64 (by omega)]
      refine (h3 k (by omega)).trans ?_
      simp [cntN, e]
theorem FnCheckSome : laws_FnCheckSome.Pure := by
  intro l _ _ hb
  unfold laws_FnCheckSome.f
  by_cases h : (l.length : Int) > 1048576
  · exact ⟨1, by rw [if_pos h]⟩
  obtain ⟨a, c, x, ⟨K1, e1⟩, a1, a2, hc⟩ := drawTypeCheck_ev (bytes_of hb)
  obtain ⟨K2, e2⟩ := iTypeCheck a c x
  obtain ⟨K3, e3⟩ := sTypeCheck a c x (by omega)
  obtain ⟨K4, e4⟩ := sTypeOk a c (by omega)
  obtain ⟨K6, e6⟩ := sShareOk c (by omega)
  dsimp only at e1 e2 e3 e4 e6
  rw [valR_ok] at e4
  have other : ∀ k, K3 + 1 ≤ k → laws_FnCheckSome.j0 k a c x (check a c x) true = some true := fun k hk => by
    obtain ⟨k, rfl⟩ : ∃ m, k = m + 1 := ⟨k - 1, by omega⟩
    rw [laws_FnCheckSome.j0, if_pos rfl, e3 _ (by omega)]; simp
  by_cases hv : vecI a c = true ∧ ¬ c ∈ encs a ∧ c.length ≠ 0
  · obtain ⟨hv, hm, hn⟩ := hv
    obtain ⟨K5, e5⟩ := count_loop hv 31 0 0 (by omega) (by omega)
    dsimp only at e5
    have hq : kindI a = true ∧ shareOk c = true ∧ (c.length : Int) = lenI a := by unfold vecI at hv; simp at hv; exact ⟨hv.1.1, hv.1.2, hv.2⟩
    refine ⟨K1 + K2 + K3 + K4 + K5 + K6 + 2, ?_⟩
    rw [if_neg h, e1 _ (by omega)]
    simp only [Option.bind_some]
    rw [e2 _ (by omega), e3 _ (by omega)]
    simp only [Option.bind_some, if_true]
    rw [e4 _ (by omega), decide_eq_false hm]
    simp only [Option.bind_some, impl_TypeLen.f, Bool.false_eq_true, if_false]
    rw [if_pos hq.2.2, e6 _ (by omega), hq.2.1]
    simp only [Option.bind_some, if_true]
    rw [beq_eq_false_iff_ne.2 (show (c.length : Int) ≠ 0 by omega), laws_FnCheckSome.j0, if_neg (by simp)]
    refine (e5 _ (by omega)).trans ?_
    have := (few_zero hv hm).1
    unfold roots at this
    rw [Nat.zero_add, decide_eq_true this]
  · refine ⟨K1 + K2 + K3 + K4 + K6 + 2, ?_⟩
    rw [if_neg h, e1 _ (by omega)]
    simp only [Option.bind_some]
    rw [e2 _ (by omega), e3 _ (by omega)]
    simp only [Option.bind_some, if_true]
    rw [e4 _ (by omega)]
    by_cases hm : c ∈ encs a
    · rw [decide_eq_true hm]; simp only [Option.bind_some, if_true]; exact other _ (by omega)
    rw [decide_eq_false hm]
    simp only [Option.bind_some, impl_TypeLen.f, Bool.false_eq_true, if_false]
    by_cases hl : (c.length : Int) = lenI a
    · rw [if_pos hl, e6 _ (by omega)]
      simp only [Option.bind_some]
      cases hs : shareOk c
      · rw [if_neg (by simp)]; exact other _ (by omega)
      · rw [if_pos rfl]
        have : c.length = 0 := Classical.byContradiction fun hn => hv ⟨by
          have hk : kindI a = true := by
            cases hk : kindI a
            · rw [lenI_kind hk] at hl; omega
            · rfl
          unfold vecI; rw [hk, hs, decide_eq_true hl]; rfl, hm, hn⟩
        rw [beq_iff_eq.2 (show (c.length : Int) = 0 by omega)]
        exact other _ (by omega)
    · rw [if_neg hl]; exact other _ (by omega)

end Go.Proofs.Ytpbeklfhmhdonaa.Pure
