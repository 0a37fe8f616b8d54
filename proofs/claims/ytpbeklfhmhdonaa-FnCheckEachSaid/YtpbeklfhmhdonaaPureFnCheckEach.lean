/- A value's list with one number spoiled is checked other than 0 somewhere. No condition. -/
import Derived.Test.YtpbeklfhmhdonaaCheck
import Derived.Test.YtpbeklfhmhdonaaUDraw
import Derived.Test.YtpbeklfhmhdonaaPx12
namespace Go.Proofs.Ytpbeklfhmhdonaa.Pure
open Go.RowKit Go.Proofs.Ytpbeklfhmhdonaa.P Go.Proofs.Ytpbeklfhmhdonaa.Num Go.Proofs.YtpbeklfhmhdonaaW.PrintWords Go.Proofs.YtpbeklfhmhdonaaW.PrintLast
set_option linter.unusedSimpArgs false
set_option linter.unusedVariables false

theorem some_loop {a : Int} {c : List Int} (d : Nat) : ∀ i : Nat, i + d = 31 → (∃ j : Nat, i ≤ j ∧ j < 31 ∧ check a c (j : Int) ≠ 0) → Ev (fun k => laws_FnCheckEach.l0 k a c (i : Int)) true := by
  induction d with
  | zero =>
    intro i hi h
    obtain ⟨j, h1, h2, _⟩ := h
    omega
  | succ d ih =>
    intro i hi h
    obtain ⟨K2, h2⟩ := iTypeCheck a c (i : Int)
    dsimp only at h2
    by_cases e : check a c (i : Int) = 0
    · obtain ⟨K1, h1⟩ := ih (i + 1) (by omega) (by
        obtain ⟨j, j1, j2, j3⟩ := h
        refine ⟨j, ?_, j2, j3⟩
        by_cases q : i = j
        · subst q; exact absurd e j3
        · omega)
      dsimp only at h1
      refine ⟨K1 + K2 + 1, fun k hk => ?_⟩
      obtain ⟨k, rfl⟩ : ∃ m, k = m + 1 := ⟨k - 1, by omega⟩
      simp only [laws_FnCheckEach.l0]
      rw [if_pos (by omega), h2 _ (by omega), e]
      simp only [Option.bind_some, if_true]
      rw [w64 (by omega)]
      exact h1 k (by omega)
    · refine ⟨K2 + 1, fun k hk => ?_⟩
      obtain ⟨k, rfl⟩ : ∃ m, k = m + 1 := ⟨k - 1, by omega⟩
      simp only [laws_FnCheckEach.l0]
      rw [if_pos (by omega), h2 _ (by omega)]
      simp only [Option.bind_some]
      rw [if_neg e]
theorem spoiled {a : Int} {c : List Int} (h : c ∈ encs a) {i : Nat} (hi : i < c.length) {v : Int} (hv : 2 ≤ v ∧ v ≤ 30) : vecI a (c.set i v) = true ∧ ¬ c.set i v ∈ encs a := by
  have hm := mem_encs a c
  rw [decide_eq_true h] at hm
  symm at hm
  simp only [Bool.and_eq_true] at hm
  have hc := hm.1
  unfold vecI at hc
  simp only [Bool.and_eq_true, decide_eq_true_eq] at hc
  obtain ⟨⟨hk, hs⟩, hl⟩ := hc
  obtain ⟨s1, s2⟩ := shareOk_iff.1 hs
  refine ⟨?_, fun q => ?_⟩
  · unfold vecI
    rw [hk, shareOk_iff.2 ⟨allOk_iff.2 fun x hx => ?_, by simpa using s2⟩, List.length_set, decide_eq_true hl]; rfl
    rcases List.mem_or_eq_of_mem_set hx with hx | rfl
    · exact allOk_iff.1 s1 x hx
    · exact okF_iff.2 (by omega)
  · have hq := mem_encs a (c.set i v)
    rw [decide_eq_true q] at hq
    symm at hq
    simp only [Bool.and_eq_true, okL] at hq
    have := List.all_eq_true.1 hq.2.1 v (List.mem_iff_getElem.2 ⟨i, by simpa using hi, by simp⟩)
    simp only [decide_eq_true_eq] at this
    omega
theorem FnCheckEach : laws_FnCheckEach.Pure := by
  intro l m h0 _ hb h1 _ _
  unfold laws_FnCheckEach.f
  by_cases h : (l.length : Int) > 1048576
  · exact ⟨1, by rw [if_pos h]; rfl⟩
  by_cases h' : (m.length : Int) > 1048576
  · exact ⟨1, by rw [if_neg h, decide_eq_true h']; rfl⟩
  obtain ⟨a, v, e1, a1, a2, v1, v2⟩ := drawTypeMake_ev (bytes_of hb)
  obtain ⟨K2, e2⟩ := sTypeMake a v
  dsimp only at e2
  cases q : encI a v with
  | none =>
    obtain ⟨K3, e3⟩ := loInts_ev [] [] (by simp)
    dsimp only at e3
    rw [encR_none q] at e2
    refine ⟨K2 + K3 + 3, ?_⟩
    rw [if_neg h, decide_eq_false h', show K2 + K3 + 3 = (K2 + K3 + 2) + 1 by omega, laws_FnCheckEach.j0, if_neg (by simp), e1 _ (by omega)]
    simp only [Option.bind_some, impl_TypeMake.f]
    rw [e2 _ (by omega), encR_none q]
    simp only [Option.bind_some, bne_self_eq_false, Bool.false_eq_true, if_false]
    rw [e3 _ (by omega)]
    simp only [Option.bind_some, decide_true, if_true, laws_FnCheckEach.j1, Bool.not_false, beq_self_eq_true]
    rw [e3 _ (by omega)]; simp
  | some r =>
    have hv : 0 ≤ v ∧ v ≤ mostI a := Classical.byContradiction fun h1 => by rw [encI_out h1] at q; cases q
    obtain ⟨n, rfl⟩ := Int.eq_ofNat_of_zero_le hv.1
    have hmem : r ∈ Go.Proofs.Ytpbeklfhmhdonaa.P.encs a := List.mem_of_getElem? (by rw [← encI_at]; exact q)
    have hr := encs_len _ hmem
    have hr0 : 1 ≤ r.length := by
      have : ∀ c ∈ Go.Proofs.Ytpbeklfhmhdonaa.P.encs a, 1 ≤ c.length := by unfold Go.Proofs.Ytpbeklfhmhdonaa.P.encs; (repeat' split) <;> decide
      exact this _ hmem
    obtain ⟨K3, e3⟩ := loInts_ev r r (by omega)
    have hi : m.length % r.length < r.length := Nat.mod_lt _ (by omega)
    have hval : 2 ≤ 2 + (m.length : Int) % 29 ∧ 2 + (m.length : Int) % 29 ≤ 30 := by omega
    obtain ⟨w1, w2⟩ := spoiled hmem hi hval
    obtain ⟨K4, e4⟩ := some_loop (a := a) (c := r.set (m.length % r.length) (2 + (m.length : Int) % 29)) 31 0 (by omega) (by
      refine Classical.byContradiction fun hn => ?_
      have hz : ∀ j : Nat, 0 ≤ j → j < 0 + 31 → (fun i : Nat => decide (ev (cs a (r.set (m.length % r.length) (2 + (m.length : Int) % 29))) (i : Int) % 31 = 0)) j = true := fun j _ hj => by
        have : check a (r.set (m.length % r.length) (2 + (m.length : Int) % 29)) (j : Int) = 0 := Classical.byContradiction fun hc => hn ⟨j, by omega, by omega, hc⟩
        unfold check chk at this
        rw [w1, okF_iff.2 (by omega)] at this
        simpa using this
      have ha := cntN_all 31 0 hz
      have hf := (few_zero w1 w2).2
      unfold roots at hf
      omega)
    dsimp only at e3 e4
    rw [encR_some q] at e2
    refine ⟨K2 + K3 + K4 + 3, ?_⟩
    rw [if_neg h, decide_eq_false h', show K2 + K3 + K4 + 3 = (K2 + K3 + K4 + 2) + 1 by omega, laws_FnCheckEach.j0, if_neg (by simp), e1 _ (by omega)]
    simp only [Option.bind_some, impl_TypeMake.f]
    rw [e2 _ (by omega), encR_some q]
    simp only [Option.bind_some, bne_self_eq_false, Bool.false_eq_true, if_false]
    rw [e3 _ (by omega)]
    simp only [Option.bind_some, decide_true, if_true, Bool.not_true]
    have em : (m.length : Int) % (r.length : Int) = ((m.length % r.length : Nat) : Int) := by omega
    rw [show K2 + K3 + K4 + 2 = (K2 + K3 + K4 + 1) + 1 by omega, laws_FnCheckEach.j1, if_neg (by simp), if_neg (by omega), em, if_pos (by omega), if_pos (by omega), Int.toNat_natCast]
    exact e4 _ (by omega)

end Go.Proofs.Ytpbeklfhmhdonaa.Pure
