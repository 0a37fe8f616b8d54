/- A list of its kind is checked 0 everywhere. No condition. -/
import Derived.Test.YtpbeklfhmhdonaaCheck
import Derived.Test.YtpbeklfhmhdonaaUDraw
import Derived.Test.YtpbeklfhmhdonaaPx14
namespace Go.Proofs.Ytpbeklfhmhdonaa.Pure
open Go.RowKit Go.Proofs.Ytpbeklfhmhdonaa.P Go.Proofs.Ytpbeklfhmhdonaa.Num Go.Proofs.YtpbeklfhmhdonaaW.PrintWords Go.Proofs.YtpbeklfhmhdonaaW.PrintLast
set_option linter.unusedSimpArgs false
set_option linter.unusedVariables false

theorem zero_loop {a : Int} {c : List Int} (h : c ∈ encs a) (d : Nat) : ∀ i : Nat, i + d = 31 → Ev (fun k => laws_FnCheckNone.l0 k a c (i : Int)) true := by
  induction d with
  | zero =>
    intro i hi
    refine ⟨1, fun k hk => ?_⟩
    obtain ⟨k, rfl⟩ : ∃ m, k = m + 1 := ⟨k - 1, by omega⟩
    simp only [laws_FnCheckNone.l0]
    rw [if_neg (by omega)]
  | succ d ih =>
    intro i hi
    obtain ⟨K1, h1⟩ := ih (i + 1) (by omega)
    obtain ⟨K2, h2⟩ := iTypeCheck a c (i : Int)
    dsimp only at h1 h2
    refine ⟨K1 + K2 + 1, fun k hk => ?_⟩
    obtain ⟨k, rfl⟩ : ∃ m, k = m + 1 := ⟨k - 1, by omega⟩
    simp only [laws_FnCheckNone.l0]
    rw [if_pos (by omega), h2 _ (by omega), check_zero h (okF_iff.2 (by omega))]
    simp only [Option.bind_some, if_true]
    rw [w64 (by omega)]
    exact h1 k (by omega)
theorem FnCheckNone : laws_FnCheckNone.Pure := by
  intro l _ _ hb
  unfold laws_FnCheckNone.f
  by_cases h : (l.length : Int) > 1048576
  · exact ⟨1, by rw [if_pos h]⟩
  obtain ⟨a, c, x, ⟨K1, e1⟩, a1, a2, hc⟩ := drawTypeCheck_ev (bytes_of hb)
  obtain ⟨K2, e2⟩ := iTypeCheck a c x
  obtain ⟨K3, e3⟩ := sTypeCheck a c x (by omega)
  obtain ⟨K4, e4⟩ := sTypeOk a c (by omega)
  dsimp only at e1 e2 e3 e4
  rw [valR_ok] at e4
  by_cases hm : c ∈ encs a
  · obtain ⟨K5, e5⟩ := zero_loop hm 31 0 (by omega)
    dsimp only at e5
    refine ⟨K1 + K2 + K3 + K4 + K5 + 2, ?_⟩
    rw [if_neg h, e1 _ (by omega)]
    simp only [Option.bind_some]
    rw [e2 _ (by omega), e3 _ (by omega)]
    simp only [Option.bind_some, if_true]
    rw [e4 _ (by omega), decide_eq_true hm]
    simp only [Option.bind_some, Bool.not_true]
    rw [laws_FnCheckNone.j0, if_neg (by simp)]
    exact e5 _ (by omega)
  · refine ⟨K1 + K2 + K3 + K4 + 2, ?_⟩
    rw [if_neg h, e1 _ (by omega)]
    simp only [Option.bind_some]
    rw [e2 _ (by omega), e3 _ (by omega)]
    simp only [Option.bind_some, if_true]
    rw [e4 _ (by omega), decide_eq_false hm]
    simp only [Option.bind_some, Bool.not_false]
    rw [laws_FnCheckNone.j0, if_pos rfl, e3 _ (by omega)]
    simp

end Go.Proofs.Ytpbeklfhmhdonaa.Pure
