/- What a drawn value is written as is of its kind, and has that value. No condition. -/
import Derived.Test.YtnkdgonekadibaaTDraw
import Derived.Test.YtnkdgonekadibaaPx18
namespace Go.Proofs.Ytnkdgonekadibaa.Pure
open Go.RowKit Go.Proofs.Ytnkdgonekadibaa.P Go.Proofs.Ytnkdgonekadibaa.Num Go.Proofs.YtnkdgonekadibaaW.PrintWords Go.Proofs.YtnkdgonekadibaaW.PrintLast
set_option linter.unusedSimpArgs false
set_option linter.unusedVariables false

theorem encI_n {a v : Int} {l : List Int} (h : encI a v = some l) : ∃ n : Nat, v = (n : Int) ∧ (encs a)[n]? = some l := by
  have hv : 0 ≤ v ∧ v ≤ mostI a := Classical.byContradiction fun h1 => by rw [encI_out h1] at h; cases h
  obtain ⟨n, rfl⟩ := Int.eq_ofNat_of_zero_le hv.1
  exact ⟨n, rfl, by rw [← encI_at]; exact h⟩
theorem encs_alone (a : Int) : (encs a).Nodup := by unfold Go.Proofs.Ytnkdgonekadibaa.P.encs; (repeat' split) <;> decide
theorem val_of_enc {a v : Int} {l : List Int} (h : encI a v = some l) : valR a l = (v, true) := by
  obtain ⟨n, rfl, hn⟩ := encI_n h
  obtain ⟨i, h1, h2⟩ := find_yes (v := 0) (List.mem_of_getElem? hn)
  have : i = n := (List.getElem?_inj (List.getElem?_eq_some_iff.1 h2).1 (encs_alone a)).1 (by rw [h2, hn])
  rw [valR, h1, this]; simp
theorem FnTypeBack : laws_FnTypeBack.Pure := by
  intro l _ _ hb
  unfold laws_FnTypeBack.f
  by_cases h : (l.length : Int) > 1048576
  · exact ⟨1, by rw [if_pos h]⟩
  obtain ⟨a, v, e1, a1, a2, v1, v2⟩ := drawTypeMake_ev (bytes_of hb)
  obtain ⟨K2, e2⟩ := sTypeMake a v
  dsimp only at e2
  cases q : encI a v with
  | none =>
    obtain ⟨K3, e3⟩ := loInts_ev [] [] (by simp)
    dsimp only at e3
    rw [encR_none q] at e2
    refine ⟨K2 + K3 + 2, ?_⟩
    rw [if_neg h, e1 _ (by omega)]
    simp only [Option.bind_some, impl_TypeMake.f]
    rw [e2 _ (by omega), encR_none q]
    simp only [Option.bind_some, bne_self_eq_false, Bool.false_eq_true, if_false]
    rw [e3 _ (by omega)]
    simp only [Option.bind_some, decide_true, if_true, laws_FnTypeBack.j0, Bool.not_false, beq_self_eq_true]
    rw [e3 _ (by omega)]; simp
  | some r =>
    obtain ⟨n, -, hn⟩ := encI_n q
    have hr := encs_len _ (List.mem_of_getElem? hn)
    obtain ⟨K3, e3⟩ := loInts_ev r r (by omega)
    obtain ⟨K4, e4⟩ := iTypeVal a r
    obtain ⟨K5, e5⟩ := iTypeOk a r
    dsimp only at e3 e4 e5
    rw [encR_some q] at e2
    rw [val_of_enc q] at e4 e5
    refine ⟨K2 + K3 + K4 + K5 + 2, ?_⟩
    rw [if_neg h, e1 _ (by omega)]
    simp only [Option.bind_some, impl_TypeMake.f]
    rw [e2 _ (by omega), encR_some q]
    simp only [Option.bind_some, bne_self_eq_false, Bool.false_eq_true, if_false]
    rw [e3 _ (by omega)]
    simp only [Option.bind_some, decide_true, if_true, Bool.not_true]
    rw [show K2 + K3 + K4 + K5 + 2 = (K2 + K3 + K4 + K5 + 1) + 1 by omega, laws_FnTypeBack.j0, if_neg (by simp), e4 _ (by omega)]
    simp only [Option.bind_some, if_true]
    rw [e5 _ (by omega)]; rfl

end Go.Proofs.Ytnkdgonekadibaa.Pure
