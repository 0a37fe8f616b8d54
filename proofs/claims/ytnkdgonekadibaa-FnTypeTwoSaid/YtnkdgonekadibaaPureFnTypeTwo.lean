/- Two values of one kind are written alike just if they are the same. No condition. -/
import Derived.Test.YtnkdgonekadibaaTDraw
import Derived.Test.YtnkdgonekadibaaPx17
namespace Go.Proofs.Ytnkdgonekadibaa.Pure
open Go.RowKit Go.Proofs.Ytnkdgonekadibaa.P Go.Proofs.Ytnkdgonekadibaa.Num Go.Proofs.YtnkdgonekadibaaW.PrintWords Go.Proofs.YtnkdgonekadibaaW.PrintLast
set_option linter.unusedSimpArgs false
set_option linter.unusedVariables false

theorem encI_rng {a v : Int} {l : List Int} (h : encI a v = some l) : ∃ n : Nat, v = (n : Int) ∧ (encs a)[n]? = some l := by
  have hv : 0 ≤ v ∧ v ≤ mostI a := Classical.byContradiction fun h1 => by rw [encI_out h1] at h; cases h
  obtain ⟨n, rfl⟩ := Int.eq_ofNat_of_zero_le hv.1
  exact ⟨n, rfl, by rw [← encI_at]; exact h⟩
theorem encR_small (a v : Int) : (encR a v).1.length ≤ 4 := by
  cases h : encI a v with
  | none => rw [encR_none h]; simp
  | some l =>
    rw [encR_some h]
    obtain ⟨n, -, h2⟩ := encI_rng h
    exact encs_len _ (List.mem_of_getElem? h2)
theorem encs_nodup (a : Int) : (encs a).Nodup := by unfold Go.Proofs.Ytnkdgonekadibaa.P.encs; (repeat' split) <;> decide
theorem encR_inj {a v u : Int} {l m : List Int} (h : encI a v = some l) (h' : encI a u = some m) : decide (l = m) = (v == u) := by
  obtain ⟨i, rfl, hi⟩ := encI_rng h
  obtain ⟨j, rfl, hj⟩ := encI_rng h'
  by_cases e : i = j
  · subst e
    rw [hi] at hj
    simp [Option.some.inj hj]
  · have : l ≠ m := fun q => e ((List.getElem?_inj (List.getElem?_eq_some_iff.1 hi).1 (encs_nodup a)).1 (by rw [hi, hj, q]))
    rw [decide_eq_false this]
    symm; rw [beq_eq_false_iff_ne]; omega
theorem FnTypeTwo : laws_FnTypeTwo.Pure := by
  intro l m h0 _ hb h1 _ _
  unfold laws_FnTypeTwo.f
  by_cases h : (l.length : Int) > 1048576
  · exact ⟨1, by rw [if_pos h]; rfl⟩
  by_cases h' : (m.length : Int) > 1048576
  · exact ⟨1, by rw [if_neg h, decide_eq_true h']; rfl⟩
  obtain ⟨a, v, e1, a1, a2, v1, v2⟩ := drawTypeMake_ev (bytes_of hb)
  obtain ⟨K2, e2⟩ := sTypeMake a v
  obtain ⟨r, ok, e⟩ : ∃ rr oo, encR a v = (rr, oo) := ⟨_, _, rfl⟩
  obtain ⟨s, o2, f⟩ : ∃ rr oo, encR a ((m.length : Int) % 8) = (rr, oo) := ⟨_, _, rfl⟩
  have hr := encR_small a v
  rw [e] at hr; dsimp only at hr
  obtain ⟨K3, e3⟩ := loInts_ev r r (by omega)
  obtain ⟨K4, e4⟩ := loInts_ev r s (by omega)
  dsimp only at e2 e3 e4
  rw [e] at e2
  refine ⟨K2 + K3 + K4 + 3, ?_⟩
  rw [if_neg h, decide_eq_false h', show K2 + K3 + K4 + 3 = (K2 + K3 + K4 + 2) + 1 by omega, laws_FnTypeTwo.j0, if_neg (by simp), e1 _ (by omega)]
  simp only [Option.bind_some, impl_TypeMake.f]
  rw [e2 _ (by omega), e]
  simp only [Option.bind_some, bne_self_eq_false, Bool.false_eq_true, if_false]
  rw [e3 _ (by omega)]
  simp only [Option.bind_some, decide_true, if_true]
  rw [show K2 + K3 + K4 + 2 = (K2 + K3 + K4 + 1) + 1 by omega, laws_FnTypeTwo.j1]
  cases ok
  · rw [if_pos (by rfl), if_pos (by rfl), e3 _ (by omega)]; simp
  rw [if_neg (by simp)]
  simp only [Option.bind_some, impl_TypeMake.f]
  rw [f]
  simp only [Option.bind_some]
  cases o2
  · simp
  rw [if_pos rfl, e4 _ (by omega)]
  simp only [Option.bind_some]
  have x1 : encI a v = some r := by
    cases q : encI a v with
    | none => rw [encR_none q] at e; simp at e
    | some t => rw [encR_some q] at e; rw [(Prod.mk.inj e).1]
  have x2 : encI a ((m.length : Int) % 8) = some s := by
    cases q : encI a ((m.length : Int) % 8) with
    | none => rw [encR_none q] at f; simp at f
    | some t => rw [encR_some q] at f; rw [(Prod.mk.inj f).1]
  rw [encR_inj x1 x2]; simp

end Go.Proofs.Ytnkdgonekadibaa.Pure
