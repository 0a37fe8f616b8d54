/- A drawn polynomial's value is the sum of its parts; at 0 it is the first number, at 1 the sum of all. No condition. -/
import Derived.Test.YtdamainjflpgpaaPolyAt
import Derived.Test.YtdamainjflpgpaaPDraw
import Derived.Test.YtdamainjflpgpaaPx20
namespace Go.Proofs.Ytdamainjflpgpaa.Pure
open Go.RowKit Go.Proofs.Ytdamainjflpgpaa.P Go.Proofs.Ytdamainjflpgpaa.Num Go.Proofs.YtdamainjflpgpaaW.PrintWords Go.Proofs.YtdamainjflpgpaaW.PrintLast
set_option linter.unusedSimpArgs false
set_option linter.unusedVariables false

theorem parts_loop {p : List Int} {x v : Int} (hp : polyOk p = true) (hx : okF x = true) (hv : v = ev p x % 31) : ∀ i : Nat, i ≤ p.length →
    Ev (fun k => laws_FnPolyAt.l0 k p x v (ev (p.drop i) x % 31) (ev (p.drop i) 1 % 31) ((i : Int) - 1)) true := by
  obtain ⟨ha, hl⟩ := polyOk_iff.1 hp
  have h1 : okF 1 = true := rfl
  have h0 : okF 0 = true := rfl
  intro i
  induction i with
  | zero =>
    intro _
    refine ⟨1, fun k hk => ?_⟩
    obtain ⟨k, rfl⟩ : ∃ m, k = m + 1 := ⟨k - 1, by omega⟩
    simp only [laws_FnPolyAt.l0]
    rw [if_neg (by omega), List.drop_zero, hv, iPolyAt, iPolyAt, polyAt_ok hp h0, polyAt_ok hp h1]
    simp only [Option.bind_some, if_true, beq_self_eq_true]
    cases p with
    | nil => simp [ev]
    | cons c p =>
      have hc := cof_rng ha 0
      rw [cof_zero] at hc
      rw [if_pos (by simp), if_pos (by simp), ev_cons, Int.zero_mul, if_pos]
      show (c + 0) % 31 = rd (c :: p) ((0 : Nat) : Int)
      rw [rd_lt (by simp)]
      simp only [List.getElem_cons_zero]
      omega
  | succ i ih =>
    intro hi
    obtain ⟨K, h⟩ := ih (by omega)
    refine ⟨K + 1, fun k hk => ?_⟩
    obtain ⟨k, rfl⟩ : ∃ m, k = m + 1 := ⟨k - 1, by omega⟩
    have hia : i < p.length := by omega
    have hc := allOk_iff.1 ha _ (List.getElem_mem hia)
    obtain ⟨g1, g2, g3⟩ := horner (okF_iff.1 hc) (okF_iff.1 hx) (ev (p.drop (i + 1)) x) rfl
    obtain ⟨f1, f2, f3⟩ := horner (okF_iff.1 hc) (okF_iff.1 h1) (ev (p.drop (i + 1)) 1) rfl
    simp only [laws_FnPolyAt.l0]
    rw [if_pos (by omega), iFieldMul, show ((i + 1 : Nat) : Int) - 1 = (i : Int) by omega, rd_lt hia]
    simp only [Option.bind_some]
    rw [if_pos (by omega), if_pos (by omega), iFieldSum, iFieldSum]
    simp only [Option.bind_some]
    rw [fmul_ok (okF_mod _) hx, fsum_ok (okF_mod _) hc, fsum_ok (okF_mod _) hc, w64 (by omega)]
    have e1 : (ev (p.drop (i + 1)) x % 31 * x % 31 + p[i]) % 31 = ev (p.drop i) x % 31 := by
      rw [List.drop_eq_getElem_cons hia, ev_cons, ← g3]; omega
    have e2 : (ev (p.drop (i + 1)) 1 % 31 + p[i]) % 31 = ev (p.drop i) 1 % 31 := by
      rw [List.drop_eq_getElem_cons hia, ev_cons, ← f3]; omega
    rw [e1, e2]
    exact h k (by omega)

theorem FnPolyAt : laws_FnPolyAt.Pure := by
  intro l _ _ hb
  unfold laws_FnPolyAt.f
  by_cases h : (l.length : Int) > 1048576
  · exact ⟨0, by rw [if_pos h]⟩
  obtain ⟨p, x, ⟨K1, h1⟩, hpl, _⟩ := drawPolyAt_ev (bytes_of hb)
  obtain ⟨K2, h2⟩ := sPolyAt p x (by omega)
  obtain ⟨K3, h3⟩ := sPolyOk p (by omega)
  dsimp only at h1 h2 h3
  have hend : ∀ k, K2 ≤ k → laws_FnPolyAt.j0 (k + 1) p x (polyAt p x) true = some true := fun k hk => by
    simp only [laws_FnPolyAt.j0, if_true]; rw [h2 _ hk]; simp
  cases hp : polyOk p
  · refine ⟨K1 + K2 + K3 + 1, ?_⟩
    rw [if_neg h, h1 _ (by omega)]
    simp only [Option.bind_some]
    rw [iPolyAt, h2 _ (by omega)]
    simp only [Option.bind_some, if_true]
    rw [h3 _ (by omega), hp]
    simp only [Option.bind_some, Bool.false_eq_true, if_false]
    exact hend _ (by omega)
  cases hx : okF x
  · refine ⟨K1 + K2 + K3 + 1, ?_⟩
    rw [if_neg h, h1 _ (by omega)]
    simp only [Option.bind_some]
    rw [iPolyAt, h2 _ (by omega)]
    simp only [Option.bind_some, if_true]
    rw [h3 _ (by omega), hp]
    simp only [Option.bind_some, if_true, sFieldOk, hx, Bool.not_false]
    exact hend _ (by omega)
  obtain ⟨K4, h4⟩ := parts_loop hp hx (polyAt_ok hp hx) p.length (Nat.le_refl _)
  dsimp only at h4
  rw [List.drop_length] at h4
  refine ⟨K1 + K2 + K3 + K4 + 1, ?_⟩
  rw [if_neg h, h1 _ (by omega)]
  simp only [Option.bind_some]
  rw [iPolyAt, h2 _ (by omega)]
  simp only [Option.bind_some, if_true]
  rw [h3 _ (by omega), hp]
  simp only [Option.bind_some, if_true, sFieldOk, hx, Bool.not_true, laws_FnPolyAt.j0, Bool.false_eq_true, if_false]
  rw [w64 (by omega)]
  exact h4 _ (by omega)

end Go.Proofs.Ytdamainjflpgpaa.Pure
