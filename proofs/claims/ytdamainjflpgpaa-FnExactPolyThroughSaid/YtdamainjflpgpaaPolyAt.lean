/- The value of a polynomial at a place, of the program and of the reference. Conditions: lists of fewer than 2^40 numbers. -/
import Derived.Test.YtdamainjflpgpaaPolyOk
import Derived.Test.YtdamainjflpgpaaPx2
import Derived.Test.YtdamainjflpgpaaPx3
namespace Go.Proofs.Ytdamainjflpgpaa.P
open Go.RowKit Go.Proofs.Ytdamainjflpgpaa.Num Go.Proofs.YtdamainjflpgpaaW.PrintWords
set_option linter.unusedVariables false

def polyAt (l : List Int) (x : Int) : Int := if polyOk l && okF x then ev l x % 31 else 0
theorem polyAt_ok {l : List Int} {x : Int} (hl : polyOk l = true) (hx : okF x = true) : polyAt l x = ev l x % 31 := by unfold polyAt; rw [hl, hx]; rfl
theorem polyAt_field (l : List Int) (x : Int) : okF (polyAt l x) = true := by unfold polyAt; split; exact okF_mod _; rfl

/-- One step of reckoning a value, from behind. -/
theorem horner {c x r : Int} (hc : 0 ≤ c ∧ c ≤ 30) (hx : 0 ≤ x ∧ x ≤ 30) (e : Int) (hr : r = e % 31) : -1000 ≤ r * x ∧ r * x ≤ 1000 ∧ (r * x + c) % 31 = (c + x * e) % 31 := by
  have h0 : 0 ≤ r ∧ r ≤ 30 := by omega
  have h1 := mul_rng h0 hx
  refine ⟨by omega, by omega, ?_⟩
  rw [hr, Int.mul_comm x e, Int.add_comm c, Int.add_emod, Int.mul_emod, Int.emod_emod_of_dvd _ (Int.dvd_refl 31), ← Int.mul_emod, ← Int.add_emod]

theorem value_eq {l : List Int} {x : Int} (hl : allOk l = true) (hx : okF x = true) : l.reverse.foldl (hstep x) 0 = ev l x % 31 := by
  rw [List.foldl_reverse]
  induction l with
  | nil => rfl
  | cons c l ih =>
    rw [allOk_cons, Bool.and_eq_true] at hl
    rw [List.foldr_cons, ih hl.2]
    obtain ⟨h1, h2, h3⟩ := horner (okF_iff.1 hl.1) (okF_iff.1 hx) (ev l x) rfl
    have hc := okF_iff.1 hl.1
    unfold hstep
    rw [w64 (by omega), w64 (by omega), ev_cons, ← h3]
    rw [Int.add_emod, Int.emod_emod_of_dvd _ (Int.dvd_refl 31), ← Int.add_emod]

theorem iPolyAt (l : List Int) (x : Int) : impl_PolyAt.f l x = some (polyAt l x) := by
  unfold impl_PolyAt.f polyAt
  rw [iPolyOk]
  simp only [Option.bind_some]
  cases hl : polyOk l
  · simp
  rw [iFieldOk]
  simp only [Option.bind_some, if_true]
  cases hx : okF x
  · simp
  simp only [if_true, Bool.and_self]
  unfold impl_value.f
  rw [value_eq (polyOk_iff.1 hl).1 hx]; rfl

theorem l2At_loop {l : List Int} {x : Int} (hl : allOk l = true) (hx : okF x = true) (hm : l.length < 1099511627776) : ∀ i : Nat, i ≤ l.length →
    Ev (fun k => spec_l2At.l0 k l x (ev (l.drop i) x % 31) ((i : Int) - 1)) (ev l x % 31) := by
  intro i
  induction i with
  | zero =>
    intro _
    refine ⟨1, fun k hk => ?_⟩
    obtain ⟨k, rfl⟩ : ∃ m, k = m + 1 := ⟨k - 1, by omega⟩
    simp only [spec_l2At.l0]
    rw [if_neg (by omega)]; rfl
  | succ i ih =>
    intro hi
    obtain ⟨K, h⟩ := ih (by omega)
    refine ⟨K + 1, fun k hk => ?_⟩
    obtain ⟨k, rfl⟩ : ∃ m, k = m + 1 := ⟨k - 1, by omega⟩
    have hia : i < l.length := by omega
    have hc := okF_iff.1 (allOk_iff.1 hl _ (List.getElem_mem hia))
    obtain ⟨h1, h2, h3⟩ := horner hc (okF_iff.1 hx) (ev (l.drop (i + 1)) x) rfl
    have hr := Int.emod_nonneg (ev (l.drop (i + 1)) x) (b := 31) (by omega)
    have hpos : 0 ≤ ev (l.drop (i + 1)) x % 31 * x := Int.mul_nonneg hr (okF_iff.1 hx).1
    simp only [spec_l2At.l0]
    rw [if_pos (by omega), if_pos (by omega), if_pos (by omega), show ((i + 1 : Nat) : Int) - 1 = (i : Int) by omega, rd_lt hia, w64 (n := _ * x) (by omega), w64 (n := _ + l[i]) (by omega), tmod_pos (by omega), w64 (by omega), h3, ← ev_cons, ← List.drop_eq_getElem_cons hia]
    exact h k (by omega)

theorem sPolyAt (l : List Int) (x : Int) (hm : l.length < 1099511627776) : Ev (fun k => spec_PolyAt.f k l x) (polyAt l x) := by
  unfold spec_PolyAt.f polyAt
  obtain ⟨K, h⟩ := sPolyOk l hm
  cases hl : polyOk l
  · refine ⟨K, fun k hk => ?_⟩
    dsimp only at h ⊢
    rw [h k hk, hl]; simp
  · cases hx : okF x
    · refine ⟨K, fun k hk => ?_⟩
      dsimp only at h ⊢
      rw [h k hk, hl]; simp [sFieldOk, hx]
    · obtain ⟨K2, h2⟩ := l2At_loop (polyOk_iff.1 hl).1 hx hm l.length (by omega)
      refine ⟨K + K2, fun k hk => ?_⟩
      have h3 := h2 k (by omega)
      dsimp only at h h3 ⊢
      rw [h k (by omega), hl]
      rw [List.drop_length] at h3
      simp only [Option.bind_some, if_true, sFieldOk, hx, Bool.and_self]
      unfold spec_l2At.f
      rw [w64 (by omega)]
      have e0 : ev [] x % 31 = 0 := rfl
      rw [e0] at h3
      rw [h3]; rfl

end Go.Proofs.Ytdamainjflpgpaa.P
