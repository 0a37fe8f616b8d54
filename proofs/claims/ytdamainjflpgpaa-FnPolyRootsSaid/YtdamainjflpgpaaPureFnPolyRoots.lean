/- A drawn polynomial that is not 0 is 0 at fewer places than it has numbers; one that is 0 is so at all places. No condition. -/
import Derived.Test.YtdamainjflpgpaaPolyAt
import Derived.Test.YtdamainjflpgpaaPDraw
import Derived.Test.YtdamainjflpgpaaPx16
namespace Go.Proofs.Ytdamainjflpgpaa.Pure
open Go.RowKit Go.Proofs.Ytdamainjflpgpaa.P Go.Proofs.Ytdamainjflpgpaa.Num Go.Proofs.YtdamainjflpgpaaW.PrintWords Go.Proofs.YtdamainjflpgpaaW.PrintLast
set_option linter.unusedSimpArgs false
set_option linter.unusedVariables false

theorem roots_l1 {p : List Int} (hp : polyOk p = true) (none_ : Bool) (d : Nat) : ∀ (i c : Nat), i + d = 31 → c ≤ i →
    Ev (fun k => laws_FnPolyRoots.l1 k p none_ (c : Int) (i : Int)) (if none_ then decide (c + cntN (fun i => decide (ev p (i : Int) % 31 = 0)) i d = 31) else decide (c + cntN (fun i => decide (ev p (i : Int) % 31 = 0)) i d < p.length)) := by
  induction d with
  | zero =>
    intro i c hi hc
    refine ⟨1, fun k hk => ?_⟩
    obtain ⟨k, rfl⟩ : ∃ m, k = m + 1 := ⟨k - 1, by omega⟩
    simp only [laws_FnPolyRoots.l1]
    rw [if_neg (by omega)]
    cases none_
    · simp only [Bool.false_eq_true, if_false]
      congr 1
      rw [Bool.eq_iff_iff, decide_eq_true_eq, decide_eq_true_eq]
      simp [cntN]
    · simp only [if_true]
      by_cases h : c = 31
      · rw [if_pos (by omega)]
        congr 1
        rw [Bool.eq_iff_iff]
        simp [cntN, h]
      · rw [if_neg (by omega)]
        congr 1
        rw [Bool.eq_iff_iff]
        simp [cntN, h]
  | succ d ih =>
    intro i c hi hc
    have hx : okF (i : Int) = true := okF_iff.2 (by omega)
    by_cases e : ev p (i : Int) % 31 = 0
    · obtain ⟨K, h⟩ := ih (i + 1) (c + 1) (by omega) (by omega)
      refine ⟨K + 1, fun k hk => ?_⟩
      obtain ⟨k, rfl⟩ : ∃ m, k = m + 1 := ⟨k - 1, by omega⟩
      simp only [laws_FnPolyRoots.l1]
      rw [if_pos (by omega), iPolyAt, polyAt_ok hp hx]
      simp only [Option.bind_some]
      rw [if_pos e, w64 (by omega), w64 (by omega)]
      refine (h k (by omega)).trans ?_
      simp only [cntN, e, decide_true, if_true, Nat.add_assoc]
    · obtain ⟨K, h⟩ := ih (i + 1) c (by omega) (by omega)
      refine ⟨K + 1, fun k hk => ?_⟩
      obtain ⟨k, rfl⟩ : ∃ m, k = m + 1 := ⟨k - 1, by omega⟩
      simp only [laws_FnPolyRoots.l1]
      rw [if_pos (by omega), iPolyAt, polyAt_ok hp hx]
      simp only [Option.bind_some]
      rw [if_neg e, w64 (by omega)]
      refine (h k (by omega)).trans ?_
      simp only [cntN, e, decide_false, Bool.false_eq_true, if_false, Nat.zero_add]

/-- All numbers from i on are 0. -/
def restZero (p : List Int) (i : Nat) : Bool := (p.drop i).all (· == 0)
theorem roots_l0 {p : List Int} (hp : polyOk p = true) (d : Nat) : ∀ (i : Nat) (b : Bool), i + d = p.length → ∃ K, ∀ k, K ≤ k → laws_FnPolyRoots.l0 k p b (i : Int) = laws_FnPolyRoots.l1 (k - d - 1) p (b && restZero p i) 0 0 := by
  have hl := (polyOk_iff.1 hp).2
  induction d with
  | zero =>
    intro i b hi
    obtain rfl : i = p.length := by omega
    refine ⟨1, fun k hk => ?_⟩
    obtain ⟨k, rfl⟩ : ∃ m, k = m + 1 := ⟨k - 1, by omega⟩
    simp only [laws_FnPolyRoots.l0]
    rw [if_neg (by omega)]
    simp [restZero]
  | succ d ih =>
    intro i b hi
    have hia : i < p.length := by omega
    obtain ⟨K1, h1⟩ := ih (i + 1) (p[i] == 0) (by omega)
    obtain ⟨K2, h2⟩ := ih (i + 1) false (by omega)
    refine ⟨K1 + K2 + 1, fun k hk => ?_⟩
    obtain ⟨k, rfl⟩ : ∃ m, k = m + 1 := ⟨k - 1, by omega⟩
    simp only [laws_FnPolyRoots.l0]
    rw [if_pos (by omega), rd_lt hia, w64 (by omega)]
    have hr : restZero p i = ((p[i] == 0) && restZero p (i + 1)) := by unfold restZero; rw [List.drop_eq_getElem_cons hia]; rfl
    cases b
    · simp only [Bool.false_eq_true, if_false]
      refine (h2 k (by omega)).trans ?_
      rw [Bool.false_and, Bool.false_and]; congr 1; omega
    · simp only [if_true]
      rw [if_pos (by omega)]
      refine (h1 k (by omega)).trans ?_
      rw [Bool.true_and, hr]; congr 1; omega

theorem FnPolyRoots : laws_FnPolyRoots.Pure := by
  intro l _ _ hb
  unfold laws_FnPolyRoots.f
  by_cases h : (l.length : Int) > 1048576
  · exact ⟨0, by rw [if_pos h]⟩
  obtain ⟨p, x, ⟨K1, h1⟩, hpl, _⟩ := drawPolyAt_ev (bytes_of hb)
  obtain ⟨K2, h2⟩ := sPolyAt p x (by omega)
  obtain ⟨K3, h3⟩ := sPolyOk p (by omega)
  dsimp only at h1 h2 h3
  cases hp : polyOk p
  · refine ⟨K1 + K2 + K3 + 1, ?_⟩
    rw [if_neg h, h1 _ (by omega)]
    simp only [Option.bind_some]
    rw [iPolyAt, h2 _ (by omega)]
    simp only [Option.bind_some, if_true]
    rw [h3 _ (by omega), hp]
    simp only [Option.bind_some, Bool.not_false, laws_FnPolyRoots.j0, if_true]
    rw [h2 _ (by omega)]
    simp
  · obtain ⟨K4, h4⟩ := roots_l0 hp p.length 0 true (by omega)
    obtain ⟨K5, h5⟩ := roots_l1 hp (restZero p 0) 31 0 0 (by omega) (by omega)
    refine ⟨K1 + K2 + K3 + K4 + K5 + p.length + 3, ?_⟩
    rw [if_neg h, h1 _ (by omega)]
    simp only [Option.bind_some]
    rw [iPolyAt, h2 _ (by omega)]
    simp only [Option.bind_some, if_true]
    rw [h3 _ (by omega), hp]
    simp only [Option.bind_some, Bool.not_true, laws_FnPolyRoots.j0, Bool.false_eq_true, if_false]
    refine (h4 _ (by omega)).trans ?_
    rw [Bool.true_and]
    refine (h5 _ (by omega)).trans ?_
    obtain ⟨ha, hl⟩ := polyOk_iff.1 hp
    cases hz : restZero p 0
    · simp only [Bool.false_eq_true, if_false]
      have hnz : ¬ zeroM p := by
        intro hz2
        have : restZero p 0 = true := by
          unfold restZero
          rw [List.drop_zero, List.all_eq_true]
          intro y hy
          obtain ⟨j, hj, rfl⟩ := List.getElem_of_mem hy
          have h6 := hz2 j
          have h7 := cof_rng ha j
          rw [cof_in hj] at h6 h7
          rw [beq_iff_eq]; omega
        rw [this] at hz; cases hz
      have := roots_few 31 (by omega) p.length p rfl hnz
      unfold roots at this
      rw [decide_eq_true (by omega)]
    · simp only [if_true]
      have : cntN (fun i => decide (ev p (i : Int) % 31 = 0)) 0 31 = 31 := cntN_all 31 0 (fun i _ _ => by
        simp only [decide_eq_true_eq]
        rw [ev_zero (fun j => ?_)]; rfl
        rcases Nat.lt_or_ge j p.length with hj | hj
        · rw [cof_in hj]
          unfold restZero at hz
          rw [List.drop_zero, List.all_eq_true] at hz
          exact beq_iff_eq.1 (hz _ (List.getElem_mem hj))
        · exact cof_out hj)
      rw [this]; rfl

end Go.Proofs.Ytdamainjflpgpaa.Pure
