import Derived.Test.YtcdnmnipaaooiaaKthG
-- Written by a program of this session (wip/tools/pack.py): texts of this seat laid one behind the other, without what the claim does not reach
section
namespace Go.Proofs.Ytcdnmnipaaooiaa.P
open Go.RowKit Go.Shelf Go.Proofs.YtcdnmnipaaooiaaW.PrintWords Go.Proofs.Ytcdnmnipaaooiaa.Num
set_option linter.unusedVariables false
def both (f : Nat) (l0 l1 : List Int) : List Int := (List.range l0.length).map (outs f l0 l1)
def share (f : Nat) (l0 l1 : List Int) : List Int × Bool := if okAll l0 l1 then (both f l0 l1, true) else ([], false)
def impl_ShareSum.f (l0 l1 : List Int) : Option (List Int × Bool) := some (share 47 l0 l1)
theorem core_row {f : Nat} {va vb : Value} {l0 l1 : List Int} {w : World} {r s : Value} {w' : World} (hE : CoreEnd f va vb l0.length l0 l1 w r s w') :
    s = .bool (share f l0 l1).2 ∧ (∀ (base : Nat) (ok : Nat → Prop), base ≤ w.heap.size → (∀ k, r.ownBlock = some k → ok k) → Kd.R (Kd.int .i64) 3 w' base ok r (share f l0 l1).1) ∧ (okAll l0 l1 = true → r.ownBlock = some (w.heap.size + 3)) ∧ Below w.heap.size w w' ∧ (okAll l0 l1 = true → w.heap.size + 6 ≤ w'.heap.size) := by
  have hb := hE.below
  rcases hE with ⟨ho, rfl, rfl, rfl⟩ | ⟨ho, rfl, rfl, rfl⟩
  · refine ⟨by simp [share, ho], fun base ok _ _ => ?_, fun h => (by rw [ho] at h; cases h), hb, fun h => (by rw [ho] at h; cases h)⟩
    simp only [share, ho, Bool.false_eq_true, if_false]
    exact Kd.R_nil _ _ _ _ _
  · have hsz : (boxes w va vb f).heap.size = w.heap.size + 3 := by simp [boxes]
    obtain ⟨b0, b1, _⟩ := begun_at (n := l0.length) hsz
    obtain ⟨arr, r1, r2, r3, _⟩ := ran_row (g := outs f l0 l1) b1 (size_madeCells _ _) l0.length (Nat.le_refl _)
    have h20 : l0.length ≤ 20 := by
      unfold okAll at ho
      simp only [Bool.and_eq_true, decide_eq_true_eq] at ho
      exact ho.1.1.1
    refine ⟨by simp [share, ho], fun base ok hbase hok => ?_, fun _ => rfl, hb, fun _ => by rw [ran_size, b0]; omega⟩
    simp only [share, ho, if_true]
    refine Kd.R_of_own ⟨by simp [encs], .inr ⟨w.heap.size + 3, l0.length, arr, by simp [both], by omega, r1, by simp [both], by simp [maxLen]; omega, by omega, ?_⟩⟩ hok
    apply List.ext_getElem?
    intro j
    by_cases hj : j < l0.length
    · rw [List.getElem?_take_of_lt (by simp [both]; exact hj), Array.getElem?_toList, r3 j hj]
      simp [encs, both, hj]
    · rw [List.getElem?_eq_none (by simp [both, r2]; omega), List.getElem?_eq_none (by simp [encs, both]; omega)]
theorem impl_ShareSum.calls (A0 : Option Addr) (c0 : Nat) (l0 : List Int) (A1 : Option Addr) (c1 : Nat) (l1 : List Int) (r1 : List Int) (r2 : Bool) (w : World) (hr0 : Kd.C (Kd.int .i64) w A0 l0.length l0) (hc0 : l0.length ≤ c0) (hr1 : Kd.C (Kd.int .i64) w A1 l1.length l1) (hc1 : l1.length ≤ c1) (h : impl_ShareSum.f l0 l1 = some (r1, r2)) :
    Calls Twin.prog 17 #[.slice A0 l0.length c0, .slice A1 l1.length c1] w fun e w' => ∃ v0_ : Value, e = .returned (.tuple #[v0_, .bool r2]) ∧ Kd.R (Kd.int .i64) 3 w' w.heap.size (fun _ => True) v0_ r1 ∧ Below w.heap.size w w' := by
  have h' := Option.some.inj h
  refine (lone17 [] hr0 hr1).mono ?_
  rintro e w' ⟨r, s, rfl, hE⟩
  obtain ⟨hs, hR, _, hB, _⟩ := core_row hE
  rw [h'] at hs hR
  exact ⟨r, by rw [hs], hR _ _ (Nat.le_refl _) fun _ _ => trivial, hB⟩
end Go.Proofs.Ytcdnmnipaaooiaa.P
end
