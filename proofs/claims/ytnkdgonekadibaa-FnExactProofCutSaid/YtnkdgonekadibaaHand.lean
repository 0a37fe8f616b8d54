/- Contracts of the functions that the kit's printer does not take (closures, iterators, arrays, interfaces), in the printer's own form: what each answers, as a Lean function on lists of numbers, and that the program's call comes to just that. Conditions: where the Lean function answers none nothing is said. -/
import Derived.RangeFuncNested
import Derived.RangeFuncBound
import Derived.RangeFuncCalls
import Derived.RangeFuncLeaves
import Derived.RangeFuncBox
import Derived.Shelf.Abstract
import Derived.Shelf.RegionOpen
import Derived.WalkKit
import Derived.OwnWalkIn
import Derived.TacticsInMore
import Derived.LoopNIn
import Derived.LoopIn
import Derived.Maps.AppendAt
import Derived.Test.YtnkdgonekadibaaWWords
import Derived.Test.YtnkdgonekadibaaWLast
import Derived.Test.YtnkdgonekadibaaNum
import Derived.Test.YtnkdgonekadibaaProg
namespace Go.Proofs.Ytnkdgonekadibaa.P
open Go.RowKit Go.Shelf Go.Proofs.YtnkdgonekadibaaW.PrintWords Go.Proofs.Ytnkdgonekadibaa.Num
set_option linter.unusedVariables false
set_option linter.unusedSimpArgs false

/-- A number of the field. -/
def okN (n : Int) : Bool := decide (0 ≤ n ∧ n ≤ 30)

def impl_elementsOk.f (l0 : List Int) (a1 : Int) : Option Bool := some (decide ((l0.length : Int) ≤ a1) && l0.all okN)

theorem hand_within (a b c : Int) (w : World) : Calls Try.prog 45 #[.int .i64 a, .int .i64 b, .int .i64 c] w fun e w' => e = .returned (.bool (decide (b ≤ a ∧ a ≤ c))) ∧ w = w' := by
  by_cases h : b ≤ a
  · go_enter Try.func45, Try.ntmps45
    go_wp2
    go_ret
    exact ⟨by simp [h], rfl⟩
  · go_enter Try.func45, Try.ntmps45
    go_wp2
    go_ret
    exact ⟨by simp; omega, rfl⟩

theorem hand_FieldOk (a : Int) (w : World) : Calls Try.prog 65 #[.int .i64 a] w fun e w' => e = .returned (.bool (okN a)) ∧ w = w' := by
  go_enter Try.func65, Try.ntmps65
  go_wp2_with (go_at_call 45; refine (hand_within _ _ _ _).mono ?_; rintro e w' ⟨rfl, rfl⟩)
  go_ret
  exact ⟨by simp [okN], rfl⟩

theorem hand_not (a : Int) (w : World) : Calls Try.prog 64 #[.int .i64 a] w fun e w' => e = .returned (.bool (!okN a)) ∧ w = w' := by
  go_enter Try.func64, Try.ntmps64
  go_wp2_with (go_at_call 65; refine (hand_FieldOk _ _).mono ?_; rintro e w' ⟨rfl, rfl⟩)
  go_ret
  exact ⟨by simp, rfl⟩

/-- Where the first number stands that is none of the field; -1 if there is none. -/
def bad (l : List Int) : Int := if l.all okN then -1 else ((l.takeWhile okN).length : Int)

theorem all_take {l : List Int} {k : Nat} (hk : k < l.length) (h : (l.take k).all okN = true) (hx : okN (l.getD k 0) = true) : (l.take (k + 1)).all okN = true := by
  rw [List.take_succ_eq_append_getElem hk, List.all_append, h]
  simpa [List.getD_eq_getElem?_getD, List.getElem?_eq_getElem hk] using hx

theorem bad_at {l : List Int} {k : Nat} (hk : k < l.length) (h : (l.take k).all okN = true) (hx : okN (l.getD k 0) = false) : bad l = (k : Int) := by
  have e : l = l.take k ++ l[k] :: l.drop (k + 1) := by rw [List.getElem_cons_drop, List.take_append_drop]
  have hx' : okN l[k] = false := by simpa [List.getD_eq_getElem?_getD, List.getElem?_eq_getElem hk] using hx
  have ht : l.takeWhile okN = l.take k := by
    conv => lhs; rw [e]
    rw [List.takeWhile_append_of_pos (by simpa [List.all_eq_true] using h), List.takeWhile_cons, hx']
    simp
  have ha : l.all okN = false := by
    rw [e, List.all_append, List.all_cons, hx']
    simp
  unfold bad
  rw [ha, ht]
  simp
  omega

theorem hand_IndexFunc (A : Option Addr) (c : Nat) (l : List Int) (w : World) (hr : Kd.C (Kd.int .i64) w A l.length l) :
    Calls Try.prog 66 #[.slice A l.length c, .func (.func 64) #[] #[]] w fun e w' => e = .returned (.int .i64 (bad l)) ∧ w = w' := by
  have hm := Kd.C_max hr
  have HR := Aside0.mk hr
  clear hr
  go_enter Try.func66, Try.ntmps66
  go_wp2
  go_loop [8] (fun i => ∃ k : Nat, k ≤ l.length ∧ Aside0 ((l.take k).all okN = true) ∧ i = .int .i64 k) (fun i => l.length - (intOf i).toNat)
  case atStart => exact ⟨0, Nat.zero_le _, ⟨by simp⟩, rfl⟩
  case round =>
    obtain ⟨k, hk, HA, rfl⟩ := hrel
    by_cases hlt : k < l.length
    · obtain ⟨ad, rfl, hc⟩ := Kd.at_int HR.out (k : Int) (by omega) (by omega)
      rw [Int.toNat_natCast] at hc
      have hrd : rd l (k : Int) = l.getD k 0 := rfl
      have HD := Aside0.mk hrd
      clear hrd
      cases hx : okN (rd l (k : Int)) with
      | true =>
        have HT := Aside0.mk (all_take hlt HA.out (by rw [← HD.out]; exact hx))
        go_wp2_with (go_at_call 64; refine (hand_not _ _).mono ?_; rintro e w' ⟨rfl, rfl⟩)
        go_round
        case rel => exact ⟨k + 1, by omega, HT, by go_num⟩
        case measure => simp [intOf]; omega
      | false =>
        have HT := Aside0.mk (bad_at hlt HA.out (by rw [← HD.out]; exact hx))
        go_wp2_with (go_at_call 64; refine (hand_not _ _).mono ?_; rintro e w' ⟨rfl, rfl⟩)
        go_ret
        exact ⟨by rw [HT.out]; rfl, rfl⟩
    · go_wp2
      go_ret
      exact ⟨by have : l.all okN = true := by (have := HA.out; rwa [show k = l.length by omega, List.take_length] at this)
                rw [bad, if_pos this]; rfl, rfl⟩

theorem bad_neg (l : List Int) : decide (0 ≤ bad l) = !l.all okN := by
  unfold bad
  split
  · rename_i h; rw [h]; rfl
  · rename_i h; simp only [Bool.not_eq_true] at h; rw [h]; simp

theorem hand_ContainsFunc (A : Option Addr) (c : Nat) (l : List Int) (w : World) (hr : Kd.C (Kd.int .i64) w A l.length l) :
    Calls Try.prog 63 #[.slice A l.length c, .func (.func 64) #[] #[]] w fun e w' => e = .returned (.bool (!l.all okN)) ∧ w = w' := by
  have HR := Aside0.mk hr
  clear hr
  go_enter Try.func63, Try.ntmps63
  go_wp2_with (go_at_call 66; refine (hand_IndexFunc _ _ _ _ HR.out).mono ?_; rintro e w' ⟨rfl, rfl⟩)
  go_ret
  exact ⟨by rw [← bad_neg]; simp, rfl⟩

theorem impl_elementsOk.calls (A0 : Option Addr) (c0 : Nat) (l0 : List Int) (a1 : Int) (r : Bool) (w : World) (hr0 : Kd.C (Kd.int .i64) w A0 l0.length l0) (hc0 : l0.length ≤ c0) (h : impl_elementsOk.f l0 a1 = some r) :
    Calls Try.prog 58 #[.slice A0 l0.length c0, .int .i64 a1] w fun e w' => e = .returned (.bool r) ∧ Drawn0 w w' := by
  have HR := Aside0.mk hr0
  have HH := Aside0.mk (Option.some.inj h)
  clear hr0 h
  by_cases h : (l0.length : Int) ≤ a1
  · go_enter Try.func58, Try.ntmps58
    go_wp2_with (go_at_call 63; refine (hand_ContainsFunc _ _ _ _ HR.out).mono ?_; rintro e w' ⟨rfl, rfl⟩)
    go_ret
    exact ⟨by rw [← HH.out]; simp [h], Drawn0.refl _⟩
  · have HD := Aside0.mk (decide_eq_false h)
    go_enter Try.func58, Try.ntmps58
    go_wp2
    go_ret
    exact ⟨by rw [← HH.out, HD.out]; rfl, Drawn0.refl _⟩




end Go.Proofs.Ytnkdgonekadibaa.P
