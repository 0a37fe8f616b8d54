/- Contracts of the functions that the kit's printer does not take (closures, iterators, arrays, interfaces), in the printer's own form: what each answers, as a Lean function on lists of numbers, and that the program's call comes to just that. Conditions: where the Lean function answers none nothing is said. -/
import Derived.RangeFuncNested
import Derived.RangeFuncBound
import Derived.RangeFuncCalls
import Derived.RangeFuncLeaves
import Derived.RangeFuncBox
import Derived.Shelf.Abstract
import Derived.Shelf.RegionOpen
import Derived.WalkKit
import Derived.OwnWalkIn
import Derived.TacticsInMore
import Derived.LoopNIn
import Derived.LoopIn
import Derived.Maps.AppendAt
import Derived.Test.YtdamainjflpgpaaWWords
import Derived.Test.YtdamainjflpgpaaWLast
import Derived.Test.YtdamainjflpgpaaNum
import Derived.Test.YtdamainjflpgpaaProg
namespace Go.Proofs.Ytdamainjflpgpaa.P
open Go.RowKit Go.Shelf Go.Proofs.YtdamainjflpgpaaW.PrintWords Go.Proofs.Ytdamainjflpgpaa.Num
set_option linter.unusedVariables false
set_option linter.unusedSimpArgs false

/-- A number of the field. -/
def okN (n : Int) : Bool := decide (0 ≤ n ∧ n ≤ 30)

def impl_elementsOk.f (l0 : List Int) (a1 : Int) : Option Bool := some (decide ((l0.length : Int) ≤ a1) && l0.all okN)

theorem hand_within (a b c : Int) (w : World) : Calls Try.prog 56 #[.int .i64 a, .int .i64 b, .int .i64 c] w fun e w' => e = .returned (.bool (decide (b ≤ a ∧ a ≤ c))) ∧ w = w' := by
  by_cases h : b ≤ a
  · go_enter Try.func56, Try.ntmps56
    go_wp2
    go_ret
    exact ⟨by simp [h], rfl⟩
  · go_enter Try.func56, Try.ntmps56
    go_wp2
    go_ret
    exact ⟨by simp; omega, rfl⟩

theorem hand_FieldOk (a : Int) (w : World) : Calls Try.prog 41 #[.int .i64 a] w fun e w' => e = .returned (.bool (okN a)) ∧ w = w' := by
  go_enter Try.func41, Try.ntmps41
  go_wp2_with (go_at_call 56; refine (hand_within _ _ _ _).mono ?_; rintro e w' ⟨rfl, rfl⟩)
  go_ret
  exact ⟨by simp [okN], rfl⟩

theorem hand_not (a : Int) (w : World) : Calls Try.prog 55 #[.int .i64 a] w fun e w' => e = .returned (.bool (!okN a)) ∧ w = w' := by
  go_enter Try.func55, Try.ntmps55
  go_wp2_with (go_at_call 41; refine (hand_FieldOk _ _).mono ?_; rintro e w' ⟨rfl, rfl⟩)
  go_ret
  exact ⟨by simp, rfl⟩

/-- Where the first number stands that is none of the field; -1 if there is none. -/
def bad (l : List Int) : Int := if l.all okN then -1 else ((l.takeWhile okN).length : Int)

theorem all_take {l : List Int} {k : Nat} (hk : k < l.length) (h : (l.take k).all okN = true) (hx : okN (l.getD k 0) = true) : (l.take (k + 1)).all okN = true := by
  rw [List.take_succ_eq_append_getElem hk, List.all_append, h]
  simpa [List.getD_eq_getElem?_getD, List.getElem?_eq_getElem hk] using hx

theorem bad_at {l : List Int} {k : Nat} (hk : k < l.length) (h : (l.take k).all okN = true) (hx : okN (l.getD k 0) = false) : bad l = (k : Int) := by
  have e : l = l.take k ++ l[k] :: l.drop (k + 1) := by rw [List.getElem_cons_drop, List.take_append_drop]
  have hx' : okN l[k] = false := by simpa [List.getD_eq_getElem?_getD, List.getElem?_eq_getElem hk] using hx
  have ht : l.takeWhile okN = l.take k := by
    conv => lhs; rw [e]
    rw [List.takeWhile_append_of_pos (by simpa [List.all_eq_true] using h), List.takeWhile_cons, hx']
    simp
  have ha : l.all okN = false := by
    rw [e, List.all_append, List.all_cons, hx']
    simp
  unfold bad
  rw [ha, ht]
  simp
  omega

theorem hand_IndexFunc (A : Option Addr) (c : Nat) (l : List Int) (w : World) (hr : Kd.C (Kd.int .i64) w A l.length l) :
    Calls Try.prog 64 #[.slice A l.length c, .func (.func 55) #[] #[]] w fun e w' => e = .returned (.int .i64 (bad l)) ∧ w = w' := by
  have hm := Kd.C_max hr
  have HR := Aside0.mk hr
  clear hr
  go_enter Try.func64, Try.ntmps64
  go_wp2
  go_loop [8] (fun i => ∃ k : Nat, k ≤ l.length ∧ Aside0 ((l.take k).all okN = true) ∧ i = .int .i64 k) (fun i => l.length - (intOf i).toNat)
  case atStart => exact ⟨0, Nat.zero_le _, ⟨by simp⟩, rfl⟩
  case round =>
    obtain ⟨k, hk, HA, rfl⟩ := hrel
    by_cases hlt : k < l.length
    · obtain ⟨ad, rfl, hc⟩ := Kd.at_int HR.out (k : Int) (by omega) (by omega)
      rw [Int.toNat_natCast] at hc
      have hrd : rd l (k : Int) = l.getD k 0 := rfl
      have HD := Aside0.mk hrd
      clear hrd
      cases hx : okN (rd l (k : Int)) with
      | true =>
        have HT := Aside0.mk (all_take hlt HA.out (by rw [← HD.out]; exact hx))
        go_wp2_with (go_at_call 55; refine (hand_not _ _).mono ?_; rintro e w' ⟨rfl, rfl⟩)
        go_round
        case rel => exact ⟨k + 1, by omega, HT, by go_num⟩
        case measure => simp [intOf]; omega
      | false =>
        have HT := Aside0.mk (bad_at hlt HA.out (by rw [← HD.out]; exact hx))
        go_wp2_with (go_at_call 55; refine (hand_not _ _).mono ?_; rintro e w' ⟨rfl, rfl⟩)
        go_ret
        exact ⟨by rw [HT.out]; rfl, rfl⟩
    · go_wp2
      go_ret
      exact ⟨by have : l.all okN = true := by (have := HA.out; rwa [show k = l.length by omega, List.take_length] at this)
                rw [bad, if_pos this]; rfl, rfl⟩

theorem bad_neg (l : List Int) : decide (0 ≤ bad l) = !l.all okN := by
  unfold bad
  split
  · rename_i h; rw [h]; rfl
  · rename_i h; simp only [Bool.not_eq_true] at h; rw [h]; simp

theorem hand_ContainsFunc (A : Option Addr) (c : Nat) (l : List Int) (w : World) (hr : Kd.C (Kd.int .i64) w A l.length l) :
    Calls Try.prog 54 #[.slice A l.length c, .func (.func 55) #[] #[]] w fun e w' => e = .returned (.bool (!l.all okN)) ∧ w = w' := by
  have HR := Aside0.mk hr
  clear hr
  go_enter Try.func54, Try.ntmps54
  go_wp2_with (go_at_call 64; refine (hand_IndexFunc _ _ _ _ HR.out).mono ?_; rintro e w' ⟨rfl, rfl⟩)
  go_ret
  exact ⟨by rw [← bad_neg]; simp, rfl⟩

theorem impl_elementsOk.calls (A0 : Option Addr) (c0 : Nat) (l0 : List Int) (a1 : Int) (r : Bool) (w : World) (hr0 : Kd.C (Kd.int .i64) w A0 l0.length l0) (hc0 : l0.length ≤ c0) (h : impl_elementsOk.f l0 a1 = some r) :
    Calls Try.prog 39 #[.slice A0 l0.length c0, .int .i64 a1] w fun e w' => e = .returned (.bool r) ∧ Drawn0 w w' := by
  have HR := Aside0.mk hr0
  have HH := Aside0.mk (Option.some.inj h)
  clear hr0 h
  by_cases h : (l0.length : Int) ≤ a1
  · go_enter Try.func39, Try.ntmps39
    go_wp2_with (go_at_call 54; refine (hand_ContainsFunc _ _ _ _ HR.out).mono ?_; rintro e w' ⟨rfl, rfl⟩)
    go_ret
    exact ⟨by rw [← HH.out]; simp [h], Drawn0.refl _⟩
  · have HD := Aside0.mk (decide_eq_false h)
    go_enter Try.func39, Try.ntmps39
    go_wp2
    go_ret
    exact ⟨by rw [← HH.out, HD.out]; rfl, Drawn0.refl _⟩

theorem hand_elementOf (a : Int) (w : World) : Calls Try.prog 63 #[.int .i64 a] w fun e w' => e = .returned (.int .i64 (a % 31)) ∧ w = w' := by
  go_enter Try.func63, Try.ntmps63
  go_wp2
  go_ret
  exact ⟨by rw [← elem_eq]; simp, rfl⟩
theorem hand_plus (a b : Int) (w : World) : Calls Try.prog 52 #[.int .i64 a, .int .i64 b] w fun e w' => e = .returned (.int .i64 (wrap64 (a + b) % 31)) ∧ w = w' := by
  go_enter Try.func52, Try.ntmps52
  go_wp2_with (go_at_call 63; refine (hand_elementOf _ _).mono ?_; rintro e w' ⟨rfl, rfl⟩)
  go_ret
  exact ⟨rfl, rfl⟩
theorem hand_minus (a b : Int) (w : World) : Calls Try.prog 61 #[.int .i64 a, .int .i64 b] w fun e w' => e = .returned (.int .i64 (wrap64 (a - b) % 31)) ∧ w = w' := by
  go_enter Try.func61, Try.ntmps61
  go_wp2_with (go_at_call 63; refine (hand_elementOf _ _).mono ?_; rintro e w' ⟨rfl, rfl⟩)
  go_ret
  exact ⟨rfl, rfl⟩
theorem hand_times (a b : Int) (w : World) : Calls Try.prog 53 #[.int .i64 a, .int .i64 b] w fun e w' => e = .returned (.int .i64 (wrap64 (a * b) % 31)) ∧ w = w' := by
  go_enter Try.func53, Try.ntmps53
  go_wp2_with (go_at_call 63; refine (hand_elementOf _ _).mono ?_; rintro e w' ⟨rfl, rfl⟩)
  go_ret
  exact ⟨rfl, rfl⟩

/-- What has come when k rounds are over: f 0, .., f (k - 1). -/
def upto {α : Type} (f : Nat → α) (k : Nat) : List α := (List.range k).map f
theorem upto_succ {α : Type} (f : Nat → α) (k : Nat) : upto f (k + 1) = upto f k ++ [f k] := by simp [upto, List.range_succ]
theorem upto_length {α : Type} (f : Nat → α) (k : Nat) : (upto f k).length = k := by simp [upto]

/-- Element j from behind: its index, and it. -/
def back (l : List Int) (j : Nat) : Nat × Int := (l.length - 1 - j, l.getD (l.length - 1 - j) 0)

attribute [local go_sem] Oper.semAt_some

set_option maxRecDepth 100000 in
set_option maxHeartbeats 2000000 in
/-- slices.Backward's closure: for every loop body that keeps the row and the variable that holds it. -/
theorem hand_backward1 (F : Fence) (n : Nat) (hg : F.fn 65) (hro : F.round = none) (hn : 1 ≤ n) (Kp : World → World → Prop) (kr : ∀ W, Kp W W) (kt : ∀ {A B C : World}, Kp A B → Kp B C → Kp A C) (l Bs c : Nat) (A : Option Addr) (zs : List Int) (J Jx : List (Nat × Int) → World → Prop)
    (hY : ∀ pre x W, J pre W → pre.length < zs.length → YieldAt F (n - 1) Try.prog l #[.int .i64 (x.1 : Int), .int .i64 x.2] W fun e W' =>
      (e = .returned (.bool true) ∧ J (pre ++ [x]) W' ∧ Kp W W') ∨ (e = .returned (.bool false) ∧ Jx (pre ++ [x]) W'))
    (W : World) (hBs : ∀ W', Kp W W' → W'.cell? ⟨Bs, 0, none⟩ = some (.slice A zs.length c)) (hc : ∀ W', Kp W W' → Kd.C (Kd.int .i64) W' A zs.length zs) (h0 : J [] W) :
    CallsIn F n Try.prog 65 #[.func (.yield l) #[] #[], .pointer (some ⟨Bs, 0, none⟩)] W fun e W' => (∃ v, e = .returned v) ∧
      ((∃ ys, ys = upto (back zs) zs.length ∧ J ys W') ∨ (∃ pre, (∃ k, k ≤ zs.length ∧ pre = upto (back zs) k) ∧ Jx pre W')) := by
  have hlen := Kd.C_max (hc W (kr _))
  have HB := Aside0.mk hBs
  have HC := Aside0.mk hc
  clear hc hBs
  have hb0 := HB.out W (kr _)
  refine callsIn_of_wp Try.func65 rfl hg ?_ hro
  simp only [Try.ntmps65, List.size_toArray, List.length_cons, List.length_nil, Nat.reduceAdd, Nat.reduceSub, Array.replicate_succ, Array.replicate_zero, List.push_toArray, List.append_toArray, List.nil_append, List.cons_append]
  gi_wp2
  clear hb0
  gi_loopw [3] (fun i wr => ∃ k : Nat, k ≤ zs.length ∧ i = .int .i64 ((zs.length : Int) - 1 - k) ∧ J (upto (back zs) k) wr ∧ Kp W wr)
    (fun i _ => (intOf i + 1).toNat)
  case atStart => exact ⟨0, Nat.zero_le _, by simp, h0, kr _⟩
  case round =>
    obtain ⟨k, hk, rfl, hJs, hnx⟩ := hrel
    have hbs := HB.out wr hnx
    by_cases hlt : k < zs.length
    · obtain ⟨m, hm⟩ : ∃ m : Nat, m = zs.length - 1 - k := ⟨_, rfl⟩
      have hm' : (zs.length : Int) - 1 - k = (m : Int) := by omega
      obtain ⟨ad, rfl, hcx⟩ := Kd.at_int (HC.out wr hnx) (m : Int) (by omega) (by omega)
      rw [Int.toNat_natCast] at hcx
      have hbk : back zs k = (m, rd zs (m : Int)) := by subst hm; rfl
      obtain ⟨fn, tmps, assign, body, hy, hR⟩ := hY _ (m, rd zs (m : Int)) wr hJs (by rw [upto_length]; exact hlt)
      dsimp only at hy
      have HK := Aside0.mk hbk
      have HM := Aside0.mk hm
      have hml : m < zs.length := by omega
      have hmk : m + k + 1 = zs.length := by omega
      have HMK := Aside0.mk hmk
      rw [hm']
      clear hbk hm hm' hmk hJs
      gi_wp2
      refine hR.mono ?_
      rintro e W3 (⟨rfl, hJ3, hk3⟩ | ⟨rfl, hJx3⟩)
      · gi_wp2
        go_roundw
        case rel =>
          refine ⟨k + 1, hlt, ?_, ?_, ?_⟩
          · have h1 := HMK.out; have h2 : (m : Int) - 1 = (zs.length : Int) - 1 - ((k + 1 : Nat) : Int) := by omega
            rw [← h2]
          · rw [upto_succ, HK.out]; exact hJ3
          · exact kt hnx hk3
        case measure => simp [intOf]
      · gi_wp2
        refine bodyPost_ret (results_none rfl _ _ _) rfl ?_
        exact ⟨⟨_, rfl⟩, .inr ⟨_, ⟨k + 1, by omega, by rw [upto_succ, HK.out]⟩, hJx3⟩⟩
    · obtain rfl : k = zs.length := by omega
      have hm' : (zs.length : Int) - 1 - (zs.length : Int) = -1 := by omega
      rw [hm']
      clear hm'
      gi_wp2
      go_end0
      exact ⟨⟨_, rfl⟩, .inl ⟨_, rfl, hJs⟩⟩

/-- What lay below n₀ lies as it lay, and one block more. -/
def KeepB (n₀ b : Nat) (W W' : World) : Prop := Below n₀ W W' ∧ W'.heap[b]? = W.heap[b]?
theorem keepB_r (n₀ b : Nat) (W : World) : KeepB n₀ b W W := ⟨Below.refl _ _, rfl⟩
theorem keepB_t {n₀ b : Nat} {A B C : World} (h : KeepB n₀ b A B) (k : KeepB n₀ b B C) : KeepB n₀ b A C := ⟨h.1.trans k.1, k.2.trans h.2⟩
theorem keepB_b {n₀ b : Nat} {w : World} (hn : n₀ ≤ w.heap.size) (hb : b < w.heap.size) (W : World) (l : Nat) (o o' : Obj) (hl : w.heap.size ≤ l) (h : W.heap[l]? = some o) (h1 : o.isCells = false) (h2 : o.isWalk = false) : KeepB n₀ b W (W.putObj l o') :=
  ⟨belowK_b hn W l o o' hl h h1 h2, World.putObj_heap_other (by omega)⟩

/-- slices.Backward(s): the slice is boxed; the function value captures the box. -/
theorem hand_backward (F : Fence) (n : Nat) (hg : F.fn 57) (hro : F.round = none) (a : Option Addr) (len cap : Nat) (w : World) :
    CallsIn F n Try.prog 57 #[.slice a len cap] w fun e w' => e = .returned (.func (.func 65) #[] #[.pointer (some ⟨w.heap.size, 0, none⟩)]) ∧ w' = w.alloc (.cells #[.slice a len cap] 22) := by
  refine callsIn_of_wp Try.func57 rfl hg ?_ hro
  simp only [Try.ntmps57, List.size_toArray, List.length_cons, List.length_nil, Nat.reduceAdd, Nat.reduceSub, Array.replicate_succ, Array.replicate_zero, List.push_toArray, List.append_toArray, List.nil_append, List.cons_append]
  gi_wp2
  go_ret
  exact ⟨rfl, rfl⟩

theorem hand_backward_stops (F : Fence) (n : Nat) (hg : F.fn 65) (hro : F.round = none) (hn : 1 ≤ n) (w0 w : World) (Bs c : Nat) (A : Option Addr) (zs : List Int) (hr : Kd.C (Kd.int .i64) w0 A zs.length zs) (hb : Below w0.heap.size w0 w)
    (hbox : w.heap[Bs]? = some (.cells #[.slice A zs.length c] 22 (0, 0))) :
    SeqStopsK F n Try.prog 65 #[.pointer (some ⟨Bs, 0, none⟩)] (fun x : Nat × Int => #[Value.int .i64 (x.1 : Int), Value.int .i64 x.2]) (KeepB w0.heap.size Bs) (fun ys => ys = upto (back zs) zs.length)
      (fun pre => ∃ k, k ≤ zs.length ∧ pre = upto (back zs) k) zs.length w := fun l J Jx W hW _ _ hY h0 => by
  have hlt : Bs < w.heap.size := (Array.getElem?_eq_some_iff.1 hbox).1
  have hbW : Below w0.heap.size w0 W := hb.trans (hW.mono hb.size)
  have hboxW : W.heap[Bs]? = some (.cells #[.slice A zs.length c] 22 (0, 0)) := (hW.block Bs hlt).trans hbox
  refine hand_backward1 F n hg hro hn (KeepB w0.heap.size Bs) (keepB_r _ _) (fun h k => keepB_t h k) l Bs c A zs J Jx hY W (fun W' hk => ?_) (fun W' hk => Kd.C_below hr (hbW.trans hk.1)) h0
  exact Boxed.cell (t := 22) (hk.2.trans hboxW)

def hstep (x out c : Int) : Int := wrap64 (wrap64 (out * x) % 31 + c) % 31
def impl_value.f (l0 : List Int) (a1 : Int) : Option Int := some (l0.reverse.foldl (hstep a1) 0)

def hpart (x : Int) (pre : List (Nat × Int)) : Int := (pre.map (·.2)).foldl (hstep x) 0
theorem hpart_snoc (x : Int) (pre : List (Nat × Int)) (y : Nat × Int) : hpart x (pre ++ [y]) = hstep x (hpart x pre) y.2 := by simp [hpart]
theorem back_all (zs : List Int) : (upto (back zs) zs.length).map (·.2) = zs.reverse := by
  apply List.ext_getElem
  · simp [upto]
  · intro i h1 h2
    simp [upto] at h1
    simp [upto, back, List.getElem_reverse, List.getElem?_eq_getElem (show zs.length - 1 - i < zs.length by omega)]

set_option maxRecDepth 100000 in
set_option maxHeartbeats 2000000 in
theorem impl_value.calls (A0 : Option Addr) (c0 : Nat) (l0 : List Int) (a1 : Int) (r : Int) (w : World) (hr0 : Kd.C (Kd.int .i64) w A0 l0.length l0) (hc0 : l0.length ≤ c0) (h : impl_value.f l0 a1 = some r) :
    Calls Try.prog 42 #[.slice A0 l0.length c0, .int .i64 a1] w fun e w' => e = .returned (.int .i64 r) ∧ Below w.heap.size w w' := by
  have HR := Aside0.mk hr0
  have HH := Aside0.mk (Option.some.inj h)
  clear hr0 h
  refine (callsIn_wide (n := 3)).1 ?_
  have hro : Fence.wide.round = none := rfl
  refine callsIn_of_wp_marks Try.func42 rfl trivial ?_ hro
  simp only [Try.ntmps42, List.size_toArray, List.length_cons, List.length_nil, Nat.reduceAdd, Nat.reduceSub, Array.replicate_succ, Array.replicate_zero, List.push_toArray, List.append_toArray, List.nil_append, List.cons_append]
  gi_wp2_with (refine ⟨trivial, ?_⟩; gi_at_call 57; refine (hand_backward Fence.wide _ trivial hro _ _ _ _).mono ?_; rintro e w' ⟨rfl, rfl⟩)
  have bX := Boxed.new w 42 (.int .i64 a1)
  have bO := Boxed.new (w.alloc (.cells #[.int .i64 a1] 42)) 42 (.int .i64 0)
  have bN := Boxed.new ((w.alloc (.cells #[.int .i64 a1] 42)).alloc (.cells #[.int .i64 0] 42)) 22 (.slice A0 l0.length c0)
  simp only [World.size_alloc] at bO bN
  have bX2 := (bX.alloc (.cells #[.int .i64 0] 42)).alloc (.cells #[.slice A0 l0.length c0] 22)
  have bO2 := bO.alloc (.cells #[.slice A0 l0.length c0] 22)
  have hB0 : Below w.heap.size w (((w.alloc (.cells #[.int .i64 a1] 42)).alloc (.cells #[.int .i64 0] 42)).alloc (.cells #[.slice A0 l0.length c0] 22)) := (((Below.refl _ w).alloc (Nat.le_refl _) _).alloc (by simp) _).alloc (by simp; omega) _
  refine wpIn_rangeFunc_ownG hro (by omega : 1 ≤ 3) (gf := 65) (lb := #[.pointer (some ⟨w.heap.size + 1 + 1, 0, none⟩)]) rfl trivial (enters_of Try.func65 (by kernel_rfl) rfl)
    (hand_backward_stops Fence.wide 2 trivial hro (by omega) w _ (w.heap.size + 1 + 1) c0 A0 l0 HR.out hB0 bN) (fun h k => keepB_t h k) (keepB_b (by simp; omega) (by simp)) (Below.refl _ _) (fun _ => rfl)
    (fun pre W => (W.cell? ⟨w.heap.size, 0, none⟩ = some (.int .i64 a1) ∧ W.cell? ⟨w.heap.size + 1, 0, none⟩ = some (.int .i64 (hpart a1 pre)) ∧ W.frozen? ⟨w.heap.size + 1, 0, none⟩ = false) ∧ Below w.heap.size w W)
    (fun _ _ _ => False)
    (OwnFrom.and (Own.from (fun s A B row hs hg hr => ⟨cell_kept hs.1 hg hr, cell_kept hs.2.1 hg hr, (frozen_kept hs.2.1 hg hr).trans hs.2.2⟩) _) (ownFrom_below (Nat.le_refl _) (by simp; omega)))
    (fun _ _ _ _ _ hs _ _ => hs)
    ⟨⟨bX2.cell, bO2.cell, bO2.frozen⟩, hB0⟩
    (fun x => { tmps := #[.slice A0 l0.length c0, .int .i64 a1, undef, .pointer (some ⟨w.heap.size, 0, none⟩), .int .i64 0, .pointer (some ⟨w.heap.size + 1, 0, none⟩), undef, .int .i64 x.2, .slice A0 l0.length c0, .func (.func 65) #[] #[.pointer (some ⟨w.heap.size + 1 + 1, 0, none⟩)], .int .i64 (x.1 : Int), .int .i64 x.2, undef, undef, undef, undef, undef, undef], defers := [] }) ?assign ?body ?done ?stop
  case assign =>
    intro l x W K hK
    gi_wp2
    exact hK
  case body =>
    rintro l pre x W ⟨⟨hx, hc, hf⟩, hB⟩ _
    gi_wp2_with (first | (refine ⟨trivial, ?_⟩; gi_at_call 53; refine (CallsIn.inRound l (callsIn_wide.2 (hand_times _ _ _))).mono ?_; rintro e w' ⟨rfl, rfl⟩) | (refine ⟨trivial, ?_⟩; gi_at_call 52; refine (CallsIn.inRound l (callsIn_wide.2 (hand_plus _ _ _))).mono ?_; rintro e w' ⟨rfl, rfl⟩))
    refine ⟨(KeepsOthers.setCell _ _ _).from _, ⟨(Below.refl w.heap.size W).setCell (p := ⟨w.heap.size + 1, 0, none⟩) (by simp) _, Below.heap_setCell W ⟨w.heap.size + 1, 0, none⟩ _ _ (by simp)⟩, ⟨?_, ?_, ?_⟩, hB.setCell (p := ⟨w.heap.size + 1, 0, none⟩) (by simp) _⟩
    · exact (World.cell?_setCell_other _ _ _ _ (by simp)).trans hx
    · rw [hpart_snoc]; exact World.cell?_setCell_same' _ _ _ (by rw [hc]; rfl)
    · rw [World.frozen?_setCell]; exact hf
  case done =>
    rintro D ys W hD rfl ⟨⟨hx, hc, _⟩, hB⟩ hK
    gi_wp2
    refine ⟨by simp, .inl ⟨_, _, rfl, run_takeDeferred hK, ?_⟩⟩
    exact ⟨_, results_tmp rfl _ _ _, by rw [← HH.out, hpart, back_all]; rfl, hB.trans (belowK_b (w := w) (Nat.le_refl _) W D _ _ (by simp at hD; omega) hK rfl rfl)⟩
  case stop =>
    rintro D c pre W _ _ h _
    exact h.elim

end Go.Proofs.Ytdamainjflpgpaa.P
