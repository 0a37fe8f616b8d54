/- The contract of RandVec, which ranges over an iterator of its own: so many draws, or none and false. Conditions: none. -/
import Derived.RangeFuncNested
import Derived.RangeFuncBound
import Derived.RangeFuncCalls
import Derived.RangeFuncLeaves
import Derived.RangeFuncBox
import Derived.Shelf.Abstract
import Derived.Shelf.RegionOpen
import Derived.WalkKit
import Derived.OwnWalkIn
import Derived.TacticsInMore
import Derived.LoopNIn
import Derived.LoopIn
import Derived.Maps.AppendAt
import Derived.Test.YtpdkdckkhjancaaWWords
import Derived.Test.YtpdkdckkhjancaaWLast
import Derived.Test.YtpdkdckkhjancaaNum
import Derived.Test.YtpdkdckkhjancaaProg
namespace Go.Proofs.Ytpdkdckkhjancaa.P
open Go.RowKit Go.Shelf Go.Proofs.YtpdkdckkhjancaaW.PrintWords Go.Proofs.Ytpdkdckkhjancaa.Num
set_option linter.unusedVariables false
set_option linter.unusedSimpArgs false

/-- A draw, as the program reckons it. -/
def rndI (a0 a1 : Int) : Int := Int.tmod (wrap64 ((wrap64 ((wrap64 ((wrap64 (a0 + (wrap64 (7 * (wrap64 (Int.tdiv a0 31)))))) + (wrap64 ((wrap64 (11 * a1)) * a1)))) + (wrap64 ((wrap64 (26 * a1)) * (Int.tmod a0 31))))) + (wrap64 (3 * a1)))) 31
def seedIn (a : Int) : Bool := decide (0 ≤ a ∧ a ≤ 999)
def placeIn (a : Int) : Bool := decide (0 ≤ a ∧ a ≤ 20)

theorem handR_within (a b c : Int) (w : World) : Calls Try.prog 41 #[.int .i64 a, .int .i64 b, .int .i64 c] w fun e w' => e = .returned (.bool (decide (b ≤ a ∧ a ≤ c))) ∧ w = w' := by
  by_cases h : b ≤ a
  · go_enter Try.func41, Try.ntmps41
    go_wp2
    go_ret
    exact ⟨by simp [h], rfl⟩
  · go_enter Try.func41, Try.ntmps41
    go_wp2
    go_ret
    exact ⟨by simp; omega, rfl⟩

theorem hand_seedOk (a : Int) (w : World) : Calls Try.prog 40 #[.int .i64 a] w fun e w' => e = .returned (.bool (seedIn a)) ∧ w = w' := by
  go_enter Try.func40, Try.ntmps40
  go_wp2_with (go_at_call 41; refine (handR_within _ _ _ _).mono ?_; rintro e w' ⟨rfl, rfl⟩)
  go_ret
  exact ⟨by simp [seedIn], rfl⟩

theorem hand_drawOk (a b : Int) (w : World) (ha : seedIn a = true) (hb : placeIn b = true) : Calls Try.prog 37 #[.int .i64 a, .int .i64 b] w fun e w' => e = .returned (.bool true) ∧ w = w' := by
  have hb' : decide (0 ≤ b ∧ b ≤ 20) = true := hb
  go_enter Try.func37, Try.ntmps37
  go_wp2_with (first | (go_at_call 40; refine (hand_seedOk _ _).mono ?_; rintro e w' ⟨rfl, rfl⟩) | (go_at_call 41; refine (handR_within _ _ _ _).mono ?_; rintro e w' ⟨rfl, rfl⟩))
  go_ret
  exact ⟨by simp [placeIn] at hb; simp [hb], rfl⟩

theorem hand_RandAt (a b : Int) (w : World) (ha : seedIn a = true) (hb : placeIn b = true) : Calls Try.prog 13 #[.int .i64 a, .int .i64 b] w fun e w' => e = .returned (.int .i64 (rndI a b)) ∧ w = w' := by
  have HA := Aside0.mk ha
  have HB := Aside0.mk hb
  clear ha hb
  go_enter Try.func13, Try.ntmps13
  go_wp2_with (go_at_call 37; refine (hand_drawOk _ _ _ HA.out HB.out).mono ?_; rintro e w' ⟨rfl, rfl⟩)
  go_ret
  exact ⟨by unfold rndI; first | rfl | (simp; done), rfl⟩

/-- What has come when k rounds are over. -/
def drawn (s : Int) (k : Nat) : List Int := (List.range k).map fun j : Nat => rndI s (j : Int)
theorem drawn_succ (s : Int) (k : Nat) : drawn s (k + 1) = drawn s k ++ [rndI s (k : Int)] := by simp [drawn, List.range_succ]
theorem drawn_length (s : Int) (k : Nat) : (drawn s k).length = k := by simp [drawn]

/-- What lay below n₀ lies as it lay, and one block more. -/
def KeepD (n₀ b : Nat) (W W' : World) : Prop := Below n₀ W W' ∧ W'.heap[b]? = W.heap[b]?
theorem keepD_r (n₀ b : Nat) (W : World) : KeepD n₀ b W W := ⟨Below.refl _ _, rfl⟩
theorem keepD_t {n₀ b : Nat} {A B C : World} (h : KeepD n₀ b A B) (k : KeepD n₀ b B C) : KeepD n₀ b A C := ⟨h.1.trans k.1, k.2.trans h.2⟩
theorem keepD_b {n₀ b : Nat} {w : World} (hn : n₀ ≤ w.heap.size) (hb : b < w.heap.size) (W : World) (l : Nat) (o o' : Obj) (hl : w.heap.size ≤ l) (h : W.heap[l]? = some o) (h1 : o.isCells = false) (h2 : o.isWalk = false) : KeepD n₀ b W (W.putObj l o') :=
  ⟨belowK_b hn W l o o' hl h h1 h2, World.putObj_heap_other (by omega)⟩

attribute [local go_sem] Oper.semAt_some

set_option maxRecDepth 100000 in
set_option maxHeartbeats 2000000 in
/-- The iterator's own function: for every loop body that keeps the seed's variable. -/
theorem hand_draws1 (n : Nat) (hn : 1 ≤ n) (Kp : World → World → Prop) (kr : ∀ W, Kp W W) (kt : ∀ {A B C : World}, Kp A B → Kp B C → Kp A C) (l Bm Bs : Nat) (s : Int) (m : Nat) (hs : seedIn s = true) (hm : m ≤ 20) (J Jx : List Int → World → Prop)
    (hY : ∀ pre x W, J pre W → pre.length < m → YieldAt Fence.wide (n - 1) Try.prog l #[.int .i64 x] W fun e W' =>
      (e = .returned (.bool true) ∧ J (pre ++ [x]) W' ∧ Kp W W') ∨ (e = .returned (.bool false) ∧ Jx (pre ++ [x]) W'))
    (W : World) (hBm : W.cell? ⟨Bm, 0, none⟩ = some (.int .i64 m)) (hBs : ∀ W', Kp W W' → W'.cell? ⟨Bs, 0, none⟩ = some (.int .i64 s)) (h0 : J [] W) :
    CallsIn Fence.wide n Try.prog 53 #[.func (.yield l) #[] #[], .pointer (some ⟨Bm, 0, none⟩), .pointer (some ⟨Bs, 0, none⟩)] W fun e W' => (∃ v, e = .returned v) ∧
      ((∃ ys, ys = drawn s m ∧ J ys W') ∨ (∃ pre, (∃ k, k ≤ m ∧ pre = drawn s k) ∧ Jx pre W')) := by
  have HB := Aside0.mk hBs
  have HS := Aside0.mk hs
  clear hBs hs
  have hro : Fence.wide.round = none := rfl
  refine callsIn_of_wp Try.func53 rfl trivial ?_ hro
  simp only [Try.ntmps53, List.size_toArray, List.length_cons, List.length_nil, Nat.reduceAdd, Nat.reduceSub, Array.replicate_succ, Array.replicate_zero, List.push_toArray, List.append_toArray, List.nil_append, List.cons_append]
  gi_wp2
  clear hBm
  gi_loopw [6] (fun i wr => ∃ k : Nat, k ≤ m ∧ i = .int .i64 k ∧ J (drawn s k) wr ∧ Kp W wr)
    (fun i _ => m - (intOf i).toNat)
  case atStart => exact ⟨0, Nat.zero_le _, rfl, by simpa [drawn] using h0, kr _⟩
  case round =>
    obtain ⟨k, hk, rfl, hJs, hnx⟩ := hrel
    have hbs := HB.out wr hnx
    by_cases hlt : k < m
    · obtain ⟨fn, tmps, assign, body, hy, hR⟩ := hY _ (rndI s (k : Int)) wr hJs (by rw [drawn_length]; exact hlt)
      have HP := Aside0.mk (show placeIn (k : Int) = true by simp [placeIn]; omega)
      clear hJs
      gi_wp2_with (refine ⟨trivial, ?_⟩; gi_at_call 13; refine (callsIn_wide.2 (hand_RandAt _ _ _ HS.out HP.out)).mono ?_; rintro e w' ⟨rfl, rfl⟩)
      refine hR.mono ?_
      rintro e W3 (⟨rfl, hJ3, hk3⟩ | ⟨rfl, hJx3⟩)
      · gi_wp2
        go_roundw
        case rel => exact ⟨k + 1, by omega, by go_num, by rw [drawn_succ]; exact hJ3, kt hnx hk3⟩
        case measure => simp [intOf]; omega
      · gi_wp2
        refine bodyPost_ret (results_none rfl _ _ _) rfl ?_
        exact ⟨⟨_, rfl⟩, .inr ⟨_, ⟨k + 1, by omega, by rw [drawn_succ]⟩, hJx3⟩⟩
    · obtain rfl : k = m := by omega
      gi_wp2
      go_end0
      exact ⟨⟨_, rfl⟩, .inl ⟨_, rfl, hJs⟩⟩

/-- draws(seed, many): both are boxed; the function value captures the boxes. -/
theorem hand_draws (n : Nat) (s m : Int) (w : World) :
    CallsIn Fence.wide n Try.prog 42 #[.int .i64 s, .int .i64 m] w fun e w' => e = .returned (.func (.func 53) #[] #[.pointer (some ⟨w.heap.size + 1, 0, none⟩), .pointer (some ⟨w.heap.size, 0, none⟩)]) ∧ w' = (w.alloc (.cells #[.int .i64 s] 3)).alloc (.cells #[.int .i64 m] 3) := by
  have hro : Fence.wide.round = none := rfl
  refine callsIn_of_wp Try.func42 rfl trivial ?_ hro
  simp only [Try.ntmps42, List.size_toArray, List.length_cons, List.length_nil, Nat.reduceAdd, Nat.reduceSub, Array.replicate_succ, Array.replicate_zero, List.push_toArray, List.append_toArray, List.nil_append, List.cons_append]
  gi_wp2
  go_ret
  exact ⟨rfl, rfl⟩

theorem hand_draws_stops (n : Nat) (hn : 1 ≤ n) (n₀ : Nat) (w : World) (Bm Bs : Nat) (s : Int) (m : Nat) (hs : seedIn s = true) (hm : m ≤ 20)
    (hbm : Boxed w Bm 3 (.int .i64 m)) (hbs : Boxed w Bs 3 (.int .i64 s)) :
    SeqStopsK Fence.wide n Try.prog 53 #[.pointer (some ⟨Bm, 0, none⟩), .pointer (some ⟨Bs, 0, none⟩)] (fun x : Int => #[Value.int .i64 x]) (KeepD n₀ Bs) (fun ys => ys = drawn s m)
      (fun pre => ∃ k, k ≤ m ∧ pre = drawn s k) m w := fun l J Jx W hW _ _ hY h0 => by
  have h1 : Boxed W Bm 3 (.int .i64 m) := (hW.block Bm hbm.lt).trans hbm
  have h2 : Boxed W Bs 3 (.int .i64 s) := (hW.block Bs hbs.lt).trans hbs
  exact hand_draws1 n hn (KeepD n₀ Bs) (keepD_r _ _) (fun h k => keepD_t h k) l Bm Bs s m hs hm J Jx hY W h1.cell (fun W' hk => Boxed.cell (t := 3) (hk.2.trans h2)) h0

def impl_RandVec.f (a0 a1 : Int) : Option (List Int × Bool) := some (if seedIn a0 && placeIn a1 then (drawn a0 a1.toNat, true) else ([], false))

theorem infoR : (Try.prog.info? 3).map (fun i => (i.zero, i.size, i.bytes)) = some (some (.int .i64 0), 1, 8) := by kernel_rfl

theorem handR_no (a0 a1 : Int) (w : World) (h : (seedIn a0 && placeIn a1) = false) :
    Calls Try.prog 17 #[.int .i64 a0, .int .i64 a1] w fun e w' => e = .returned (.tuple #[.slice none 0 0, .bool false]) ∧ w = w' := by
  cases hs : seedIn a0 with
  | false =>
    clear h
    go_enter Try.func17, Try.ntmps17
    go_wp2_with (go_at_call 40; refine (hand_seedOk _ _).mono ?_; rintro e w' ⟨rfl, rfl⟩)
    go_ret2
    exact ⟨rfl, rfl⟩
  | true =>
    rw [hs] at h
    have hp : decide (0 ≤ a1 ∧ a1 ≤ 20) = false := by simpa [placeIn] using h
    clear h
    go_enter Try.func17, Try.ntmps17
    go_wp2_with (first | (go_at_call 40; refine (hand_seedOk _ _).mono ?_; rintro e w' ⟨rfl, rfl⟩) | (go_at_call 41; refine (handR_within _ _ _ _).mono ?_; rintro e w' ⟨rfl, rfl⟩))
    go_ret2
    exact ⟨rfl, rfl⟩

set_option maxRecDepth 100000 in
set_option maxHeartbeats 2000000 in
theorem handR_yes (a0 : Int) (m : Nat) (w : World) (hs : seedIn a0 = true) (hm : m ≤ 20) :
    Calls Try.prog 17 #[.int .i64 a0, .int .i64 m] w fun e w' => ∃ v0_ : Value, e = .returned (.tuple #[v0_, .bool true]) ∧ Kd.R (Kd.int .i64) 3 w' w.heap.size (fun _ => True) v0_ (drawn a0 m) ∧ Below w.heap.size w w' := by
  obtain ⟨i0, hi, hz0, hz1, hz2⟩ := info_parts infoR
  have hp : decide (0 ≤ (m : Int) ∧ (m : Int) ≤ 20) = true := by simp; omega
  have hp2 : decide ((m : Int) ≤ 20) = true := by simp; omega
  have HS := Aside0.mk hs
  refine (callsIn_wide (n := 3)).1 ?_
  have hro : Fence.wide.round = none := rfl
  refine callsIn_of_wp_marks Try.func17 rfl trivial ?_ hro
  simp only [Try.ntmps17, List.size_toArray, List.length_cons, List.length_nil, Nat.reduceAdd, Nat.reduceSub, Array.replicate_succ, Array.replicate_zero, List.push_toArray, List.append_toArray, List.nil_append, List.cons_append]
  gi_wp2_with (first
    | (refine ⟨trivial, ?_⟩; gi_at_call 40; refine (callsIn_wide.2 (hand_seedOk _ _)).mono ?_; rintro e w' ⟨rfl, rfl⟩)
    | (refine ⟨trivial, ?_⟩; gi_at_call 41; refine (callsIn_wide.2 (handR_within _ _ _ _)).mono ?_; rintro e w' ⟨rfl, rfl⟩)
    | (gi_at_make; refine wpListIn_make_own _ rfl _ _ 26 rfl w.heap.size 3 i0 (.int .i64 0) 1 Try.underlying26 hi hz0 hz1 .i64 .i64 _ m rfl rfl rfl (by rw [hz2]; omega) (by unfold maxLen; omega) (Nat.le_refl _) ?_; intro w1 hown1 hgrow1)
    | (refine ⟨trivial, ?_⟩; gi_at_call 42; refine (hand_draws _ _ _ _).mono ?_; rintro e w' ⟨rfl, rfl⟩))
  have hsz := hgrow1.size
  have hB1 : Below w.heap.size w w1 := (Below.refl _ w).grown hgrow1 (Nat.le_refl _) (fun k e => by cases e)
  obtain ⟨B, hBe⟩ : ∃ B, B = w1.heap.size := ⟨_, rfl⟩
  have hle : w.heap.size ≤ B := by rw [hBe]; exact hsz
  have bO := Boxed.new w1 26 (.slice (some ⟨w.heap.size, 0, none⟩) 0 m)
  have bS := Boxed.new (w1.alloc (.cells #[.slice (some ⟨w.heap.size, 0, none⟩) 0 m] 26)) 3 (.int .i64 a0)
  have bM := Boxed.new ((w1.alloc (.cells #[.slice (some ⟨w.heap.size, 0, none⟩) 0 m] 26)).alloc (.cells #[.int .i64 a0] 3)) 3 (.int .i64 m)
  simp only [World.size_alloc] at bS bM
  have bO2 := (bO.alloc (.cells #[.int .i64 a0] 3)).alloc (.cells #[.int .i64 m] 3)
  have bS2 := bS.alloc (.cells #[.int .i64 m] 3)
  have hB0 : Below w.heap.size w (((w1.alloc (.cells #[.slice (some ⟨w.heap.size, 0, none⟩) 0 m] 26)).alloc (.cells #[.int .i64 a0] 3)).alloc (.cells #[.int .i64 m] 3)) := ((hB1.alloc hsz _).alloc (by simp; omega) _).alloc (by simp; omega) _
  have hrow0 := ((hown1.alloc (.cells #[.slice (some ⟨w.heap.size, 0, none⟩) 0 m] 26)).alloc (.cells #[.int .i64 a0] 3)).alloc (.cells #[.int .i64 m] 3)
  have HW : ∃ W0, (((w1.alloc (.cells #[.slice (some ⟨w.heap.size, 0, none⟩) 0 m] 26)).alloc (.cells #[.int .i64 a0] 3)).alloc (.cells #[.int .i64 m] 3)) = W0 ∧ W0.heap.size = w1.heap.size + 1 + 1 + 1 := ⟨_, rfl, by simp⟩
  obtain ⟨W0, hW0, hsz0⟩ := HW
  rw [hW0] at bM bO2 bS2 hB0 hrow0 ⊢
  clear hW0 bO bS hown1 hgrow1
  refine wpIn_rangeFunc_ownG hro (by omega : 1 ≤ 3) (gf := 53) (lb := #[.pointer (some ⟨w1.heap.size + 1 + 1, 0, none⟩), .pointer (some ⟨w1.heap.size + 1, 0, none⟩)]) rfl trivial (enters_of Try.func53 (by kernel_rfl) rfl)
    (hand_draws_stops 2 (by omega) w.heap.size W0 (w1.heap.size + 1 + 1) (w1.heap.size + 1) a0 m HS.out hm bM bS2) (fun h k => keepD_t h k) (keepD_b (by omega) (by omega)) (Below.refl _ _) (fun _ => rfl)
    (fun (pre : List Int) W => ((∃ v, Boxed W w1.heap.size 26 v ∧ W.ownsRow w.heap.size 3 1 v pre.length (pre.map (Value.int .i64)) ∧ v = .slice (some ⟨w.heap.size, 0, none⟩) pre.length m) ∧ Boxed W (w1.heap.size + 1) 3 (.int .i64 a0)) ∧ Below w.heap.size w W)
    (fun _ _ _ => False)
    (OwnFrom.and (OwnFrom.and (Own.from (holdsRow_own w.heap.size w1.heap.size 26 3 1 (fun pre : List Int => pre.length) (fun pre : List Int => pre.map (Value.int .i64)) (fun (pre : List Int) v => v = .slice (some ⟨w.heap.size, 0, none⟩) pre.length m)) _) (Own.from (boxed_own _ _ (fun _ => .int .i64 a0)) _)) (ownFrom_below (Nat.le_refl _) (by omega)))
    (fun _ _ _ _ _ hs _ _ => hs)
    ⟨⟨⟨_, bO2, hrow0, rfl⟩, bS2⟩, hB0⟩
    (fun x : Int => { tmps := #[.int .i64 a0, .int .i64 m, undef, undef, .slice none 0 0, .bool false, .pointer (some ⟨w1.heap.size, 0, none⟩), .int .i64 x, .int .i64 a0, .bool true, .bool false, .bool false, .int .i64 m, .bool true, .bool false, .bool false, .int .i64 m, .slice (some ⟨w.heap.size, 0, none⟩) 0 m, .int .i64 a0, .int .i64 m, .func (.func 53) #[] #[.pointer (some ⟨w1.heap.size + 1 + 1, 0, none⟩), .pointer (some ⟨w1.heap.size + 1, 0, none⟩)], .int .i64 x, undef, undef, undef, undef, undef], defers := [] }) ?assign ?body ?done ?stop
  case assign =>
    intro l x W K hK
    gi_wp2
    exact hK
  case body =>
    rintro l pre x W ⟨⟨⟨v, hv, hrow, rfl⟩, hbs⟩, hB⟩ hlt
    have hc := hv.cell
    gi_wp2_with (gi_at_builtin; refine wpListIn_append_fits _ rfl _ _ 26 rfl w.heap.size 3 i0 1 Try.underlying26 hi hz1 w.heap.size pre.length m _ rfl (hrow.alloc _) ⟨W.heap.size, 0, none⟩ 1 1 [.int .i64 x] rfl rfl (cell_one_new _ _ _) (by simp [Value.oneCell']) (by omega) ?_; intro w2 hown' hgrow; have HG := Aside0.mk hgrow; obtain ⟨hv1, hv2, hr2, hk2, hb2⟩ := hv.appended (by decide) hrow hB.size (by omega) hown' hgrow; have hc1 := hv1.cell; have hf1 := hv1.frozen)
    have hbs2 : Boxed (w2.setCell ⟨w1.heap.size, 0, none⟩ (.slice (some ⟨w.heap.size, 0, none⟩) (pre.length + 1) m)) (w1.heap.size + 1) 3 (.int .i64 a0) :=
      Boxed.other ((hbs.alloc _).kept HG.out (by simp [Value.ownBlock]; omega)) (by omega) _
    exact ⟨hk2.from _, ⟨hb2, hbs2.trans (Eq.symm hbs)⟩, ⟨⟨_, hv2, by simpa using hr2, by simp⟩, hbs2⟩, hB.trans hb2⟩
  case done =>
    rintro D ys W hD rfl ⟨⟨⟨v, hv, hrow, rfl⟩, _⟩, hB⟩ hK
    have hc := hv.cell
    gi_wp2
    refine ⟨by simp, .inl ⟨_, _, rfl, run_takeDeferred hK, ?_⟩⟩
    have hrow2 := ownsRow_putObj hrow (.deferred none) hK rfl
    refine ⟨_, results_tmp2 (by rfl) _ _ _, _, rfl, Kd.R_of_own hrow2 (fun _ _ => trivial), hB.trans (belowK_b (w := w) (Nat.le_refl _) W D _ _ (by omega) hK rfl rfl)⟩
  case stop =>
    rintro D c pre W _ _ h _
    exact h.elim

theorem impl_RandVec.calls (a0 : Int) (a1 : Int) (r1 : List Int) (r2 : Bool) (w : World) (h : impl_RandVec.f a0 a1 = some (r1, r2)) :
    Calls Try.prog 17 #[.int .i64 a0, .int .i64 a1] w fun e w' => ∃ v0_ : Value, e = .returned (.tuple #[v0_, .bool r2]) ∧ Kd.R (Kd.int .i64) 3 w' w.heap.size (fun _ => True) v0_ r1 ∧ Below w.heap.size w w' := by
  unfold impl_RandVec.f at h
  replace h := Option.some.inj h
  cases hc : (seedIn a0 && placeIn a1) with
  | false =>
    rw [hc] at h
    simp only [Bool.false_eq_true, if_false, Prod.mk.injEq] at h
    obtain ⟨rfl, rfl⟩ := h
    exact (handR_no a0 a1 w hc).mono fun e w' ⟨he, hw⟩ => ⟨_, he, Kd.R_nil _ _ _ _ _, by rw [← hw]; exact Below.refl _ _⟩
  | true =>
    rw [hc] at h
    simp only [if_true, Prod.mk.injEq] at h
    obtain ⟨rfl, rfl⟩ := h
    simp only [Bool.and_eq_true] at hc
    have hb := hc.2
    simp only [placeIn, decide_eq_true_eq] at hb
    obtain ⟨m, rfl⟩ := Int.eq_ofNat_of_zero_le hb.1
    rw [Int.toNat_natCast]
    exact handR_yes a0 m w hc.1 (by omega)

end Go.Proofs.Ytpdkdckkhjancaa.P
