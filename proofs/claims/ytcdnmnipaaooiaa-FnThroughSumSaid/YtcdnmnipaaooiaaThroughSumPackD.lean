import Derived.Test.YtcdnmnipaaooiaaThroughSumPackA
import Derived.Test.YtcdnmnipaaooiaaThroughSumPackC
import Derived.Test.YtcdnmnipaaooiaaKthI
import Derived.Test.YtcdnmnipaaooiaaKthF
import Derived.Test.YtcdnmnipaaooiaaThroughSumPackB
import Derived.KernelRfl
import Derived.Test.YtcdnmnipaaooiaaKthG
-- Written by a program of this session (wip/tools/pack.py): texts of this seat laid one behind the other, without what the claim does not reach
section
namespace Go.Proofs.Ytcdnmnipaaooiaa.P
noncomputable section
open Go.RowKit Go.Proofs.YtcdnmnipaaooiaaW.PrintWords Go.Proofs.YtcdnmnipaaooiaaW.PrintLast Go.Proofs.YtcdnmnipaaooiaaW.PrintMore
attribute [local go_sem] max2_int min2_int max_two min_two max_three min_three max_four min_four   -- for this text's walks alone
set_option linter.unusedVariables false
set_option linter.unusedSimpArgs false
def spec_PolyThrough.f (k : Nat) (l0 : List Int) : Option (List Int) := (spec_PolyOk.f k l0).bind fun t390 => (if t390 = true then ((spec_l2Through.f k l0).bind fun t391 => (some t391)) else (some (([] : List Int))))
set_option maxHeartbeats 8000000 in
set_option maxRecDepth 100000 in
theorem spec_PolyThrough.calls (k : Nat) (A0 : Option Addr) (c0 : Nat) (l0 : List Int) (r : List Int) (w : World) (hr0 : Kd.C (Kd.int .i64) w A0 l0.length l0) (hc0 : l0.length ≤ c0) (h : spec_PolyThrough.f k l0 = some r) :
    Calls Twin.prog 28 #[.slice A0 l0.length c0] w fun e w' => ∃ v0_ : Value, e = .returned (v0_) ∧ Kd.R (Kd.int .i64) 3 w' w.heap.size (fun _ => True) v0_ r ∧ Below w.heap.size w w' := by
  have HR0 := Aside0.mk hr0
  have HC0 := Aside0.mk hc0
  clear hr0 hc0
  have HB := Aside0.mk (Below.refl w.heap.size w)
  have H : ((spec_PolyOk.f k l0).bind fun t390 => (if t390 = true then ((spec_l2Through.f k l0).bind fun t391 => (some t391)) else (some (([] : List Int))))) = some r := h
  clear h
  replace H := Option.bind_eq_some_iff.mp H
  obtain ⟨t390, A20, H⟩ := H
  replace H : (if t390 = true then ((spec_l2Through.f k l0).bind fun t391 => (some t391)) else (some (([] : List Int)))) = some r := H
  have A2 := Aside0.mk A20
  clear A20
  by_cases c3 : t390 = true
  · subst c3
    have H1 : ((spec_l2Through.f k l0).bind fun t391 => (some t391)) = some r := by rw [if_pos rfl] at H; exact H
    clear H
    have H := H1
    clear H1
    replace H := Option.bind_eq_some_iff.mp H
    obtain ⟨t391, A40, H⟩ := H
    replace H : (some t391) = some r := H
    have A4 := Aside0.mk A40
    clear A40
    obtain rfl := Option.some.inj H
    go_enter Twin.func28, Try.ntmps28
    go_wp2_with (first | ((with_reducible refine gate_callee (f := 29) rfl ?_); refine goesL_ (some 4) rfl rfl Twin.func29 (by kernel_rfl) rfl #[.slice A0 l0.length c0] rfl (by (try simp only [List.map_toArray, List.map_cons, List.map_nil]); first | done | rfl | (simp only [List.length_drop, List.length_take]; rfl)) ?_; (with_reducible refine (spec_PolyOk.calls k _ _ l0 true _ ?side1 ?side2 A2.out).mono ?_); (case side1 => repeat (first | exact HR0.out | (with_reducible refine Kd.C_alloc ?_ _) | (with_reducible refine Kd.C_drewN ?_ _) | (with_reducible refine Kd.C_drew ?_))); (case side2 => exact HC0.out); rintro e w' ⟨rfl, ⟨nd, rfl⟩⟩; refine ⟨_, rfl, ?_⟩) | ((with_reducible refine gate_callee (f := 56) rfl ?_); refine goesL_ (some 8) rfl rfl Twin.func56 (by kernel_rfl) rfl #[.slice A0 l0.length c0] rfl (by (try simp only [List.map_toArray, List.map_cons, List.map_nil]); first | done | rfl | (simp only [List.length_drop, List.length_take]; rfl)) ?_; (with_reducible refine (spec_l2Through.calls k _ _ l0 t391 _ ?side1 ?side2 A4.out).mono ?_); (case side1 => repeat (first | exact HR0.out | (with_reducible refine Kd.C_alloc ?_ _) | (with_reducible refine Kd.C_drewN ?_ _) | (with_reducible refine Kd.C_drew ?_))); (case side2 => exact HC0.out); rintro e w5 ⟨v392, rfl, ho0, hb⟩; refine ⟨_, rfl, ?_⟩; have n0_ := Aside0.mk (Kd.R_lower ho0 (below_size (by repeat (first | (with_reducible first | exact HB.out | apply below_alloc | apply pw_below_drewN | apply below_drew1) | exact HB.out)))); have n1_ := Aside0.mk (below_step (by repeat (first | (with_reducible first | exact HB.out | apply below_alloc | apply pw_below_drewN | apply below_drew1) | exact HB.out)) hb); clear HB; have HO393 := n0_; have HB := n1_; clear n0_ n1_; (try clear hb); (try clear hb2); (try clear hk); (try clear hi); (try clear ho0)))
    go_ret
    exact ⟨_, by first | rfl | (simp [errW_none, errW_some] <;> rfl) | (simp [*, errW_none, errW_some] <;> rfl), by (with_reducible repeat (first | apply Kd.R_alloc | apply Kd.R_drewN | apply Kd.R_drew)); exact HO393.out, by repeat (first | (with_reducible first | exact HB.out | apply below_alloc | apply pw_below_drewN | apply below_drew1) | exact HB.out)⟩
  · replace c3 := Bool.eq_false_iff.mpr c3
    subst c3
    have H1 : (some (([] : List Int))) = some r := by rw [if_neg (show ¬ (false = true) by decide)] at H; exact H
    clear H
    have H := H1
    clear H1
    obtain ⟨y394, hy394⟩ : ∃ y_ : List Int, y_ = (([] : List Int)) := ⟨_, rfl⟩
    replace H : (some y394) = some r := by first | (rw [hy394]; with_reducible exact H) | (have H2_ := (Option.bind_some _ _).symm.trans H; rw [hy394]; with_reducible exact H2_) | (have H2_ := (Option.bind_some _ _).symm.trans H; with_reducible exact H2_) | with_reducible exact H | (rw [hy394]; exact H) | exact H
    have Ny394 := Aside0.mk hy394
    clear hy394
    obtain rfl := Option.some.inj H
    go_enter Twin.func28, Try.ntmps28
    go_wp2_with (first | ((with_reducible refine gate_callee (f := 29) rfl ?_); refine goesL_ (some 4) rfl rfl Twin.func29 (by kernel_rfl) rfl #[.slice A0 l0.length c0] rfl (by (try simp only [List.map_toArray, List.map_cons, List.map_nil]); first | done | rfl | (simp only [List.length_drop, List.length_take]; rfl)) ?_; (with_reducible refine (spec_PolyOk.calls k _ _ l0 false _ ?side1 ?side2 A2.out).mono ?_); (case side1 => repeat (first | exact HR0.out | (with_reducible refine Kd.C_alloc ?_ _) | (with_reducible refine Kd.C_drewN ?_ _) | (with_reducible refine Kd.C_drew ?_))); (case side2 => exact HC0.out); rintro e w' ⟨rfl, ⟨nd, rfl⟩⟩; refine ⟨_, rfl, ?_⟩) | ((with_reducible refine gate_dst (N := 6) rfl ?_); refine Kd.R_lit (Kd.int .i64) _ 3 ?hg (N := 6) ?hd (xs := ([] : List Int)) (inner := []) (ok := fun _ => True) (okp := fun _ => True) ?hr ?hp (fun _ hk => hk) trivial (Below.refl _ _) (Nat.le_refl _) (by simp) ?_; (case hd => rfl); (case hg => rfl); (case hr => first | (go_simp; done) | (go_simp; rfl)); (case hp => exact (Reps.none _ _)); intro v395 w6 ho7 hb hg_ hnew_; clear hg_ hnew_; (first | rw [← Ny394.out] at ho7 | (simp only [Int.reduceToNat] at ho7; rw [← Ny394.out] at ho7)); have n0_ := Aside0.mk (Kd.R_lower ho7 (below_size (by repeat (first | (with_reducible first | exact HB.out | apply below_alloc | apply pw_below_drewN | apply below_drew1) | exact HB.out)))); have n1_ := Aside0.mk (below_step (by repeat (first | (with_reducible first | exact HB.out | apply below_alloc | apply pw_below_drewN | apply below_drew1) | exact HB.out)) hb); clear HB; have HO396 := n0_; have HB := n1_; clear n0_ n1_; clear hb ho7))
    go_ret
    exact ⟨_, by first | rfl | (simp [errW_none, errW_some] <;> rfl) | (simp [*, errW_none, errW_some] <;> rfl), by (with_reducible repeat (first | apply Kd.R_alloc | apply Kd.R_drewN | apply Kd.R_drew)); exact HO396.out, by repeat (first | (with_reducible first | exact HB.out | apply below_alloc | apply pw_below_drewN | apply below_drew1) | exact HB.out)⟩
mutual
def laws_FnThroughSum.j0 : Nat → List Int → List Int → Bool → Option (Bool)
  | 0, _, _, _ => none
  | k + 1, x0, x1, x19 => if x19 = true then (some true) else ((spec_DrawPolyThrough.f k x0).bind fun t397 => ((impl_PolyThrough.f t397).bind fun t400 => ((spec_PolyThrough.f k t397).bind fun t403 => ((laws_loInts.f k t400 t403).bind fun t406 => (if t406 = true then ((spec_PolyOk.f k t397).bind fun t407 => (laws_FnThroughSum.j1 k x1 t397 t400 (!t407))) else (laws_FnThroughSum.j1 k x1 t397 t400 true))))))
def laws_FnThroughSum.j1 : Nat → List Int → List Int → List Int → Bool → Option (Bool)
  | 0, _, _, _, _ => none
  | k + 1, x1, x5, x6, x33 => if x33 = true then ((spec_PolyThrough.f k x5).bind fun t408 => ((laws_loInts.f k x6 t408).bind fun t411 => (some t411))) else ((laws_loSome.f k (x1.length : Int) (x5.length : Int)).bind fun t412 => ((impl_ShareSum.f x5 t412).bind fun bt415 => ((impl_PolyThrough.f t412).bind fun t419 => ((impl_ShareSum.f x6 t419).bind fun bt422 => (if bt415.2 = true then (if bt422.2 = true then ((impl_PolyThrough.f bt415.1).bind fun t426 => ((laws_loInts.f k t426 bt422.1).bind fun t429 => (some t429))) else (some false)) else (some false))))))
end
def laws_FnThroughSum.f (k : Nat) (l0 : List Int) (l1 : List Int) : Option (Bool) := if (l0.length : Int) > 1048576 then (laws_FnThroughSum.j0 k l0 l1 true) else (laws_FnThroughSum.j0 k l0 l1 (decide ((l1.length : Int) > 1048576)))
set_option maxHeartbeats 8000000 in
set_option maxRecDepth 100000 in
theorem laws_FnThroughSum.calls (k : Nat) (A0 : Option Addr) (c0 : Nat) (l0 : List Int) (A1 : Option Addr) (c1 : Nat) (l1 : List Int) (r : Bool) (w : World) (hr0 : Kd.C (Kd.int .u8) w A0 l0.length l0) (hc0 : l0.length ≤ c0) (hr1 : Kd.C (Kd.int .u8) w A1 l1.length l1) (hc1 : l1.length ≤ c1) (h : laws_FnThroughSum.f k l0 l1 = some r) :
    Calls Twin.prog 5 #[.slice A0 l0.length c0, .slice A1 l1.length c1] w fun e w' => e = .returned (.bool r) ∧ Below w.heap.size w w' := by
  have HR0 := Aside0.mk hr0
  have HC0 := Aside0.mk hc0
  clear hr0 hc0
  have HR1 := Aside0.mk hr1
  have HC1 := Aside0.mk hc1
  clear hr1 hc1
  have HB := Aside0.mk (Below.refl w.heap.size w)
  have H : (if (l0.length : Int) > 1048576 then (laws_FnThroughSum.j0 k l0 l1 true) else (laws_FnThroughSum.j0 k l0 l1 (decide ((l1.length : Int) > 1048576)))) = some r := h
  clear h
  have HC3 := Aside0.mk H
  clear H
  go_enter Twin.func5, Try.ntmps5
  go_upto_region 1 with (fail)
  go_cut [19] (fun v19 wc => ∃ (kq : Nat) (x19_2 : Bool), v19 = .bool x19_2 ∧ Aside0 (laws_FnThroughSum.j0 kq l0 l1 x19_2 = some r) ∧ Aside0 (kq ≤ k) ∧ Aside0 (Below w.heap.size w wc))
  case first =>
    have H := HC3.out
    clear HC3
    by_cases c4 : (l0.length : Int) > 1048576
    · rw [if_pos c4] at H
      have c4b0 : decide (1048576 < (l0.length : Int)) = true := decide_eq_true c4
      have c4b1 : decide (1048576 < l0.length) = true := decide_eq_true (by omega)
      clear c4
      (first | rw [c4b0] | (simp only [i64_w, i32_w]; rw [c4b0]) | skip)
      have H' := Aside0.mk H
      clear H
      go_wp2
      go_meet
      case rel => exact ⟨_, (true), (by first | rfl | (simp; done) | (simp [*]; done)), H', ⟨by first | omega | exact Nat.le_refl _⟩, ⟨by repeat (first | (with_reducible first | exact HB.out | apply below_alloc | apply pw_below_drewN | apply below_drew1) | exact HB.out)⟩⟩
    · rw [if_neg c4] at H
      have c4b0 : decide (1048576 < (l0.length : Int)) = false := decide_eq_false c4
      have c4b1 : decide (1048576 < l0.length) = false := decide_eq_false (by omega)
      clear c4
      (first | rw [c4b0] | (simp only [i64_w, i32_w]; rw [c4b0]) | skip)
      have H' := Aside0.mk H
      clear H
      go_wp2
      go_meet
      case rel => exact ⟨_, (decide ((l1.length : Int) > 1048576)), (by first | rfl | (simp; done) | (simp [*]; done)), H', ⟨by first | omega | exact Nat.le_refl _⟩, ⟨by repeat (first | (with_reducible first | exact HB.out | apply below_alloc | apply pw_below_drewN | apply below_drew1) | exact HB.out)⟩⟩
  case rest =>
    clear HC3
    try clear c1
    try clear p2
    try clear c4
    try clear c4b0
    try clear c4b1
    obtain ⟨kq, x19_2, rfl, HA, HJ2, HB⟩ := hcut
    cases kq with
    | zero => exact absurd HA.out (by simp [laws_FnThroughSum.j0])
    | succ kj2 =>
      have H := HA.out
      clear HA
      simp only [laws_FnThroughSum.j0] at H
      by_cases c5 : x19_2 = true
      · subst c5
        have H1 : (some true) = some r := by rw [if_pos rfl] at H; exact H
        clear H
        have H := H1
        clear H1
        obtain rfl := Option.some.inj H
        go_wp2
        go_ret
        exact ⟨by first | rfl | (simp [errW_none, errW_some] <;> rfl) | (simp [*, errW_none, errW_some] <;> rfl), by repeat (first | (with_reducible first | exact HB.out | apply below_alloc | apply pw_below_drewN | apply below_drew1) | exact HB.out)⟩
      · replace c5 := Bool.eq_false_iff.mpr c5
        subst c5
        have H1 : ((spec_DrawPolyThrough.f kj2 l0).bind fun t397 => ((impl_PolyThrough.f t397).bind fun t400 => ((spec_PolyThrough.f kj2 t397).bind fun t403 => ((laws_loInts.f kj2 t400 t403).bind fun t406 => (if t406 = true then ((spec_PolyOk.f kj2 t397).bind fun t407 => (laws_FnThroughSum.j1 kj2 l1 t397 t400 (!t407))) else (laws_FnThroughSum.j1 kj2 l1 t397 t400 true)))))) = some r := by rw [if_neg (show ¬ (false = true) by decide)] at H; exact H
        clear H
        have H := H1
        clear H1
        replace H := Option.bind_eq_some_iff.mp H
        obtain ⟨t397, A60, H⟩ := H
        replace H : ((impl_PolyThrough.f t397).bind fun t400 => ((spec_PolyThrough.f kj2 t397).bind fun t403 => ((laws_loInts.f kj2 t400 t403).bind fun t406 => (if t406 = true then ((spec_PolyOk.f kj2 t397).bind fun t407 => (laws_FnThroughSum.j1 kj2 l1 t397 t400 (!t407))) else (laws_FnThroughSum.j1 kj2 l1 t397 t400 true))))) = some r := H
        have A6 := Aside0.mk A60
        clear A60
        replace H := Option.bind_eq_some_iff.mp H
        obtain ⟨t400, A70, H⟩ := H
        replace H : ((spec_PolyThrough.f kj2 t397).bind fun t403 => ((laws_loInts.f kj2 t400 t403).bind fun t406 => (if t406 = true then ((spec_PolyOk.f kj2 t397).bind fun t407 => (laws_FnThroughSum.j1 kj2 l1 t397 t400 (!t407))) else (laws_FnThroughSum.j1 kj2 l1 t397 t400 true)))) = some r := H
        have A7 := Aside0.mk A70
        clear A70
        have HC8 := Aside0.mk H
        clear H
        go_upto_region 5 with (first | ((with_reducible refine gate_callee (f := 26) rfl ?_); refine goesL_ (some 21) rfl rfl Twin.func26 (by kernel_rfl) rfl #[.slice A0 l0.length c0] rfl (by (try simp only [List.map_toArray, List.map_cons, List.map_nil]); first | done | rfl | (simp only [List.length_drop, List.length_take]; rfl)) ?_; (with_reducible refine (spec_DrawPolyThrough.calls kj2 _ _ l0 t397 _ ?side1 ?side2 A6.out).mono ?_); (case side1 => repeat (first | exact (Kd.C_below HR0.out HB.out) | (with_reducible refine Kd.C_alloc ?_ _) | (with_reducible refine Kd.C_drewN ?_ _) | (with_reducible refine Kd.C_drew ?_))); (case side2 => exact HC0.out); rintro e w9 ⟨v398, rfl, ho0, hb⟩; refine ⟨_, rfl, ?_⟩; have n0_ := Aside0.mk (Kd.R_lower ho0 (below_size (by repeat (first | (with_reducible first | exact HB.out | apply below_alloc | apply pw_below_drewN | apply below_drew1) | exact HB.out)))); have n1_ := Aside0.mk (below_step (by repeat (first | (with_reducible first | exact HB.out | apply below_alloc | apply pw_below_drewN | apply below_drew1) | exact HB.out)) hb); clear HB; have HO399 := n0_; have HB := n1_; clear n0_ n1_; (try clear hb); (try clear hb2); (try clear hk); (try clear hi); (try clear ho0); obtain ⟨Ao10, co10, eo10⟩ := Kd.R_slice HO399.out; subst eo10) | ((with_reducible refine gate_callee (f := 27) rfl ?_); refine goesL_ (some 23) rfl rfl Twin.func27 (by kernel_rfl) rfl #[.slice Ao10 t397.length co10] rfl (by (try simp only [List.map_toArray, List.map_cons, List.map_nil]); first | done | rfl | (simp only [List.length_drop, List.length_take]; rfl)) ?_; (with_reducible refine (impl_PolyThrough.calls _ _ t397 t400 _ ?side1 ?side2 A7.out).mono ?_); (case side1 => repeat (first | exact (Kd.R_reads' HO399.out).2.2 | (with_reducible refine Kd.C_alloc ?_ _) | (with_reducible refine Kd.C_drewN ?_ _) | (with_reducible refine Kd.C_drew ?_))); (case side2 => exact (Kd.R_reads' HO399.out).2.1); rintro e w11 ⟨v401, rfl, ho0, hb⟩; refine ⟨_, rfl, ?_⟩; have n0_ := Aside0.mk (Kd.R_elder' (by (with_reducible repeat (first | apply Kd.R_alloc | apply Kd.R_drewN | apply Kd.R_drew)); exact HO399.out) (Kd.R_base ho0) hb); have n1_ := Aside0.mk (Kd.R_lower (Kd.R_new' ho0 (Kd.R_lt (by (with_reducible repeat (first | apply Kd.R_alloc | apply Kd.R_drewN | apply Kd.R_drew)); exact HO399.out))) (below_size (by repeat (first | (with_reducible first | exact HB.out | apply below_alloc | apply pw_below_drewN | apply below_drew1) | exact HB.out)))); have n2_ := Aside0.mk (below_step (by repeat (first | (with_reducible first | exact HB.out | apply below_alloc | apply pw_below_drewN | apply below_drew1) | exact HB.out)) hb); clear HO399; clear HB; have HO399 := n0_; have HO402 := n1_; have HB := n2_; clear n0_ n1_ n2_; (try clear hb); (try clear hb2); (try clear hk); (try clear hi); (try clear ho0)))
        (try simp only [Act.put, List.setIfInBounds_toArray, List.set_cons_zero, List.set_cons_succ])
        go_cut [33] (fun v33 wc => ∃ (kq : Nat) (x33_7 : Bool), v33 = .bool x33_7 ∧ Aside0 (laws_FnThroughSum.j1 kq l1 t397 t400 x33_7 = some r) ∧ Aside0 (kq ≤ kj2) ∧ Aside0 (Kd.R (Kd.int .i64) 3 wc w.heap.size (fun k_ => some k_ ≠ (v401 : Value).ownBlock) (.slice Ao10 t397.length co10) t397) ∧ Aside0 (Kd.R (Kd.int .i64) 3 wc w.heap.size (fun k_ => some k_ ≠ ((.slice Ao10 t397.length co10) : Value).ownBlock) v401 t400) ∧ Aside0 (Below w.heap.size w wc))
        case first =>
          have H := HC8.out
          clear HC8
          replace H := Option.bind_eq_some_iff.mp H
          obtain ⟨t403, A120, H⟩ := H
          replace H : ((laws_loInts.f kj2 t400 t403).bind fun t406 => (if t406 = true then ((spec_PolyOk.f kj2 t397).bind fun t407 => (laws_FnThroughSum.j1 kj2 l1 t397 t400 (!t407))) else (laws_FnThroughSum.j1 kj2 l1 t397 t400 true))) = some r := H
          have A12 := Aside0.mk A120
          clear A120
          replace H := Option.bind_eq_some_iff.mp H
          obtain ⟨t406, A130, H⟩ := H
          replace H : (if t406 = true then ((spec_PolyOk.f kj2 t397).bind fun t407 => (laws_FnThroughSum.j1 kj2 l1 t397 t400 (!t407))) else (laws_FnThroughSum.j1 kj2 l1 t397 t400 true)) = some r := H
          have A13 := Aside0.mk A130
          clear A130
          by_cases c14 : t406 = true
          · subst c14
            have H1 : ((spec_PolyOk.f kj2 t397).bind fun t407 => (laws_FnThroughSum.j1 kj2 l1 t397 t400 (!t407))) = some r := by rw [if_pos rfl] at H; exact H
            clear H
            have H := H1
            clear H1
            replace H := Option.bind_eq_some_iff.mp H
            obtain ⟨t407, A150, H⟩ := H
            replace H : (laws_FnThroughSum.j1 kj2 l1 t397 t400 (!t407)) = some r := H
            have A15 := Aside0.mk A150
            clear A150
            have H' := Aside0.mk H
            clear H
            go_wp2_with (first | ((with_reducible refine gate_callee (f := 28) rfl ?_); refine goesL_ (some 26) rfl rfl Twin.func28 (by kernel_rfl) rfl #[.slice Ao10 t397.length co10] rfl (by (try simp only [List.map_toArray, List.map_cons, List.map_nil]); first | done | rfl | (simp only [List.length_drop, List.length_take]; rfl)) ?_; (with_reducible refine (spec_PolyThrough.calls kj2 _ _ t397 t403 _ ?side1 ?side2 A12.out).mono ?_); (case side1 => repeat (first | exact (Kd.R_reads' HO399.out).2.2 | (with_reducible refine Kd.C_alloc ?_ _) | (with_reducible refine Kd.C_drewN ?_ _) | (with_reducible refine Kd.C_drew ?_))); (case side2 => exact (Kd.R_reads' HO399.out).2.1); rintro e w16 ⟨v404, rfl, ho0, hb⟩; refine ⟨_, rfl, ?_⟩; have n0_ := Aside0.mk (Kd.R_elder' (by (with_reducible repeat (first | apply Kd.R_alloc | apply Kd.R_drewN | apply Kd.R_drew)); exact HO399.out) (Kd.R_base ho0) hb); have n1_ := Aside0.mk (Kd.R_elder' (by (with_reducible repeat (first | apply Kd.R_alloc | apply Kd.R_drewN | apply Kd.R_drew)); exact HO402.out) (Kd.R_base ho0) hb); have n2_ := Aside0.mk (Kd.R_lower (Kd.R_new' (Kd.R_new' ho0 (Kd.R_lt (by (with_reducible repeat (first | apply Kd.R_alloc | apply Kd.R_drewN | apply Kd.R_drew)); exact HO399.out))) (Kd.R_lt (by (with_reducible repeat (first | apply Kd.R_alloc | apply Kd.R_drewN | apply Kd.R_drew)); exact HO402.out))) (below_size (by repeat (first | (with_reducible first | exact HB.out | apply below_alloc | apply pw_below_drewN | apply below_drew1) | exact HB.out)))); have n3_ := Aside0.mk (below_step (by repeat (first | (with_reducible first | exact HB.out | apply below_alloc | apply pw_below_drewN | apply below_drew1) | exact HB.out)) hb); clear HO399; clear HO402; clear HB; have HO399 := n0_; have HO402 := n1_; have HO405 := n2_; have HB := n3_; clear n0_ n1_ n2_ n3_; (try clear hb); (try clear hb2); (try clear hk); (try clear hi); (try clear ho0); obtain ⟨Ao17, co17, eo17⟩ := Kd.R_slice HO402.out; subst eo17; obtain ⟨Ao18, co18, eo18⟩ := Kd.R_slice HO405.out; subst eo18) | ((with_reducible refine gate_callee (f := 18) rfl ?_); refine goesL_ (some 27) rfl rfl Twin.func18 (by kernel_rfl) rfl #[.slice Ao17 t400.length co17, .slice Ao18 t403.length co18] rfl (by (try simp only [List.map_toArray, List.map_cons, List.map_nil]); first | done | rfl | (simp only [List.length_drop, List.length_take]; rfl)) ?_; (with_reducible refine (laws_loInts.calls kj2 _ _ t400 _ _ t403 true _ ?side1 ?side2 ?side3 ?side4 A13.out).mono ?_); (case side1 => repeat (first | exact (Kd.R_reads' HO402.out).2.2 | (with_reducible refine Kd.C_alloc ?_ _) | (with_reducible refine Kd.C_drewN ?_ _) | (with_reducible refine Kd.C_drew ?_))); (case side2 => exact (Kd.R_reads' HO402.out).2.1); (case side3 => repeat (first | exact (Kd.R_reads' HO405.out).2.2 | (with_reducible refine Kd.C_alloc ?_ _) | (with_reducible refine Kd.C_drewN ?_ _) | (with_reducible refine Kd.C_drew ?_))); (case side4 => exact (Kd.R_reads' HO405.out).2.1); rintro e w' ⟨rfl, ⟨nd, rfl⟩⟩; refine ⟨_, rfl, ?_⟩) | (go_at_call 29; (with_reducible refine (spec_PolyOk.calls kj2 _ _ t397 t407 _ ?side1 ?side2 A15.out).mono ?_); (case side1 => repeat (first | exact (Kd.R_reads' HO399.out).2.2 | (with_reducible refine Kd.C_alloc ?_ _) | (with_reducible refine Kd.C_drewN ?_ _) | (with_reducible refine Kd.C_drew ?_))); (case side2 => exact (Kd.R_reads' HO399.out).2.1); rintro e w' ⟨rfl, ⟨nd, rfl⟩⟩))
            go_meet
            case rel => exact ⟨_, (!t407), (by first | rfl | (simp; done) | (simp [*]; done)), H', ⟨by have := HJ2.out; first | omega | exact Nat.le_refl _⟩, ⟨by (with_reducible repeat (first | apply Kd.R_alloc | apply Kd.R_drewN | apply Kd.R_drew)); exact Kd.R_mono HO399.out (fun _ hk => hk.1.2)⟩, ⟨by (with_reducible repeat (first | apply Kd.R_alloc | apply Kd.R_drewN | apply Kd.R_drew)); exact Kd.R_mono HO402.out (fun _ hk => hk.1.2)⟩, ⟨by repeat (first | (with_reducible first | exact HB.out | apply below_alloc | apply pw_below_drewN | apply below_drew1) | exact HB.out)⟩⟩
          · replace c14 := Bool.eq_false_iff.mpr c14
            subst c14
            have H1 : (laws_FnThroughSum.j1 kj2 l1 t397 t400 true) = some r := by rw [if_neg (show ¬ (false = true) by decide)] at H; exact H
            clear H
            have H := H1
            clear H1
            have H' := Aside0.mk H
            clear H
            go_wp2_with (first | ((with_reducible refine gate_callee (f := 28) rfl ?_); refine goesL_ (some 26) rfl rfl Twin.func28 (by kernel_rfl) rfl #[.slice Ao10 t397.length co10] rfl (by (try simp only [List.map_toArray, List.map_cons, List.map_nil]); first | done | rfl | (simp only [List.length_drop, List.length_take]; rfl)) ?_; (with_reducible refine (spec_PolyThrough.calls kj2 _ _ t397 t403 _ ?side1 ?side2 A12.out).mono ?_); (case side1 => repeat (first | exact (Kd.R_reads' HO399.out).2.2 | (with_reducible refine Kd.C_alloc ?_ _) | (with_reducible refine Kd.C_drewN ?_ _) | (with_reducible refine Kd.C_drew ?_))); (case side2 => exact (Kd.R_reads' HO399.out).2.1); rintro e w19 ⟨v404, rfl, ho0, hb⟩; refine ⟨_, rfl, ?_⟩; have n0_ := Aside0.mk (Kd.R_elder' (by (with_reducible repeat (first | apply Kd.R_alloc | apply Kd.R_drewN | apply Kd.R_drew)); exact HO399.out) (Kd.R_base ho0) hb); have n1_ := Aside0.mk (Kd.R_elder' (by (with_reducible repeat (first | apply Kd.R_alloc | apply Kd.R_drewN | apply Kd.R_drew)); exact HO402.out) (Kd.R_base ho0) hb); have n2_ := Aside0.mk (Kd.R_lower (Kd.R_new' (Kd.R_new' ho0 (Kd.R_lt (by (with_reducible repeat (first | apply Kd.R_alloc | apply Kd.R_drewN | apply Kd.R_drew)); exact HO399.out))) (Kd.R_lt (by (with_reducible repeat (first | apply Kd.R_alloc | apply Kd.R_drewN | apply Kd.R_drew)); exact HO402.out))) (below_size (by repeat (first | (with_reducible first | exact HB.out | apply below_alloc | apply pw_below_drewN | apply below_drew1) | exact HB.out)))); have n3_ := Aside0.mk (below_step (by repeat (first | (with_reducible first | exact HB.out | apply below_alloc | apply pw_below_drewN | apply below_drew1) | exact HB.out)) hb); clear HO399; clear HO402; clear HB; have HO399 := n0_; have HO402 := n1_; have HO405 := n2_; have HB := n3_; clear n0_ n1_ n2_ n3_; (try clear hb); (try clear hb2); (try clear hk); (try clear hi); (try clear ho0); obtain ⟨Ao20, co20, eo20⟩ := Kd.R_slice HO402.out; subst eo20; obtain ⟨Ao21, co21, eo21⟩ := Kd.R_slice HO405.out; subst eo21) | ((with_reducible refine gate_callee (f := 18) rfl ?_); refine goesL_ (some 27) rfl rfl Twin.func18 (by kernel_rfl) rfl #[.slice Ao20 t400.length co20, .slice Ao21 t403.length co21] rfl (by (try simp only [List.map_toArray, List.map_cons, List.map_nil]); first | done | rfl | (simp only [List.length_drop, List.length_take]; rfl)) ?_; (with_reducible refine (laws_loInts.calls kj2 _ _ t400 _ _ t403 false _ ?side1 ?side2 ?side3 ?side4 A13.out).mono ?_); (case side1 => repeat (first | exact (Kd.R_reads' HO402.out).2.2 | (with_reducible refine Kd.C_alloc ?_ _) | (with_reducible refine Kd.C_drewN ?_ _) | (with_reducible refine Kd.C_drew ?_))); (case side2 => exact (Kd.R_reads' HO402.out).2.1); (case side3 => repeat (first | exact (Kd.R_reads' HO405.out).2.2 | (with_reducible refine Kd.C_alloc ?_ _) | (with_reducible refine Kd.C_drewN ?_ _) | (with_reducible refine Kd.C_drew ?_))); (case side4 => exact (Kd.R_reads' HO405.out).2.1); rintro e w' ⟨rfl, ⟨nd, rfl⟩⟩; refine ⟨_, rfl, ?_⟩))
            go_meet
            case rel => exact ⟨_, (true), (by first | rfl | (simp; done) | (simp [*]; done)), H', ⟨by have := HJ2.out; first | omega | exact Nat.le_refl _⟩, ⟨by (with_reducible repeat (first | apply Kd.R_alloc | apply Kd.R_drewN | apply Kd.R_drew)); exact Kd.R_mono HO399.out (fun _ hk => hk.1.2)⟩, ⟨by (with_reducible repeat (first | apply Kd.R_alloc | apply Kd.R_drewN | apply Kd.R_drew)); exact Kd.R_mono HO402.out (fun _ hk => hk.1.2)⟩, ⟨by repeat (first | (with_reducible first | exact HB.out | apply below_alloc | apply pw_below_drewN | apply below_drew1) | exact HB.out)⟩⟩
        case rest =>
          clear HC8
          try clear c1
          try clear c2
          try clear p2
          try clear c4
          try clear c4b0
          try clear c4b1
          try clear c5
          try clear c14
          try clear c18
          try clear p2
          obtain ⟨kq, x33_7, rfl, HA, HJ7, HO_5, HO_6, HB⟩ := hcut
          cases kq with
          | zero => exact absurd HA.out (by simp [laws_FnThroughSum.j1])
          | succ kj7 =>
            have H := HA.out
            clear HA
            simp only [laws_FnThroughSum.j1] at H
            by_cases c22 : x33_7 = true
            · subst c22
              have H1 : ((spec_PolyThrough.f kj7 t397).bind fun t408 => ((laws_loInts.f kj7 t400 t408).bind fun t411 => (some t411))) = some r := by rw [if_pos rfl] at H; exact H
              clear H
              have H := H1
              clear H1
              replace H := Option.bind_eq_some_iff.mp H
              obtain ⟨t408, A230, H⟩ := H
              replace H : ((laws_loInts.f kj7 t400 t408).bind fun t411 => (some t411)) = some r := H
              have A23 := Aside0.mk A230
              clear A230
              replace H := Option.bind_eq_some_iff.mp H
              obtain ⟨t411, A240, H⟩ := H
              replace H : (some t411) = some r := H
              have A24 := Aside0.mk A240
              clear A240
              obtain rfl := Option.some.inj H
              go_wp2_with (first | ((with_reducible refine gate_callee (f := 28) rfl ?_); refine goesL_ (some 36) rfl rfl Twin.func28 (by kernel_rfl) rfl #[.slice Ao10 t397.length co10] rfl (by (try simp only [List.map_toArray, List.map_cons, List.map_nil]); first | done | rfl | (simp only [List.length_drop, List.length_take]; rfl)) ?_; (with_reducible refine (spec_PolyThrough.calls kj7 _ _ t397 t408 _ ?side1 ?side2 A23.out).mono ?_); (case side1 => repeat (first | exact (Kd.R_reads' HO_5.out).2.2 | (with_reducible refine Kd.C_alloc ?_ _) | (with_reducible refine Kd.C_drewN ?_ _) | (with_reducible refine Kd.C_drew ?_))); (case side2 => exact (Kd.R_reads' HO_5.out).2.1); rintro e w25 ⟨v409, rfl, ho0, hb⟩; refine ⟨_, rfl, ?_⟩; have n0_ := Aside0.mk (Kd.R_elder' (by (with_reducible repeat (first | apply Kd.R_alloc | apply Kd.R_drewN | apply Kd.R_drew)); exact HO_5.out) (Kd.R_base ho0) hb); have n1_ := Aside0.mk (Kd.R_elder' (by (with_reducible repeat (first | apply Kd.R_alloc | apply Kd.R_drewN | apply Kd.R_drew)); exact HO_6.out) (Kd.R_base ho0) hb); have n2_ := Aside0.mk (Kd.R_lower (Kd.R_new' (Kd.R_new' ho0 (Kd.R_lt (by (with_reducible repeat (first | apply Kd.R_alloc | apply Kd.R_drewN | apply Kd.R_drew)); exact HO_5.out))) (Kd.R_lt (by (with_reducible repeat (first | apply Kd.R_alloc | apply Kd.R_drewN | apply Kd.R_drew)); exact HO_6.out))) (below_size (by repeat (first | (with_reducible first | exact HB.out | apply below_alloc | apply pw_below_drewN | apply below_drew1) | exact HB.out)))); have n3_ := Aside0.mk (below_step (by repeat (first | (with_reducible first | exact HB.out | apply below_alloc | apply pw_below_drewN | apply below_drew1) | exact HB.out)) hb); clear HO_5; clear HO_6; clear HB; have HO_5 := n0_; have HO_6 := n1_; have HO410 := n2_; have HB := n3_; clear n0_ n1_ n2_ n3_; (try clear hb); (try clear hb2); (try clear hk); (try clear hi); (try clear ho0); obtain ⟨Ao26, co26, eo26⟩ := Kd.R_slice HO_6.out; subst eo26; obtain ⟨Ao27, co27, eo27⟩ := Kd.R_slice HO410.out; subst eo27) | ((with_reducible refine gate_callee (f := 18) rfl ?_); refine goesL_ (some 37) rfl rfl Twin.func18 (by kernel_rfl) rfl #[.slice Ao26 t400.length co26, .slice Ao27 t408.length co27] rfl (by (try simp only [List.map_toArray, List.map_cons, List.map_nil]); first | done | rfl | (simp only [List.length_drop, List.length_take]; rfl)) ?_; (with_reducible refine (laws_loInts.calls kj7 _ _ t400 _ _ t408 t411 _ ?side1 ?side2 ?side3 ?side4 A24.out).mono ?_); (case side1 => repeat (first | exact (Kd.R_reads' HO_6.out).2.2 | (with_reducible refine Kd.C_alloc ?_ _) | (with_reducible refine Kd.C_drewN ?_ _) | (with_reducible refine Kd.C_drew ?_))); (case side2 => exact (Kd.R_reads' HO_6.out).2.1); (case side3 => repeat (first | exact (Kd.R_reads' HO410.out).2.2 | (with_reducible refine Kd.C_alloc ?_ _) | (with_reducible refine Kd.C_drewN ?_ _) | (with_reducible refine Kd.C_drew ?_))); (case side4 => exact (Kd.R_reads' HO410.out).2.1); rintro e w' ⟨rfl, ⟨nd, rfl⟩⟩; refine ⟨_, rfl, ?_⟩))
              go_ret
              exact ⟨by first | rfl | (simp [errW_none, errW_some] <;> rfl) | (simp [*, errW_none, errW_some] <;> rfl), by repeat (first | (with_reducible first | exact HB.out | apply below_alloc | apply pw_below_drewN | apply below_drew1) | exact HB.out)⟩
            · replace c22 := Bool.eq_false_iff.mpr c22
              subst c22
              have H1 : ((laws_loSome.f kj7 (l1.length : Int) (t397.length : Int)).bind fun t412 => ((impl_ShareSum.f t397 t412).bind fun bt415 => ((impl_PolyThrough.f t412).bind fun t419 => ((impl_ShareSum.f t400 t419).bind fun bt422 => (if bt415.2 = true then (if bt422.2 = true then ((impl_PolyThrough.f bt415.1).bind fun t426 => ((laws_loInts.f kj7 t426 bt422.1).bind fun t429 => (some t429))) else (some false)) else (some false)))))) = some r := by rw [if_neg (show ¬ (false = true) by decide)] at H; exact H
              clear H
              have H := H1
              clear H1
              replace H := Option.bind_eq_some_iff.mp H
              obtain ⟨t412, A280, H⟩ := H
              replace H : ((impl_ShareSum.f t397 t412).bind fun bt415 => ((impl_PolyThrough.f t412).bind fun t419 => ((impl_ShareSum.f t400 t419).bind fun bt422 => (if bt415.2 = true then (if bt422.2 = true then ((impl_PolyThrough.f bt415.1).bind fun t426 => ((laws_loInts.f kj7 t426 bt422.1).bind fun t429 => (some t429))) else (some false)) else (some false))))) = some r := H
              have A28 := Aside0.mk A280
              clear A280
              replace H := Option.bind_eq_some_iff.mp H
              obtain ⟨⟨t415, t416⟩, A290, H⟩ := H
              replace H : ((impl_PolyThrough.f t412).bind fun t419 => ((impl_ShareSum.f t400 t419).bind fun bt422 => (if t416 = true then (if bt422.2 = true then ((impl_PolyThrough.f t415).bind fun t426 => ((laws_loInts.f kj7 t426 bt422.1).bind fun t429 => (some t429))) else (some false)) else (some false)))) = some r := H
              have A29 := Aside0.mk A290
              clear A290
              replace H := Option.bind_eq_some_iff.mp H
              obtain ⟨t419, A300, H⟩ := H
              replace H : ((impl_ShareSum.f t400 t419).bind fun bt422 => (if t416 = true then (if bt422.2 = true then ((impl_PolyThrough.f t415).bind fun t426 => ((laws_loInts.f kj7 t426 bt422.1).bind fun t429 => (some t429))) else (some false)) else (some false))) = some r := H
              have A30 := Aside0.mk A300
              clear A300
              replace H := Option.bind_eq_some_iff.mp H
              obtain ⟨⟨t422, t423⟩, A310, H⟩ := H
              replace H : (if t416 = true then (if t423 = true then ((impl_PolyThrough.f t415).bind fun t426 => ((laws_loInts.f kj7 t426 t422).bind fun t429 => (some t429))) else (some false)) else (some false)) = some r := H
              have A31 := Aside0.mk A310
              clear A310
              by_cases c32 : t416 = true
              · subst c32
                have H1 : (if t423 = true then ((impl_PolyThrough.f t415).bind fun t426 => ((laws_loInts.f kj7 t426 t422).bind fun t429 => (some t429))) else (some false)) = some r := by rw [if_pos rfl] at H; exact H
                clear H
                have H := H1
                clear H1
                by_cases c33 : t423 = true
                · subst c33
                  have H1 : ((impl_PolyThrough.f t415).bind fun t426 => ((laws_loInts.f kj7 t426 t422).bind fun t429 => (some t429))) = some r := by rw [if_pos rfl] at H; exact H
                  clear H
                  have H := H1
                  clear H1
                  replace H := Option.bind_eq_some_iff.mp H
                  obtain ⟨t426, A340, H⟩ := H
                  replace H : ((laws_loInts.f kj7 t426 t422).bind fun t429 => (some t429)) = some r := H
                  have A34 := Aside0.mk A340
                  clear A340
                  replace H := Option.bind_eq_some_iff.mp H
                  obtain ⟨t429, A350, H⟩ := H
                  replace H : (some t429) = some r := H
                  have A35 := Aside0.mk A350
                  clear A350
                  obtain rfl := Option.some.inj H
                  go_wp2_with (first | ((with_reducible refine gate_callee (f := 19) rfl ?_); refine goesL_ (some 42) rfl rfl Twin.func19 (by kernel_rfl) rfl #[.int .i64 (l1.length : Int), .int .i64 (t397.length : Int)] rfl (by (try simp only [List.map_toArray, List.map_cons, List.map_nil]); first | done | rfl | (simp only [List.length_drop, List.length_take]; rfl)) ?_; (with_reducible refine (laws_loSome.calls kj7 (l1.length : Int) (t397.length : Int) t412 _ A28.out).mono ?_); rintro e w36 ⟨v413, rfl, ho0, hb⟩; refine ⟨_, rfl, ?_⟩; have n0_ := Aside0.mk (Kd.R_elder' (by (with_reducible repeat (first | apply Kd.R_alloc | apply Kd.R_drewN | apply Kd.R_drew)); exact HO_5.out) (Kd.R_base ho0) hb); have n1_ := Aside0.mk (Kd.R_elder' (by (with_reducible repeat (first | apply Kd.R_alloc | apply Kd.R_drewN | apply Kd.R_drew)); exact HO_6.out) (Kd.R_base ho0) hb); have n2_ := Aside0.mk (Kd.R_lower (Kd.R_new' (Kd.R_new' ho0 (Kd.R_lt (by (with_reducible repeat (first | apply Kd.R_alloc | apply Kd.R_drewN | apply Kd.R_drew)); exact HO_5.out))) (Kd.R_lt (by (with_reducible repeat (first | apply Kd.R_alloc | apply Kd.R_drewN | apply Kd.R_drew)); exact HO_6.out))) (below_size (by repeat (first | (with_reducible first | exact HB.out | apply below_alloc | apply pw_below_drewN | apply below_drew1) | exact HB.out)))); have n3_ := Aside0.mk (below_step (by repeat (first | (with_reducible first | exact HB.out | apply below_alloc | apply pw_below_drewN | apply below_drew1) | exact HB.out)) hb); clear HO_5; clear HO_6; clear HB; have HO_5 := n0_; have HO_6 := n1_; have HO414 := n2_; have HB := n3_; clear n0_ n1_ n2_ n3_; (try clear hb); (try clear hb2); (try clear hk); (try clear hi); (try clear ho0); obtain ⟨Ao37, co37, eo37⟩ := Kd.R_slice HO414.out; subst eo37) | ((with_reducible refine gate_callee (f := 17) rfl ?_); refine goesL_ (some 46) rfl rfl Twin.func17 (by kernel_rfl) rfl #[.slice Ao10 t397.length co10, .slice Ao37 t412.length co37] rfl (by (try simp only [List.map_toArray, List.map_cons, List.map_nil]); first | done | rfl | (simp only [List.length_drop, List.length_take]; rfl)) ?_; (with_reducible refine (impl_ShareSum.calls _ _ t397 _ _ t412 t415 true _ ?side1 ?side2 ?side3 ?side4 A29.out).mono ?_); (case side1 => repeat (first | exact (Kd.R_reads' HO_5.out).2.2 | (with_reducible refine Kd.C_alloc ?_ _) | (with_reducible refine Kd.C_drewN ?_ _) | (with_reducible refine Kd.C_drew ?_))); (case side2 => exact (Kd.R_reads' HO_5.out).2.1); (case side3 => repeat (first | exact (Kd.R_reads' HO414.out).2.2 | (with_reducible refine Kd.C_alloc ?_ _) | (with_reducible refine Kd.C_drewN ?_ _) | (with_reducible refine Kd.C_drew ?_))); (case side4 => exact (Kd.R_reads' HO414.out).2.1); rintro e w38 ⟨v417, rfl, ho0, hb⟩; refine ⟨_, rfl, ?_⟩; have n0_ := Aside0.mk (Kd.R_elder' (by (with_reducible repeat (first | apply Kd.R_alloc | apply Kd.R_drewN | apply Kd.R_drew)); exact HO_5.out) (Kd.R_base ho0) hb); have n1_ := Aside0.mk (Kd.R_elder' (by (with_reducible repeat (first | apply Kd.R_alloc | apply Kd.R_drewN | apply Kd.R_drew)); exact HO_6.out) (Kd.R_base ho0) hb); have n2_ := Aside0.mk (Kd.R_elder' (by (with_reducible repeat (first | apply Kd.R_alloc | apply Kd.R_drewN | apply Kd.R_drew)); exact HO414.out) (Kd.R_base ho0) hb); have n3_ := Aside0.mk (Kd.R_lower (Kd.R_new' (Kd.R_new' (Kd.R_new' ho0 (Kd.R_lt (by (with_reducible repeat (first | apply Kd.R_alloc | apply Kd.R_drewN | apply Kd.R_drew)); exact HO_5.out))) (Kd.R_lt (by (with_reducible repeat (first | apply Kd.R_alloc | apply Kd.R_drewN | apply Kd.R_drew)); exact HO_6.out))) (Kd.R_lt (by (with_reducible repeat (first | apply Kd.R_alloc | apply Kd.R_drewN | apply Kd.R_drew)); exact HO414.out))) (below_size (by repeat (first | (with_reducible first | exact HB.out | apply below_alloc | apply pw_below_drewN | apply below_drew1) | exact HB.out)))); have n4_ := Aside0.mk (below_step (by repeat (first | (with_reducible first | exact HB.out | apply below_alloc | apply pw_below_drewN | apply below_drew1) | exact HB.out)) hb); clear HO_5; clear HO_6; clear HO414; clear HB; have HO_5 := n0_; have HO_6 := n1_; have HO414 := n2_; have HO418 := n3_; have HB := n4_; clear n0_ n1_ n2_ n3_ n4_; (try clear hb); (try clear hb2); (try clear hk); (try clear hi); (try clear ho0)) | ((with_reducible refine gate_callee (f := 27) rfl ?_); refine goesL_ (some 52) rfl rfl Twin.func27 (by kernel_rfl) rfl #[.slice Ao37 t412.length co37] rfl (by (try simp only [List.map_toArray, List.map_cons, List.map_nil]); first | done | rfl | (simp only [List.length_drop, List.length_take]; rfl)) ?_; (with_reducible refine (impl_PolyThrough.calls _ _ t412 t419 _ ?side1 ?side2 A30.out).mono ?_); (case side1 => repeat (first | exact (Kd.R_reads' HO414.out).2.2 | (with_reducible refine Kd.C_alloc ?_ _) | (with_reducible refine Kd.C_drewN ?_ _) | (with_reducible refine Kd.C_drew ?_))); (case side2 => exact (Kd.R_reads' HO414.out).2.1); rintro e w39 ⟨v420, rfl, ho0, hb⟩; refine ⟨_, rfl, ?_⟩; have n0_ := Aside0.mk (Kd.R_elder' (by (with_reducible repeat (first | apply Kd.R_alloc | apply Kd.R_drewN | apply Kd.R_drew)); exact HO_5.out) (Kd.R_base ho0) hb); have n1_ := Aside0.mk (Kd.R_elder' (by (with_reducible repeat (first | apply Kd.R_alloc | apply Kd.R_drewN | apply Kd.R_drew)); exact HO_6.out) (Kd.R_base ho0) hb); have n2_ := Aside0.mk (Kd.R_elder' (by (with_reducible repeat (first | apply Kd.R_alloc | apply Kd.R_drewN | apply Kd.R_drew)); exact HO414.out) (Kd.R_base ho0) hb); have n3_ := Aside0.mk (Kd.R_elder' (by (with_reducible repeat (first | apply Kd.R_alloc | apply Kd.R_drewN | apply Kd.R_drew)); exact HO418.out) (Kd.R_base ho0) hb); have n4_ := Aside0.mk (Kd.R_lower (Kd.R_new' (Kd.R_new' (Kd.R_new' (Kd.R_new' ho0 (Kd.R_lt (by (with_reducible repeat (first | apply Kd.R_alloc | apply Kd.R_drewN | apply Kd.R_drew)); exact HO_5.out))) (Kd.R_lt (by (with_reducible repeat (first | apply Kd.R_alloc | apply Kd.R_drewN | apply Kd.R_drew)); exact HO_6.out))) (Kd.R_lt (by (with_reducible repeat (first | apply Kd.R_alloc | apply Kd.R_drewN | apply Kd.R_drew)); exact HO414.out))) (Kd.R_lt (by (with_reducible repeat (first | apply Kd.R_alloc | apply Kd.R_drewN | apply Kd.R_drew)); exact HO418.out))) (below_size (by repeat (first | (with_reducible first | exact HB.out | apply below_alloc | apply pw_below_drewN | apply below_drew1) | exact HB.out)))); have n5_ := Aside0.mk (below_step (by repeat (first | (with_reducible first | exact HB.out | apply below_alloc | apply pw_below_drewN | apply below_drew1) | exact HB.out)) hb); clear HO_5; clear HO_6; clear HO414; clear HO418; clear HB; have HO_5 := n0_; have HO_6 := n1_; have HO414 := n2_; have HO418 := n3_; have HO421 := n4_; have HB := n5_; clear n0_ n1_ n2_ n3_ n4_ n5_; (try clear hb); (try clear hb2); (try clear hk); (try clear hi); (try clear ho0); obtain ⟨Ao40, co40, eo40⟩ := Kd.R_slice HO_6.out; subst eo40; obtain ⟨Ao41, co41, eo41⟩ := Kd.R_slice HO421.out; subst eo41) | ((with_reducible refine gate_callee (f := 17) rfl ?_); refine goesL_ (some 53) rfl rfl Twin.func17 (by kernel_rfl) rfl #[.slice Ao40 t400.length co40, .slice Ao41 t419.length co41] rfl (by (try simp only [List.map_toArray, List.map_cons, List.map_nil]); first | done | rfl | (simp only [List.length_drop, List.length_take]; rfl)) ?_; (with_reducible refine (impl_ShareSum.calls _ _ t400 _ _ t419 t422 true _ ?side1 ?side2 ?side3 ?side4 A31.out).mono ?_); (case side1 => repeat (first | exact (Kd.R_reads' HO_6.out).2.2 | (with_reducible refine Kd.C_alloc ?_ _) | (with_reducible refine Kd.C_drewN ?_ _) | (with_reducible refine Kd.C_drew ?_))); (case side2 => exact (Kd.R_reads' HO_6.out).2.1); (case side3 => repeat (first | exact (Kd.R_reads' HO421.out).2.2 | (with_reducible refine Kd.C_alloc ?_ _) | (with_reducible refine Kd.C_drewN ?_ _) | (with_reducible refine Kd.C_drew ?_))); (case side4 => exact (Kd.R_reads' HO421.out).2.1); rintro e w42 ⟨v424, rfl, ho0, hb⟩; refine ⟨_, rfl, ?_⟩; have n0_ := Aside0.mk (Kd.R_elder' (by (with_reducible repeat (first | apply Kd.R_alloc | apply Kd.R_drewN | apply Kd.R_drew)); exact HO_5.out) (Kd.R_base ho0) hb); have n1_ := Aside0.mk (Kd.R_elder' (by (with_reducible repeat (first | apply Kd.R_alloc | apply Kd.R_drewN | apply Kd.R_drew)); exact HO_6.out) (Kd.R_base ho0) hb); have n2_ := Aside0.mk (Kd.R_elder' (by (with_reducible repeat (first | apply Kd.R_alloc | apply Kd.R_drewN | apply Kd.R_drew)); exact HO414.out) (Kd.R_base ho0) hb); have n3_ := Aside0.mk (Kd.R_elder' (by (with_reducible repeat (first | apply Kd.R_alloc | apply Kd.R_drewN | apply Kd.R_drew)); exact HO418.out) (Kd.R_base ho0) hb); have n4_ := Aside0.mk (Kd.R_elder' (by (with_reducible repeat (first | apply Kd.R_alloc | apply Kd.R_drewN | apply Kd.R_drew)); exact HO421.out) (Kd.R_base ho0) hb); have n5_ := Aside0.mk (Kd.R_lower (Kd.R_new' (Kd.R_new' (Kd.R_new' (Kd.R_new' (Kd.R_new' ho0 (Kd.R_lt (by (with_reducible repeat (first | apply Kd.R_alloc | apply Kd.R_drewN | apply Kd.R_drew)); exact HO_5.out))) (Kd.R_lt (by (with_reducible repeat (first | apply Kd.R_alloc | apply Kd.R_drewN | apply Kd.R_drew)); exact HO_6.out))) (Kd.R_lt (by (with_reducible repeat (first | apply Kd.R_alloc | apply Kd.R_drewN | apply Kd.R_drew)); exact HO414.out))) (Kd.R_lt (by (with_reducible repeat (first | apply Kd.R_alloc | apply Kd.R_drewN | apply Kd.R_drew)); exact HO418.out))) (Kd.R_lt (by (with_reducible repeat (first | apply Kd.R_alloc | apply Kd.R_drewN | apply Kd.R_drew)); exact HO421.out))) (below_size (by repeat (first | (with_reducible first | exact HB.out | apply below_alloc | apply pw_below_drewN | apply below_drew1) | exact HB.out)))); have n6_ := Aside0.mk (below_step (by repeat (first | (with_reducible first | exact HB.out | apply below_alloc | apply pw_below_drewN | apply below_drew1) | exact HB.out)) hb); clear HO_5; clear HO_6; clear HO414; clear HO418; clear HO421; clear HB; have HO_5 := n0_; have HO_6 := n1_; have HO414 := n2_; have HO418 := n3_; have HO421 := n4_; have HO425 := n5_; have HB := n6_; clear n0_ n1_ n2_ n3_ n4_ n5_ n6_; (try clear hb); (try clear hb2); (try clear hk); (try clear hi); (try clear ho0); obtain ⟨Ao43, co43, eo43⟩ := Kd.R_slice HO418.out; subst eo43) | (go_at_call 27; (with_reducible refine (impl_PolyThrough.calls _ _ t415 t426 _ ?side1 ?side2 A34.out).mono ?_); (case side1 => repeat (first | exact (Kd.R_reads' HO418.out).2.2 | (with_reducible refine Kd.C_alloc ?_ _) | (with_reducible refine Kd.C_drewN ?_ _) | (with_reducible refine Kd.C_drew ?_))); (case side2 => exact (Kd.R_reads' HO418.out).2.1); rintro e w44 ⟨v427, rfl, ho0, hb⟩; have n0_ := Aside0.mk (Kd.R_elder' (by (with_reducible repeat (first | apply Kd.R_alloc | apply Kd.R_drewN | apply Kd.R_drew)); exact HO_5.out) (Kd.R_base ho0) hb); have n1_ := Aside0.mk (Kd.R_elder' (by (with_reducible repeat (first | apply Kd.R_alloc | apply Kd.R_drewN | apply Kd.R_drew)); exact HO_6.out) (Kd.R_base ho0) hb); have n2_ := Aside0.mk (Kd.R_elder' (by (with_reducible repeat (first | apply Kd.R_alloc | apply Kd.R_drewN | apply Kd.R_drew)); exact HO414.out) (Kd.R_base ho0) hb); have n3_ := Aside0.mk (Kd.R_elder' (by (with_reducible repeat (first | apply Kd.R_alloc | apply Kd.R_drewN | apply Kd.R_drew)); exact HO418.out) (Kd.R_base ho0) hb); have n4_ := Aside0.mk (Kd.R_elder' (by (with_reducible repeat (first | apply Kd.R_alloc | apply Kd.R_drewN | apply Kd.R_drew)); exact HO421.out) (Kd.R_base ho0) hb); have n5_ := Aside0.mk (Kd.R_elder' (by (with_reducible repeat (first | apply Kd.R_alloc | apply Kd.R_drewN | apply Kd.R_drew)); exact HO425.out) (Kd.R_base ho0) hb); have n6_ := Aside0.mk (Kd.R_lower (Kd.R_new' (Kd.R_new' (Kd.R_new' (Kd.R_new' (Kd.R_new' (Kd.R_new' ho0 (Kd.R_lt (by (with_reducible repeat (first | apply Kd.R_alloc | apply Kd.R_drewN | apply Kd.R_drew)); exact HO_5.out))) (Kd.R_lt (by (with_reducible repeat (first | apply Kd.R_alloc | apply Kd.R_drewN | apply Kd.R_drew)); exact HO_6.out))) (Kd.R_lt (by (with_reducible repeat (first | apply Kd.R_alloc | apply Kd.R_drewN | apply Kd.R_drew)); exact HO414.out))) (Kd.R_lt (by (with_reducible repeat (first | apply Kd.R_alloc | apply Kd.R_drewN | apply Kd.R_drew)); exact HO418.out))) (Kd.R_lt (by (with_reducible repeat (first | apply Kd.R_alloc | apply Kd.R_drewN | apply Kd.R_drew)); exact HO421.out))) (Kd.R_lt (by (with_reducible repeat (first | apply Kd.R_alloc | apply Kd.R_drewN | apply Kd.R_drew)); exact HO425.out))) (below_size (by repeat (first | (with_reducible first | exact HB.out | apply below_alloc | apply pw_below_drewN | apply below_drew1) | exact HB.out)))); have n7_ := Aside0.mk (below_step (by repeat (first | (with_reducible first | exact HB.out | apply below_alloc | apply pw_below_drewN | apply below_drew1) | exact HB.out)) hb); clear HO_5; clear HO_6; clear HO414; clear HO418; clear HO421; clear HO425; clear HB; have HO_5 := n0_; have HO_6 := n1_; have HO414 := n2_; have HO418 := n3_; have HO421 := n4_; have HO425 := n5_; have HO428 := n6_; have HB := n7_; clear n0_ n1_ n2_ n3_ n4_ n5_ n6_ n7_; (try clear hb); (try clear hb2); (try clear hk); (try clear hi); (try clear ho0); obtain ⟨Ao45, co45, eo45⟩ := Kd.R_slice HO428.out; subst eo45; obtain ⟨Ao46, co46, eo46⟩ := Kd.R_slice HO425.out; subst eo46) | (go_at_call 18; (with_reducible refine (laws_loInts.calls kj7 _ _ t426 _ _ t422 t429 _ ?side1 ?side2 ?side3 ?side4 A35.out).mono ?_); (case side1 => repeat (first | exact (Kd.R_reads' HO428.out).2.2 | (with_reducible refine Kd.C_alloc ?_ _) | (with_reducible refine Kd.C_drewN ?_ _) | (with_reducible refine Kd.C_drew ?_))); (case side2 => exact (Kd.R_reads' HO428.out).2.1); (case side3 => repeat (first | exact (Kd.R_reads' HO425.out).2.2 | (with_reducible refine Kd.C_alloc ?_ _) | (with_reducible refine Kd.C_drewN ?_ _) | (with_reducible refine Kd.C_drew ?_))); (case side4 => exact (Kd.R_reads' HO425.out).2.1); rintro e w' ⟨rfl, ⟨nd, rfl⟩⟩))
                  go_ret
                  exact ⟨by first | rfl | (simp [errW_none, errW_some] <;> rfl) | (simp [*, errW_none, errW_some] <;> rfl), by repeat (first | (with_reducible first | exact HB.out | apply below_alloc | apply pw_below_drewN | apply below_drew1) | exact HB.out)⟩
                · replace c33 := Bool.eq_false_iff.mpr c33
                  subst c33
                  have H1 : (some false) = some r := by rw [if_neg (show ¬ (false = true) by decide)] at H; exact H
                  clear H
                  have H := H1
                  clear H1
                  obtain rfl := Option.some.inj H
                  go_wp2_with (first | ((with_reducible refine gate_callee (f := 19) rfl ?_); refine goesL_ (some 42) rfl rfl Twin.func19 (by kernel_rfl) rfl #[.int .i64 (l1.length : Int), .int .i64 (t397.length : Int)] rfl (by (try simp only [List.map_toArray, List.map_cons, List.map_nil]); first | done | rfl | (simp only [List.length_drop, List.length_take]; rfl)) ?_; (with_reducible refine (laws_loSome.calls kj7 (l1.length : Int) (t397.length : Int) t412 _ A28.out).mono ?_); rintro e w47 ⟨v413, rfl, ho0, hb⟩; refine ⟨_, rfl, ?_⟩; have n0_ := Aside0.mk (Kd.R_elder' (by (with_reducible repeat (first | apply Kd.R_alloc | apply Kd.R_drewN | apply Kd.R_drew)); exact HO_5.out) (Kd.R_base ho0) hb); have n1_ := Aside0.mk (Kd.R_elder' (by (with_reducible repeat (first | apply Kd.R_alloc | apply Kd.R_drewN | apply Kd.R_drew)); exact HO_6.out) (Kd.R_base ho0) hb); have n2_ := Aside0.mk (Kd.R_lower (Kd.R_new' (Kd.R_new' ho0 (Kd.R_lt (by (with_reducible repeat (first | apply Kd.R_alloc | apply Kd.R_drewN | apply Kd.R_drew)); exact HO_5.out))) (Kd.R_lt (by (with_reducible repeat (first | apply Kd.R_alloc | apply Kd.R_drewN | apply Kd.R_drew)); exact HO_6.out))) (below_size (by repeat (first | (with_reducible first | exact HB.out | apply below_alloc | apply pw_below_drewN | apply below_drew1) | exact HB.out)))); have n3_ := Aside0.mk (below_step (by repeat (first | (with_reducible first | exact HB.out | apply below_alloc | apply pw_below_drewN | apply below_drew1) | exact HB.out)) hb); clear HO_5; clear HO_6; clear HB; have HO_5 := n0_; have HO_6 := n1_; have HO414 := n2_; have HB := n3_; clear n0_ n1_ n2_ n3_; (try clear hb); (try clear hb2); (try clear hk); (try clear hi); (try clear ho0); obtain ⟨Ao48, co48, eo48⟩ := Kd.R_slice HO414.out; subst eo48) | ((with_reducible refine gate_callee (f := 17) rfl ?_); refine goesL_ (some 46) rfl rfl Twin.func17 (by kernel_rfl) rfl #[.slice Ao10 t397.length co10, .slice Ao48 t412.length co48] rfl (by (try simp only [List.map_toArray, List.map_cons, List.map_nil]); first | done | rfl | (simp only [List.length_drop, List.length_take]; rfl)) ?_; (with_reducible refine (impl_ShareSum.calls _ _ t397 _ _ t412 t415 true _ ?side1 ?side2 ?side3 ?side4 A29.out).mono ?_); (case side1 => repeat (first | exact (Kd.R_reads' HO_5.out).2.2 | (with_reducible refine Kd.C_alloc ?_ _) | (with_reducible refine Kd.C_drewN ?_ _) | (with_reducible refine Kd.C_drew ?_))); (case side2 => exact (Kd.R_reads' HO_5.out).2.1); (case side3 => repeat (first | exact (Kd.R_reads' HO414.out).2.2 | (with_reducible refine Kd.C_alloc ?_ _) | (with_reducible refine Kd.C_drewN ?_ _) | (with_reducible refine Kd.C_drew ?_))); (case side4 => exact (Kd.R_reads' HO414.out).2.1); rintro e w49 ⟨v417, rfl, ho0, hb⟩; refine ⟨_, rfl, ?_⟩; have n0_ := Aside0.mk (Kd.R_elder' (by (with_reducible repeat (first | apply Kd.R_alloc | apply Kd.R_drewN | apply Kd.R_drew)); exact HO_5.out) (Kd.R_base ho0) hb); have n1_ := Aside0.mk (Kd.R_elder' (by (with_reducible repeat (first | apply Kd.R_alloc | apply Kd.R_drewN | apply Kd.R_drew)); exact HO_6.out) (Kd.R_base ho0) hb); have n2_ := Aside0.mk (Kd.R_elder' (by (with_reducible repeat (first | apply Kd.R_alloc | apply Kd.R_drewN | apply Kd.R_drew)); exact HO414.out) (Kd.R_base ho0) hb); have n3_ := Aside0.mk (Kd.R_lower (Kd.R_new' (Kd.R_new' (Kd.R_new' ho0 (Kd.R_lt (by (with_reducible repeat (first | apply Kd.R_alloc | apply Kd.R_drewN | apply Kd.R_drew)); exact HO_5.out))) (Kd.R_lt (by (with_reducible repeat (first | apply Kd.R_alloc | apply Kd.R_drewN | apply Kd.R_drew)); exact HO_6.out))) (Kd.R_lt (by (with_reducible repeat (first | apply Kd.R_alloc | apply Kd.R_drewN | apply Kd.R_drew)); exact HO414.out))) (below_size (by repeat (first | (with_reducible first | exact HB.out | apply below_alloc | apply pw_below_drewN | apply below_drew1) | exact HB.out)))); have n4_ := Aside0.mk (below_step (by repeat (first | (with_reducible first | exact HB.out | apply below_alloc | apply pw_below_drewN | apply below_drew1) | exact HB.out)) hb); clear HO_5; clear HO_6; clear HO414; clear HB; have HO_5 := n0_; have HO_6 := n1_; have HO414 := n2_; have HO418 := n3_; have HB := n4_; clear n0_ n1_ n2_ n3_ n4_; (try clear hb); (try clear hb2); (try clear hk); (try clear hi); (try clear ho0)) | ((with_reducible refine gate_callee (f := 27) rfl ?_); refine goesL_ (some 52) rfl rfl Twin.func27 (by kernel_rfl) rfl #[.slice Ao48 t412.length co48] rfl (by (try simp only [List.map_toArray, List.map_cons, List.map_nil]); first | done | rfl | (simp only [List.length_drop, List.length_take]; rfl)) ?_; (with_reducible refine (impl_PolyThrough.calls _ _ t412 t419 _ ?side1 ?side2 A30.out).mono ?_); (case side1 => repeat (first | exact (Kd.R_reads' HO414.out).2.2 | (with_reducible refine Kd.C_alloc ?_ _) | (with_reducible refine Kd.C_drewN ?_ _) | (with_reducible refine Kd.C_drew ?_))); (case side2 => exact (Kd.R_reads' HO414.out).2.1); rintro e w50 ⟨v420, rfl, ho0, hb⟩; refine ⟨_, rfl, ?_⟩; have n0_ := Aside0.mk (Kd.R_elder' (by (with_reducible repeat (first | apply Kd.R_alloc | apply Kd.R_drewN | apply Kd.R_drew)); exact HO_5.out) (Kd.R_base ho0) hb); have n1_ := Aside0.mk (Kd.R_elder' (by (with_reducible repeat (first | apply Kd.R_alloc | apply Kd.R_drewN | apply Kd.R_drew)); exact HO_6.out) (Kd.R_base ho0) hb); have n2_ := Aside0.mk (Kd.R_elder' (by (with_reducible repeat (first | apply Kd.R_alloc | apply Kd.R_drewN | apply Kd.R_drew)); exact HO414.out) (Kd.R_base ho0) hb); have n3_ := Aside0.mk (Kd.R_elder' (by (with_reducible repeat (first | apply Kd.R_alloc | apply Kd.R_drewN | apply Kd.R_drew)); exact HO418.out) (Kd.R_base ho0) hb); have n4_ := Aside0.mk (Kd.R_lower (Kd.R_new' (Kd.R_new' (Kd.R_new' (Kd.R_new' ho0 (Kd.R_lt (by (with_reducible repeat (first | apply Kd.R_alloc | apply Kd.R_drewN | apply Kd.R_drew)); exact HO_5.out))) (Kd.R_lt (by (with_reducible repeat (first | apply Kd.R_alloc | apply Kd.R_drewN | apply Kd.R_drew)); exact HO_6.out))) (Kd.R_lt (by (with_reducible repeat (first | apply Kd.R_alloc | apply Kd.R_drewN | apply Kd.R_drew)); exact HO414.out))) (Kd.R_lt (by (with_reducible repeat (first | apply Kd.R_alloc | apply Kd.R_drewN | apply Kd.R_drew)); exact HO418.out))) (below_size (by repeat (first | (with_reducible first | exact HB.out | apply below_alloc | apply pw_below_drewN | apply below_drew1) | exact HB.out)))); have n5_ := Aside0.mk (below_step (by repeat (first | (with_reducible first | exact HB.out | apply below_alloc | apply pw_below_drewN | apply below_drew1) | exact HB.out)) hb); clear HO_5; clear HO_6; clear HO414; clear HO418; clear HB; have HO_5 := n0_; have HO_6 := n1_; have HO414 := n2_; have HO418 := n3_; have HO421 := n4_; have HB := n5_; clear n0_ n1_ n2_ n3_ n4_ n5_; (try clear hb); (try clear hb2); (try clear hk); (try clear hi); (try clear ho0); obtain ⟨Ao51, co51, eo51⟩ := Kd.R_slice HO_6.out; subst eo51; obtain ⟨Ao52, co52, eo52⟩ := Kd.R_slice HO421.out; subst eo52) | ((with_reducible refine gate_callee (f := 17) rfl ?_); refine goesL_ (some 53) rfl rfl Twin.func17 (by kernel_rfl) rfl #[.slice Ao51 t400.length co51, .slice Ao52 t419.length co52] rfl (by (try simp only [List.map_toArray, List.map_cons, List.map_nil]); first | done | rfl | (simp only [List.length_drop, List.length_take]; rfl)) ?_; (with_reducible refine (impl_ShareSum.calls _ _ t400 _ _ t419 t422 false _ ?side1 ?side2 ?side3 ?side4 A31.out).mono ?_); (case side1 => repeat (first | exact (Kd.R_reads' HO_6.out).2.2 | (with_reducible refine Kd.C_alloc ?_ _) | (with_reducible refine Kd.C_drewN ?_ _) | (with_reducible refine Kd.C_drew ?_))); (case side2 => exact (Kd.R_reads' HO_6.out).2.1); (case side3 => repeat (first | exact (Kd.R_reads' HO421.out).2.2 | (with_reducible refine Kd.C_alloc ?_ _) | (with_reducible refine Kd.C_drewN ?_ _) | (with_reducible refine Kd.C_drew ?_))); (case side4 => exact (Kd.R_reads' HO421.out).2.1); rintro e w53 ⟨v424, rfl, ho0, hb⟩; refine ⟨_, rfl, ?_⟩; have n0_ := Aside0.mk (Kd.R_elder' (by (with_reducible repeat (first | apply Kd.R_alloc | apply Kd.R_drewN | apply Kd.R_drew)); exact HO_5.out) (Kd.R_base ho0) hb); have n1_ := Aside0.mk (Kd.R_elder' (by (with_reducible repeat (first | apply Kd.R_alloc | apply Kd.R_drewN | apply Kd.R_drew)); exact HO_6.out) (Kd.R_base ho0) hb); have n2_ := Aside0.mk (Kd.R_elder' (by (with_reducible repeat (first | apply Kd.R_alloc | apply Kd.R_drewN | apply Kd.R_drew)); exact HO414.out) (Kd.R_base ho0) hb); have n3_ := Aside0.mk (Kd.R_elder' (by (with_reducible repeat (first | apply Kd.R_alloc | apply Kd.R_drewN | apply Kd.R_drew)); exact HO418.out) (Kd.R_base ho0) hb); have n4_ := Aside0.mk (Kd.R_elder' (by (with_reducible repeat (first | apply Kd.R_alloc | apply Kd.R_drewN | apply Kd.R_drew)); exact HO421.out) (Kd.R_base ho0) hb); have n5_ := Aside0.mk (Kd.R_lower (Kd.R_new' (Kd.R_new' (Kd.R_new' (Kd.R_new' (Kd.R_new' ho0 (Kd.R_lt (by (with_reducible repeat (first | apply Kd.R_alloc | apply Kd.R_drewN | apply Kd.R_drew)); exact HO_5.out))) (Kd.R_lt (by (with_reducible repeat (first | apply Kd.R_alloc | apply Kd.R_drewN | apply Kd.R_drew)); exact HO_6.out))) (Kd.R_lt (by (with_reducible repeat (first | apply Kd.R_alloc | apply Kd.R_drewN | apply Kd.R_drew)); exact HO414.out))) (Kd.R_lt (by (with_reducible repeat (first | apply Kd.R_alloc | apply Kd.R_drewN | apply Kd.R_drew)); exact HO418.out))) (Kd.R_lt (by (with_reducible repeat (first | apply Kd.R_alloc | apply Kd.R_drewN | apply Kd.R_drew)); exact HO421.out))) (below_size (by repeat (first | (with_reducible first | exact HB.out | apply below_alloc | apply pw_below_drewN | apply below_drew1) | exact HB.out)))); have n6_ := Aside0.mk (below_step (by repeat (first | (with_reducible first | exact HB.out | apply below_alloc | apply pw_below_drewN | apply below_drew1) | exact HB.out)) hb); clear HO_5; clear HO_6; clear HO414; clear HO418; clear HO421; clear HB; have HO_5 := n0_; have HO_6 := n1_; have HO414 := n2_; have HO418 := n3_; have HO421 := n4_; have HO425 := n5_; have HB := n6_; clear n0_ n1_ n2_ n3_ n4_ n5_ n6_; (try clear hb); (try clear hb2); (try clear hk); (try clear hi); (try clear ho0)))
                  go_ret
                  exact ⟨by first | rfl | (simp [errW_none, errW_some] <;> rfl) | (simp [*, errW_none, errW_some] <;> rfl), by repeat (first | (with_reducible first | exact HB.out | apply below_alloc | apply pw_below_drewN | apply below_drew1) | exact HB.out)⟩
              · replace c32 := Bool.eq_false_iff.mpr c32
                subst c32
                have H1 : (some false) = some r := by rw [if_neg (show ¬ (false = true) by decide)] at H; exact H
                clear H
                have H := H1
                clear H1
                obtain rfl := Option.some.inj H
                go_wp2_with (first | ((with_reducible refine gate_callee (f := 19) rfl ?_); refine goesL_ (some 42) rfl rfl Twin.func19 (by kernel_rfl) rfl #[.int .i64 (l1.length : Int), .int .i64 (t397.length : Int)] rfl (by (try simp only [List.map_toArray, List.map_cons, List.map_nil]); first | done | rfl | (simp only [List.length_drop, List.length_take]; rfl)) ?_; (with_reducible refine (laws_loSome.calls kj7 (l1.length : Int) (t397.length : Int) t412 _ A28.out).mono ?_); rintro e w54 ⟨v413, rfl, ho0, hb⟩; refine ⟨_, rfl, ?_⟩; have n0_ := Aside0.mk (Kd.R_elder' (by (with_reducible repeat (first | apply Kd.R_alloc | apply Kd.R_drewN | apply Kd.R_drew)); exact HO_5.out) (Kd.R_base ho0) hb); have n1_ := Aside0.mk (Kd.R_elder' (by (with_reducible repeat (first | apply Kd.R_alloc | apply Kd.R_drewN | apply Kd.R_drew)); exact HO_6.out) (Kd.R_base ho0) hb); have n2_ := Aside0.mk (Kd.R_lower (Kd.R_new' (Kd.R_new' ho0 (Kd.R_lt (by (with_reducible repeat (first | apply Kd.R_alloc | apply Kd.R_drewN | apply Kd.R_drew)); exact HO_5.out))) (Kd.R_lt (by (with_reducible repeat (first | apply Kd.R_alloc | apply Kd.R_drewN | apply Kd.R_drew)); exact HO_6.out))) (below_size (by repeat (first | (with_reducible first | exact HB.out | apply below_alloc | apply pw_below_drewN | apply below_drew1) | exact HB.out)))); have n3_ := Aside0.mk (below_step (by repeat (first | (with_reducible first | exact HB.out | apply below_alloc | apply pw_below_drewN | apply below_drew1) | exact HB.out)) hb); clear HO_5; clear HO_6; clear HB; have HO_5 := n0_; have HO_6 := n1_; have HO414 := n2_; have HB := n3_; clear n0_ n1_ n2_ n3_; (try clear hb); (try clear hb2); (try clear hk); (try clear hi); (try clear ho0); obtain ⟨Ao55, co55, eo55⟩ := Kd.R_slice HO414.out; subst eo55) | ((with_reducible refine gate_callee (f := 17) rfl ?_); refine goesL_ (some 46) rfl rfl Twin.func17 (by kernel_rfl) rfl #[.slice Ao10 t397.length co10, .slice Ao55 t412.length co55] rfl (by (try simp only [List.map_toArray, List.map_cons, List.map_nil]); first | done | rfl | (simp only [List.length_drop, List.length_take]; rfl)) ?_; (with_reducible refine (impl_ShareSum.calls _ _ t397 _ _ t412 t415 false _ ?side1 ?side2 ?side3 ?side4 A29.out).mono ?_); (case side1 => repeat (first | exact (Kd.R_reads' HO_5.out).2.2 | (with_reducible refine Kd.C_alloc ?_ _) | (with_reducible refine Kd.C_drewN ?_ _) | (with_reducible refine Kd.C_drew ?_))); (case side2 => exact (Kd.R_reads' HO_5.out).2.1); (case side3 => repeat (first | exact (Kd.R_reads' HO414.out).2.2 | (with_reducible refine Kd.C_alloc ?_ _) | (with_reducible refine Kd.C_drewN ?_ _) | (with_reducible refine Kd.C_drew ?_))); (case side4 => exact (Kd.R_reads' HO414.out).2.1); rintro e w56 ⟨v417, rfl, ho0, hb⟩; refine ⟨_, rfl, ?_⟩; have n0_ := Aside0.mk (Kd.R_elder' (by (with_reducible repeat (first | apply Kd.R_alloc | apply Kd.R_drewN | apply Kd.R_drew)); exact HO_5.out) (Kd.R_base ho0) hb); have n1_ := Aside0.mk (Kd.R_elder' (by (with_reducible repeat (first | apply Kd.R_alloc | apply Kd.R_drewN | apply Kd.R_drew)); exact HO_6.out) (Kd.R_base ho0) hb); have n2_ := Aside0.mk (Kd.R_elder' (by (with_reducible repeat (first | apply Kd.R_alloc | apply Kd.R_drewN | apply Kd.R_drew)); exact HO414.out) (Kd.R_base ho0) hb); have n3_ := Aside0.mk (Kd.R_lower (Kd.R_new' (Kd.R_new' (Kd.R_new' ho0 (Kd.R_lt (by (with_reducible repeat (first | apply Kd.R_alloc | apply Kd.R_drewN | apply Kd.R_drew)); exact HO_5.out))) (Kd.R_lt (by (with_reducible repeat (first | apply Kd.R_alloc | apply Kd.R_drewN | apply Kd.R_drew)); exact HO_6.out))) (Kd.R_lt (by (with_reducible repeat (first | apply Kd.R_alloc | apply Kd.R_drewN | apply Kd.R_drew)); exact HO414.out))) (below_size (by repeat (first | (with_reducible first | exact HB.out | apply below_alloc | apply pw_below_drewN | apply below_drew1) | exact HB.out)))); have n4_ := Aside0.mk (below_step (by repeat (first | (with_reducible first | exact HB.out | apply below_alloc | apply pw_below_drewN | apply below_drew1) | exact HB.out)) hb); clear HO_5; clear HO_6; clear HO414; clear HB; have HO_5 := n0_; have HO_6 := n1_; have HO414 := n2_; have HO418 := n3_; have HB := n4_; clear n0_ n1_ n2_ n3_ n4_; (try clear hb); (try clear hb2); (try clear hk); (try clear hi); (try clear ho0)) | ((with_reducible refine gate_callee (f := 27) rfl ?_); refine goesL_ (some 52) rfl rfl Twin.func27 (by kernel_rfl) rfl #[.slice Ao55 t412.length co55] rfl (by (try simp only [List.map_toArray, List.map_cons, List.map_nil]); first | done | rfl | (simp only [List.length_drop, List.length_take]; rfl)) ?_; (with_reducible refine (impl_PolyThrough.calls _ _ t412 t419 _ ?side1 ?side2 A30.out).mono ?_); (case side1 => repeat (first | exact (Kd.R_reads' HO414.out).2.2 | (with_reducible refine Kd.C_alloc ?_ _) | (with_reducible refine Kd.C_drewN ?_ _) | (with_reducible refine Kd.C_drew ?_))); (case side2 => exact (Kd.R_reads' HO414.out).2.1); rintro e w57 ⟨v420, rfl, ho0, hb⟩; refine ⟨_, rfl, ?_⟩; have n0_ := Aside0.mk (Kd.R_elder' (by (with_reducible repeat (first | apply Kd.R_alloc | apply Kd.R_drewN | apply Kd.R_drew)); exact HO_5.out) (Kd.R_base ho0) hb); have n1_ := Aside0.mk (Kd.R_elder' (by (with_reducible repeat (first | apply Kd.R_alloc | apply Kd.R_drewN | apply Kd.R_drew)); exact HO_6.out) (Kd.R_base ho0) hb); have n2_ := Aside0.mk (Kd.R_elder' (by (with_reducible repeat (first | apply Kd.R_alloc | apply Kd.R_drewN | apply Kd.R_drew)); exact HO414.out) (Kd.R_base ho0) hb); have n3_ := Aside0.mk (Kd.R_elder' (by (with_reducible repeat (first | apply Kd.R_alloc | apply Kd.R_drewN | apply Kd.R_drew)); exact HO418.out) (Kd.R_base ho0) hb); have n4_ := Aside0.mk (Kd.R_lower (Kd.R_new' (Kd.R_new' (Kd.R_new' (Kd.R_new' ho0 (Kd.R_lt (by (with_reducible repeat (first | apply Kd.R_alloc | apply Kd.R_drewN | apply Kd.R_drew)); exact HO_5.out))) (Kd.R_lt (by (with_reducible repeat (first | apply Kd.R_alloc | apply Kd.R_drewN | apply Kd.R_drew)); exact HO_6.out))) (Kd.R_lt (by (with_reducible repeat (first | apply Kd.R_alloc | apply Kd.R_drewN | apply Kd.R_drew)); exact HO414.out))) (Kd.R_lt (by (with_reducible repeat (first | apply Kd.R_alloc | apply Kd.R_drewN | apply Kd.R_drew)); exact HO418.out))) (below_size (by repeat (first | (with_reducible first | exact HB.out | apply below_alloc | apply pw_below_drewN | apply below_drew1) | exact HB.out)))); have n5_ := Aside0.mk (below_step (by repeat (first | (with_reducible first | exact HB.out | apply below_alloc | apply pw_below_drewN | apply below_drew1) | exact HB.out)) hb); clear HO_5; clear HO_6; clear HO414; clear HO418; clear HB; have HO_5 := n0_; have HO_6 := n1_; have HO414 := n2_; have HO418 := n3_; have HO421 := n4_; have HB := n5_; clear n0_ n1_ n2_ n3_ n4_ n5_; (try clear hb); (try clear hb2); (try clear hk); (try clear hi); (try clear ho0); obtain ⟨Ao58, co58, eo58⟩ := Kd.R_slice HO_6.out; subst eo58; obtain ⟨Ao59, co59, eo59⟩ := Kd.R_slice HO421.out; subst eo59) | ((with_reducible refine gate_callee (f := 17) rfl ?_); refine goesL_ (some 53) rfl rfl Twin.func17 (by kernel_rfl) rfl #[.slice Ao58 t400.length co58, .slice Ao59 t419.length co59] rfl (by (try simp only [List.map_toArray, List.map_cons, List.map_nil]); first | done | rfl | (simp only [List.length_drop, List.length_take]; rfl)) ?_; (with_reducible refine (impl_ShareSum.calls _ _ t400 _ _ t419 t422 t423 _ ?side1 ?side2 ?side3 ?side4 A31.out).mono ?_); (case side1 => repeat (first | exact (Kd.R_reads' HO_6.out).2.2 | (with_reducible refine Kd.C_alloc ?_ _) | (with_reducible refine Kd.C_drewN ?_ _) | (with_reducible refine Kd.C_drew ?_))); (case side2 => exact (Kd.R_reads' HO_6.out).2.1); (case side3 => repeat (first | exact (Kd.R_reads' HO421.out).2.2 | (with_reducible refine Kd.C_alloc ?_ _) | (with_reducible refine Kd.C_drewN ?_ _) | (with_reducible refine Kd.C_drew ?_))); (case side4 => exact (Kd.R_reads' HO421.out).2.1); rintro e w60 ⟨v424, rfl, ho0, hb⟩; refine ⟨_, rfl, ?_⟩; have n0_ := Aside0.mk (Kd.R_elder' (by (with_reducible repeat (first | apply Kd.R_alloc | apply Kd.R_drewN | apply Kd.R_drew)); exact HO_5.out) (Kd.R_base ho0) hb); have n1_ := Aside0.mk (Kd.R_elder' (by (with_reducible repeat (first | apply Kd.R_alloc | apply Kd.R_drewN | apply Kd.R_drew)); exact HO_6.out) (Kd.R_base ho0) hb); have n2_ := Aside0.mk (Kd.R_elder' (by (with_reducible repeat (first | apply Kd.R_alloc | apply Kd.R_drewN | apply Kd.R_drew)); exact HO414.out) (Kd.R_base ho0) hb); have n3_ := Aside0.mk (Kd.R_elder' (by (with_reducible repeat (first | apply Kd.R_alloc | apply Kd.R_drewN | apply Kd.R_drew)); exact HO418.out) (Kd.R_base ho0) hb); have n4_ := Aside0.mk (Kd.R_elder' (by (with_reducible repeat (first | apply Kd.R_alloc | apply Kd.R_drewN | apply Kd.R_drew)); exact HO421.out) (Kd.R_base ho0) hb); have n5_ := Aside0.mk (Kd.R_lower (Kd.R_new' (Kd.R_new' (Kd.R_new' (Kd.R_new' (Kd.R_new' ho0 (Kd.R_lt (by (with_reducible repeat (first | apply Kd.R_alloc | apply Kd.R_drewN | apply Kd.R_drew)); exact HO_5.out))) (Kd.R_lt (by (with_reducible repeat (first | apply Kd.R_alloc | apply Kd.R_drewN | apply Kd.R_drew)); exact HO_6.out))) (Kd.R_lt (by (with_reducible repeat (first | apply Kd.R_alloc | apply Kd.R_drewN | apply Kd.R_drew)); exact HO414.out))) (Kd.R_lt (by (with_reducible repeat (first | apply Kd.R_alloc | apply Kd.R_drewN | apply Kd.R_drew)); exact HO418.out))) (Kd.R_lt (by (with_reducible repeat (first | apply Kd.R_alloc | apply Kd.R_drewN | apply Kd.R_drew)); exact HO421.out))) (below_size (by repeat (first | (with_reducible first | exact HB.out | apply below_alloc | apply pw_below_drewN | apply below_drew1) | exact HB.out)))); have n6_ := Aside0.mk (below_step (by repeat (first | (with_reducible first | exact HB.out | apply below_alloc | apply pw_below_drewN | apply below_drew1) | exact HB.out)) hb); clear HO_5; clear HO_6; clear HO414; clear HO418; clear HO421; clear HB; have HO_5 := n0_; have HO_6 := n1_; have HO414 := n2_; have HO418 := n3_; have HO421 := n4_; have HO425 := n5_; have HB := n6_; clear n0_ n1_ n2_ n3_ n4_ n5_ n6_; (try clear hb); (try clear hb2); (try clear hk); (try clear hi); (try clear ho0)))
                go_ret
                exact ⟨by first | rfl | (simp [errW_none, errW_some] <;> rfl) | (simp [*, errW_none, errW_some] <;> rfl), by repeat (first | (with_reducible first | exact HB.out | apply below_alloc | apply pw_below_drewN | apply below_drew1) | exact HB.out)⟩
def laws_FnThroughSum.Pure : Prop := ∀ (l0 : List Int) (l1 : List Int), l0.length ≤ maxLen → l0.length * 1 ≤ 140737488351232 → (∀ x ∈ l0, (Lit.int .u8 x).wf = true) → l1.length ≤ maxLen → l1.length * 1 ≤ 140737488351232 → (∀ x ∈ l1, (Lit.int .u8 x).wf = true) → ∃ k, laws_FnThroughSum.f k l0 l1 = some true
theorem laws_FnThroughSum.walk (P : laws_FnThroughSum.Pure) (a0 : Option Addr) (len0 cap0 : Nat) (z0 : List Int) (a1 : Option Addr) (len1 cap1 : Nat) (z1 : List Int) (w : World) (w0 : (a0 = none ∧ len0 = 0 ∧ cap0 = 0 ∧ z0 = []) ∨ ∃ x, a0 = some x ∧ len0 ≤ cap0 ∧ cap0 ≤ maxLen ∧ z0.length = cap0 ∧ (∀ i, i < z0.length → w.cell? (x.add i) = some (.int .u8 (z0.getD i 0))) ∧ ∀ n ∈ z0, (Lit.int .u8 n).wf = true) (y0 : len0 * 1 ≤ 140737488351232) (w1 : (a1 = none ∧ len1 = 0 ∧ cap1 = 0 ∧ z1 = []) ∨ ∃ x, a1 = some x ∧ len1 ≤ cap1 ∧ cap1 ≤ maxLen ∧ z1.length = cap1 ∧ (∀ i, i < z1.length → w.cell? (x.add i) = some (.int .u8 (z1.getD i 0))) ∧ ∀ n ∈ z1, (Lit.int .u8 n).wf = true) (y1 : len1 * 1 ≤ 140737488351232) :
    Calls Twin.prog 5 #[.slice a0 len0 cap0, .slice a1 len1 cap1] w fun e w' => e = .returned (.bool true) ∧ Below w.heap.size w w' := by
  obtain ⟨l0, rfl, hr0, hm0, hw0, hc0⟩ := ReadsInt.ofRowC w0
  obtain ⟨l1, rfl, hr1, hm1, hw1, hc1⟩ := ReadsInt.ofRowC w1
  obtain ⟨k, h⟩ := P l0 l1 hm0 y0 hw0 hm1 y1 hw1
  refine (laws_FnThroughSum.calls k _ _ l0 _ _ l1 true w (Kd.C_of_reads (d := (0 : Int)) (h1 := fun _ => rfl) hr0) hc0 (Kd.C_of_reads (d := (0 : Int)) (h1 := fun _ => rfl) hr1) hc1 h).mono ?_
  rintro e w' ⟨rfl, hd⟩
  exact ⟨rfl, hd⟩
end
end Go.Proofs.Ytcdnmnipaaooiaa.P
end

section
namespace Go.Proofs.Ytcdnmnipaaooiaa.P
open Go.RowKit Go.Proofs.Ytcdnmnipaaooiaa.Num
def okF (a : Int) : Bool := decide (0 ≤ a ∧ a ≤ 30)
def fsum (a b : Int) : Int := if okF a && okF b then (a + b) % 31 else 0
def fdif (a b : Int) : Int := if okF a && okF b then (a - b) % 31 else 0
def fmul (a b : Int) : Int := if okF a && okF b then (a * b) % 31 else 0
theorem okF_iff {a : Int} : okF a = true ↔ 0 ≤ a ∧ a ≤ 30 := by simp [okF]
theorem okF_mod (a : Int) : okF (a % 31) = true := by rw [okF_iff]; omega
theorem fsum_ok {a b : Int} (ha : okF a = true) (hb : okF b = true) : fsum a b = (a + b) % 31 := by simp [fsum, ha, hb]
theorem fdif_ok {a b : Int} (ha : okF a = true) (hb : okF b = true) : fdif a b = (a - b) % 31 := by simp [fdif, ha, hb]
theorem fmul_ok {a b : Int} (ha : okF a = true) (hb : okF b = true) : fmul a b = (a * b) % 31 := by simp [fmul, ha, hb]
theorem mul_rng {a b : Int} (ha : 0 ≤ a ∧ a ≤ 30) (hb : 0 ≤ b ∧ b ≤ 30) : 0 ≤ a * b ∧ a * b ≤ 900 := by
  refine ⟨Int.mul_nonneg ha.1 hb.1, ?_⟩
  have := Int.mul_le_mul ha.2 hb.2 hb.1 (by omega)
  omega
theorem l6In_eq (a b c : Int) : spec_l6In.f a b c = some (decide (b ≤ a ∧ a ≤ c)) := by
  unfold spec_l6In.f
  by_cases h : a ≥ b
  · rw [if_pos h]; simp [show b ≤ a from h]
  · rw [if_neg h]; simp [show ¬ b ≤ a from h]
theorem sFieldOk (a : Int) : spec_FieldOk.f a = some (okF a) := by simp [spec_FieldOk.f, l6In_eq, okF]
theorem loNum_eq {a : Int} (h : 0 ≤ a) : laws_loNum.f a = some (a % 31) := by unfold laws_loNum.f; rw [tmod_pos h]
theorem elementOf_eq (a : Int) : impl_elementOf.f a = some (a % 31) := by unfold impl_elementOf.f; rw [elem_eq]
theorem plus_eq {a b : Int} (h : -4611686018427387904 ≤ a ∧ a ≤ 4611686018427387903) (h' : -4611686018427387904 ≤ b ∧ b ≤ 4611686018427387903) : impl_element_plus.f a b = some ((a + b) % 31) := by
  unfold impl_element_plus.f; rw [w64 (by omega), elementOf_eq]; rfl
theorem plus_ok {a b : Int} (h : okF a = true) (h' : okF b = true) : impl_element_plus.f a b = some ((a + b) % 31) := by
  rw [okF_iff] at h h'; exact plus_eq (by omega) (by omega)
theorem times_ok {a b : Int} (h : okF a = true) (h' : okF b = true) : impl_element_times.f a b = some ((a * b) % 31) := by
  rw [okF_iff] at h h'
  have := mul_rng h h'
  unfold impl_element_times.f; rw [w64 (by omega), elementOf_eq]; rfl
theorem sFieldDif (a b : Int) : spec_FieldDif.f a b = some (fdif a b) := by
  unfold spec_FieldDif.f fdif
  simp only [sFieldOk, Option.bind_some]
  cases ha : okF a <;> simp only [Bool.false_and, Bool.true_and, Bool.false_eq_true, if_false, if_true]
  cases hb : okF b <;> simp only [Bool.false_eq_true, if_false, if_true]
  rw [okF_iff] at ha hb
  rw [w64 (n := a + 31) (by omega), w64 (by omega), tmod_pos (by omega)]
  congr 1; omega
theorem sFieldMul (a b : Int) : spec_FieldMul.f a b = some (fmul a b) := by
  unfold spec_FieldMul.f fmul
  simp only [sFieldOk, Option.bind_some]
  cases ha : okF a <;> simp only [Bool.false_and, Bool.true_and, Bool.false_eq_true, if_false, if_true]
  cases hb : okF b <;> simp only [Bool.false_eq_true, if_false, if_true]
  rw [okF_iff] at ha hb
  have := mul_rng ha hb
  rw [w64 (by omega), tmod_pos (by omega)]
end Go.Proofs.Ytcdnmnipaaooiaa.P
end

section
namespace Go.Proofs.Ytcdnmnipaaooiaa.P
open Go.RowKit Go.Proofs.Ytcdnmnipaaooiaa.Num Go.Proofs.YtcdnmnipaaooiaaW.PrintWords
theorem zd_fin : ∀ i : Fin 31, ∀ j : Fin 31, (i.val * j.val) % 31 = 0 → i.val = 0 ∨ j.val = 0 := by decide +kernel
theorem zd {a b : Int} (h : (a * b) % 31 = 0) : a % 31 = 0 ∨ b % 31 = 0 := by
  have ha := Int.emod_nonneg a (b := 31) (by omega)
  have hb := Int.emod_nonneg b (b := 31) (by omega)
  have ha' := Int.emod_lt_of_pos a (b := 31) (by omega)
  have hb' := Int.emod_lt_of_pos b (b := 31) (by omega)
  rw [Int.mul_emod] at h
  obtain ⟨i, hi⟩ := Int.eq_ofNat_of_zero_le ha
  obtain ⟨j, hj⟩ := Int.eq_ofNat_of_zero_le hb
  rw [hi, hj] at h ⊢
  have := zd_fin ⟨i, by omega⟩ ⟨j, by omega⟩ (by simp only; exact_mod_cast h)
  simp only at this
  omega
def inv31 (a : Int) : Int := (([0, 1, 16, 21, 8, 25, 26, 9, 4, 7, 28, 17, 13, 12, 20, 29, 2, 11, 19, 18, 14, 3, 24, 27, 22, 5, 6, 23, 10, 15, 30] : List Int)).getD a.toNat 0
theorem inv_fin : ∀ i : Fin 31, okF (inv31 (i.val : Int)) = true ∧ (i.val = 0 ∨ ((i.val : Int) * inv31 (i.val : Int)) % 31 = 1) ∧ inv31 (inv31 (i.val : Int)) = (i.val : Int) := by decide +kernel
theorem inv_ok {a : Int} (ha : okF a = true) : okF (inv31 a) = true := by
  rw [okF_iff] at ha
  obtain ⟨i, rfl⟩ := Int.eq_ofNat_of_zero_le ha.1
  exact (inv_fin ⟨i, by omega⟩).1
theorem inv_one {a : Int} (ha : okF a = true) (h0 : a ≠ 0) : (a * inv31 a) % 31 = 1 := by
  rw [okF_iff] at ha
  obtain ⟨i, rfl⟩ := Int.eq_ofNat_of_zero_le ha.1
  rcases (inv_fin ⟨i, by omega⟩).2.1 with h | h
  · simp only at h; omega
  · exact h
theorem l1Inv_fin : ∀ i : Fin 31, spec_l1Inv.f 40 (i.val : Int) = some (inv31 (i.val : Int)) := by decide +kernel
theorem l1Inv_eq {a : Int} (ha : okF a = true) (k : Nat) (hk : 40 ≤ k) : spec_l1Inv.f k a = some (inv31 a) := by
  rw [okF_iff] at ha
  obtain ⟨i, rfl⟩ := Int.eq_ofNat_of_zero_le ha.1
  exact at_rounds (spec_l1Inv.mono _) hk (l1Inv_fin ⟨i, by omega⟩)
end Go.Proofs.Ytcdnmnipaaooiaa.P
end

section
namespace Go.Proofs.Ytcdnmnipaaooiaa.P
open Go.RowKit Go.Proofs.Ytcdnmnipaaooiaa.Num
def allOk (l : List Int) : Bool := l.all okF
theorem allOk_iff {l : List Int} : allOk l = true ↔ ∀ x ∈ l, okF x = true := by simp [allOk, List.all_eq_true]
def ev : List Int → Int → Int
  | [], _ => 0
  | c :: l, x => c + x * ev l x
theorem ev_cons (c : Int) (l : List Int) (x : Int) : ev (c :: l) x = c + x * ev l x := rfl
def cof (l : List Int) (j : Nat) : Int := l.getD j 0
theorem cof_nil (j : Nat) : cof [] j = 0 := rfl
theorem cof_zero (c : Int) (l : List Int) : cof (c :: l) 0 = c := rfl
theorem cof_succ (c : Int) (l : List Int) (j : Nat) : cof (c :: l) (j + 1) = cof l j := by simp [cof]
theorem cof_out {l : List Int} {j : Nat} (h : l.length ≤ j) : cof l j = 0 := by simp [cof, List.getD_eq_getElem?_getD, List.getElem?_eq_none h]
theorem cof_in {l : List Int} {j : Nat} (h : j < l.length) : cof l j = l[j] := by simp [cof, List.getD_eq_getElem?_getD, List.getElem?_eq_getElem h]
theorem cof_rng {l : List Int} (h : allOk l = true) (j : Nat) : 0 ≤ cof l j ∧ cof l j ≤ 30 := by
  rcases Nat.lt_or_ge j l.length with hj | hj
  · rw [cof_in hj]; exact okF_iff.1 (allOk_iff.1 h _ (List.getElem_mem hj))
  · rw [cof_out hj]; omega
theorem list_of_cof {a b : List Int} (hl : a.length = b.length) (h : ∀ j, j < a.length → cof a j = cof b j) : a = b := by
  apply List.ext_getElem hl
  intro i h1 h2
  have := h i h1
  rwa [cof_in h1, cof_in h2] at this
theorem ev_zero {l : List Int} (h : ∀ j, cof l j = 0) (x : Int) : ev l x = 0 := by
  induction l with
  | nil => rfl
  | cons c l ih =>
    have h0 := h 0
    rw [cof_zero] at h0
    rw [ev, h0, ih (fun j => by have := h (j + 1); rwa [cof_succ] at this)]
    omega
theorem ev_mod {a b : List Int} (hl : a.length = b.length) (h : ∀ j, cof a j % 31 = cof b j % 31) (x : Int) : ev a x % 31 = ev b x % 31 := by
  induction a generalizing b with
  | nil => cases b with
    | nil => rfl
    | cons _ _ => cases hl
  | cons c a ih =>
    cases b with
    | nil => cases hl
    | cons d b =>
      have h0 := h 0
      rw [cof_zero, cof_zero] at h0
      have hi := ih (b := b) (by simpa using hl) (fun j => by have := h (j + 1); rwa [cof_succ, cof_succ] at this)
      rw [ev, ev, Int.add_emod, Int.mul_emod, h0, hi, ← Int.mul_emod, ← Int.add_emod]
def S : List Int → List Int → Nat → Int
  | [], _, _ => 0
  | x :: a, b, j => x * cof b j + match j with | 0 => 0 | j + 1 => S a b j
theorem S_zero (x : Int) (a b : List Int) : S (x :: a) b 0 = x * cof b 0 := by simp [S]
theorem S_succ (x : Int) (a b : List Int) (j : Nat) : S (x :: a) b (j + 1) = x * cof b (j + 1) + S a b j := rfl
theorem S_snoc (a : List Int) (x : Int) (b : List Int) : ∀ j, S (a ++ [x]) b j = S a b j + if a.length ≤ j then x * cof b (j - a.length) else 0 := by
  induction a with
  | nil =>
    intro j
    cases j with
    | zero => simp [S]
    | succ j => simp [S]
  | cons y a ih =>
    intro j
    cases j with
    | zero => rw [List.cons_append, S_zero, S_zero]; simp
    | succ j =>
      rw [List.cons_append, S_succ, S_succ, ih j]
      simp only [List.length_cons, Nat.add_le_add_iff_right, Nat.add_sub_add_right]
      omega
def tab (n : Nat) (F : Nat → Int) : List Int := (List.range n).map F
theorem tab_length (n : Nat) (F : Nat → Int) : (tab n F).length = n := by simp [tab]
theorem tab_at {n : Nat} {F : Nat → Int} {j : Nat} (h : j < n) : (tab n F)[j]'(by rw [tab_length]; exact h) = F j := by simp [tab]
theorem tab_cof {n : Nat} {F : Nat → Int} {j : Nat} (h : j < n) : cof (tab n F) j = F j := by rw [cof_in (by rw [tab_length]; exact h), tab_at h]
theorem tab_set (n : Nat) (F : Nat → Int) (p : Nat) (v : Int) : (tab n F).set p v = tab n (fun j => if j = p then v else F j) := by
  apply List.ext_getElem
  · simp [tab]
  · intro i h1 h2
    simp only [tab, List.length_set, List.length_map, List.length_range] at h1
    rw [List.getElem_set, tab_at h1, tab_at h1]
    by_cases e : p = i
    · subst e; simp
    · rw [if_neg e, if_neg (fun h => e h.symm)]
theorem tab_congr {n : Nat} {F G : Nat → Int} (h : ∀ j, j < n → F j = G j) : tab n F = tab n G := List.map_congr_left fun j hj => h j (List.mem_range.1 hj)
theorem tab_zero (n : Nat) : tab n (fun _ => 0) = List.replicate n 0 := List.ext_getElem (by simp [tab]) (fun i h1 h2 => by simp [tab])
theorem tab_of (l : List Int) : tab l.length (cof l) = l := list_of_cof (tab_length _ _) (fun j hj => by rw [tab_length] at hj; exact tab_cof hj)
theorem tab_ok (n : Nat) (F : Nat → Int) : allOk (tab n (fun j => F j % 31)) = true := by
  rw [allOk_iff]; intro x hx
  simp only [tab, List.mem_map] at hx
  obtain ⟨j, _, rfl⟩ := hx
  exact okF_mod _
theorem ev_tab_add (n : Nat) : ∀ (F G : Nat → Int) (x : Int), ev (tab n (fun j => F j + G j)) x = ev (tab n F) x + ev (tab n G) x := by
  induction n with
  | zero => intro F G x; rfl
  | succ n ih =>
    intro F G x
    have e : ∀ H : Nat → Int, tab (n + 1) H = H 0 :: tab n (fun j => H (j + 1)) := fun H => by simp [tab, List.range_succ_eq_map]
    rw [e, e, e, ev, ev, ev, ih, Int.mul_add]
    omega
theorem ev_tab_mul (n : Nat) : ∀ (c : Int) (F : Nat → Int) (x : Int), ev (tab n (fun j => c * F j)) x = c * ev (tab n F) x := by
  induction n with
  | zero => intro c F x; exact (Int.mul_zero c).symm
  | succ n ih =>
    intro c F x
    have e : ∀ H : Nat → Int, tab (n + 1) H = H 0 :: tab n (fun j => H (j + 1)) := fun H => by simp [tab, List.range_succ_eq_map]
    rw [e, e, ev, ev, ih, Int.mul_add, Int.mul_left_comm]
theorem tab_cons (n : Nat) (H : Nat → Int) : tab (n + 1) H = H 0 :: tab n (fun j => H (j + 1)) := by simp [tab, List.range_succ_eq_map]
theorem ev_tab_long (l : List Int) : ∀ (n : Nat) (x : Int), l.length ≤ n → ev (tab n (cof l)) x = ev l x := by
  induction l with
  | nil => intro n x _; exact ev_zero (fun j => by rcases Nat.lt_or_ge j n with h | h; exact tab_cof h; exact cof_out (by rw [tab_length]; exact h)) x
  | cons c l ih =>
    intro n x h
    obtain ⟨n, rfl⟩ : ∃ m, n = m + 1 := ⟨n - 1, by simp at h; omega⟩
    rw [tab_cons, ev, ev, cof_zero]
    have := ih n x (by simpa using h)
    rw [show (fun j => cof (c :: l) (j + 1)) = cof l from funext fun j => cof_succ c l j, this]
theorem ev_S (a b : List Int) : ∀ (n : Nat) (x : Int), a.length + b.length ≤ n + 1 → ev (tab n (S a b)) x = ev a x * ev b x := by
  induction a with
  | nil =>
    intro n x _
    rw [ev, Int.zero_mul]
    exact ev_zero (fun j => by rcases Nat.lt_or_ge j n with h | h; exact tab_cof h; exact cof_out (by rw [tab_length]; exact h)) x
  | cons y a ih =>
    intro n x h
    simp only [List.length_cons] at h
    have e1 : ev (tab n (S (y :: a) b)) x = ev (tab n (fun j => y * cof b j)) x + ev (tab n (fun j => match j with | 0 => 0 | j + 1 => S a b j)) x := by
      rw [← ev_tab_add]; congr 1
    rw [e1, ev_tab_mul, ev_tab_long b n x (by omega), ev, Int.add_mul]
    congr 1
    cases n with
    | zero =>
      have : b.length = 0 := by omega
      have hb : b = [] := List.eq_nil_of_length_eq_zero this
      subst hb
      simp [tab, ev]
    | succ n =>
      rw [tab_cons, ev, ih n x (by omega)]
      simp only
      rw [Int.zero_add, Int.mul_assoc]
def prod (a b : List Int) : List Int := if a.length = 0 ∨ b.length = 0 then [] else tab (a.length + b.length - 1) (fun j => S a b j % 31)
theorem prod_def {a b : List Int} (h : ¬ (a.length = 0 ∨ b.length = 0)) : prod a b = tab (a.length + b.length - 1) (fun j => S a b j % 31) := by unfold prod; rw [if_neg h]
theorem prod_length (a b : List Int) : (prod a b).length = if a.length = 0 ∨ b.length = 0 then 0 else a.length + b.length - 1 := by unfold prod; split <;> simp [tab_length]
theorem prod_ok (a b : List Int) : allOk (prod a b) = true := by unfold prod; split; rfl; exact tab_ok _ _
theorem prod_ev (a b : List Int) (x : Int) : ev (prod a b) x % 31 = (ev a x * ev b x) % 31 := by
  unfold prod
  split
  · rename_i h
    rcases h with h | h
    · rw [List.eq_nil_of_length_eq_zero h]; simp [ev]
    · rw [List.eq_nil_of_length_eq_zero h]; simp [ev]
  · rename_i h
    rw [← ev_S a b (a.length + b.length - 1) x (by omega)]
    refine ev_mod (by simp [tab_length]) (fun j => ?_) x
    rcases Nat.lt_or_ge j (a.length + b.length - 1) with hj | hj
    · rw [tab_cof hj, tab_cof hj, Int.emod_emod_of_dvd _ (Int.dvd_refl 31)]
    · rw [cof_out (by rw [tab_length]; exact hj), cof_out (by rw [tab_length]; exact hj)]
def quo (r : Int) : List Int → List Int
  | [] => []
  | [_] => []
  | _ :: c :: l => ev (c :: l) r :: quo r (c :: l)
theorem quo_length (r : Int) : ∀ l : List Int, (quo r l).length = l.length - 1
  | [] => rfl
  | [_] => rfl
  | _ :: c :: l => by rw [quo, List.length_cons, quo_length r (c :: l)]; simp
theorem quo_ev (r x : Int) : ∀ l : List Int, ev l x = (x - r) * ev (quo r l) x + ev l r
  | [] => by simp [ev, quo]
  | [c] => by simp [ev, quo]
  | a :: c :: l => by
    have ih := quo_ev r x (c :: l)
    rw [quo, ev_cons a, ev_cons a, ev_cons (ev (c :: l) r)]
    generalize ev (c :: l) r = R at ih ⊢
    generalize ev (quo r (c :: l)) x = Q at ih ⊢
    rw [ih]
    have e1 : (x - r) * (R + x * Q) = (x - r) * R + x * ((x - r) * Q) := by rw [Int.mul_add, Int.mul_left_comm]
    have e2 : x * ((x - r) * Q + R) = x * ((x - r) * Q) + x * R := Int.mul_add _ _ _
    have e3 : (x - r) * R = x * R - r * R := Int.sub_mul _ _ _
    omega
def zeroM (l : List Int) : Prop := ∀ j, cof l j % 31 = 0
theorem quo_zero (r : Int) : ∀ l : List Int, ev l r % 31 = 0 → zeroM (quo r l) → zeroM l
  | [], _, _ => fun j => by rw [cof_nil]; rfl
  | [c], he, _ => fun j => by
    cases j with
    | zero => rw [cof_zero]; simpa [ev] using he
    | succ j => rw [cof_succ, cof_nil]; rfl
  | a :: c :: l, he, hz => by
    have h0 := hz 0
    rw [quo, cof_zero] at h0
    have ih := quo_zero r (c :: l) h0 (fun j => by have := hz (j + 1); rwa [quo, cof_succ] at this)
    intro j
    cases j with
    | zero =>
      rw [cof_zero]
      rw [ev, Int.add_emod, Int.mul_emod, h0, Int.mul_zero] at he
      simpa using he
    | succ j => rw [cof_succ]; exact ih j
def cntN (p : Nat → Bool) : Nat → Nat → Nat
  | _, 0 => 0
  | s, d + 1 => (if p s then 1 else 0) + cntN p (s + 1) d
theorem cntN_mono {p q : Nat → Bool} : ∀ d s, (∀ i, s ≤ i → i < s + d → p i = true → q i = true) → cntN p s d ≤ cntN q s d := by
  intro d
  induction d with
  | zero => intro s _; exact Nat.le_refl _
  | succ d ih =>
    intro s h
    have h1 := ih (s + 1) (fun i h1 h2 => h i (by omega) (by omega))
    have h2 := h s (by omega) (by omega)
    unfold cntN
    cases hp : p s
    · simp only [Bool.false_eq_true, if_false]; omega
    · rw [h2 hp]; omega
theorem cntN_none {p : Nat → Bool} : ∀ d s, (∀ i, s ≤ i → i < s + d → p i = false) → cntN p s d = 0 := by
  intro d
  induction d with
  | zero => intro s _; rfl
  | succ d ih =>
    intro s h
    unfold cntN
    rw [h s (by omega) (by omega), ih (s + 1) (fun i h1 h2 => h i (by omega) (by omega))]; rfl
theorem cntN_all {p : Nat → Bool} : ∀ d s, (∀ i, s ≤ i → i < s + d → p i = true) → cntN p s d = d := by
  intro d
  induction d with
  | zero => intro s _; rfl
  | succ d ih =>
    intro s h
    unfold cntN
    rw [h s (by omega) (by omega), ih (s + 1) (fun i h1 h2 => h i (by omega) (by omega)), if_pos rfl]; omega
theorem cntN_or {p q : Nat → Bool} {r : Nat} : ∀ d s, (∀ i, s ≤ i → i < s + d → p i = true → i = r ∨ q i = true) → cntN p s d ≤ cntN q s d + 1 := by
  intro d
  induction d with
  | zero => intro s _; exact Nat.zero_le _
  | succ d ih =>
    intro s h
    by_cases e : s = r
    · have h1 : cntN p (s + 1) d ≤ cntN q (s + 1) d := cntN_mono d (s + 1) (fun i h1 h2 hp => (h i (by omega) (by omega) hp).resolve_left (by omega))
      unfold cntN
      split <;> split <;> omega
    · have h1 := ih (s + 1) (fun i h1 h2 => h i (by omega) (by omega))
      have h2 := h s (by omega) (by omega)
      unfold cntN
      cases hp : p s
      · simp only [Bool.false_eq_true, if_false]; split <;> omega
      · rw [(h2 hp).resolve_left e]; simp only [if_true]; omega
def roots (l : List Int) (d : Nat) : Nat := cntN (fun i => decide (ev l (i : Int) % 31 = 0)) 0 d
theorem roots_few (d : Nat) (hd : d ≤ 31) : ∀ (n : Nat) (l : List Int), l.length = n → ¬ zeroM l → roots l d < n := by
  intro n
  induction n with
  | zero =>
    intro l hl hz
    rw [List.eq_nil_of_length_eq_zero hl] at hz
    exact absurd (fun j => by rw [cof_nil]; rfl) hz
  | succ n ih =>
    intro l hl hz
    by_cases hr : ∃ r : Nat, r < d ∧ ev l (r : Int) % 31 = 0
    · obtain ⟨r, hrd, hr⟩ := hr
      have hq : ¬ zeroM (quo (r : Int) l) := fun h => hz (quo_zero _ l hr h)
      have hn := ih (quo (r : Int) l) (by rw [quo_length, hl]; rfl) hq
      have : roots l d ≤ roots (quo (r : Int) l) d + 1 := by
        refine cntN_or (r := r) d 0 (fun i _ h2 hp => ?_)
        simp only [decide_eq_true_eq] at hp ⊢
        rw [quo_ev (r : Int) (i : Int) l, Int.add_emod, hr, Int.add_zero, Int.emod_emod_of_dvd _ (Int.dvd_refl 31)] at hp
        rcases zd hp with h | h
        · exact .inl (by omega)
        · exact .inr h
      omega
    · have : roots l d = 0 := cntN_none d 0 (fun i _ h2 => by
        simp only [decide_eq_false_iff_not]
        exact fun h => hr ⟨i, by omega, h⟩)
      omega
theorem same_of_values {a b : List Int} {n : Nat} (hn : n ≤ 31) (hla : a.length = n) (hlb : b.length = n) (ha : allOk a = true) (hb : allOk b = true) (h : ∀ i : Nat, i < n → ev a (i : Int) % 31 = ev b (i : Int) % 31) : a = b := by
  have hs : ∀ x, ev (tab n (fun j => cof a j + 30 * cof b j)) x = ev a x + 30 * ev b x := fun x => by
    rw [ev_tab_add, ev_tab_mul, ev_tab_long a n x (by omega), ev_tab_long b n x (by omega)]
  by_cases hz : zeroM (tab n (fun j => cof a j + 30 * cof b j))
  · refine list_of_cof (by omega) (fun j hj => ?_)
    have := hz j
    rw [tab_cof (by omega)] at this
    have h1 := cof_rng ha j
    have h2 := cof_rng hb j
    omega
  · have h1 := roots_few n hn n _ (tab_length _ _) hz
    have h2 : roots (tab n (fun j => cof a j + 30 * cof b j)) n = n := cntN_all n 0 (fun i _ h2 => by
      simp only [decide_eq_true_eq]
      rw [hs]
      have := h i (by omega)
      omega)
    omega
end Go.Proofs.Ytcdnmnipaaooiaa.P
end

section
namespace Go.Proofs.Ytcdnmnipaaooiaa.P
open Go.RowKit Go.Proofs.Ytcdnmnipaaooiaa.Num Go.Proofs.YtcdnmnipaaooiaaW.PrintWords
theorem Ev.at_ {α : Type} {g : Nat → Option α} {r : α} (h : Ev g r) : ∃ K, ∀ k, K ≤ k → g k = some r := h
theorem rd_nat (l : List Int) (i : Nat) : rd l (i : Int) = l.getD i 0 := rfl
theorem rd_lt {l : List Int} {i : Nat} (h : i < l.length) : rd l (i : Int) = l[i] := by simp [rd_nat, List.getD_eq_getElem?_getD, List.getElem?_eq_getElem h]
theorem drop_eq {a b : List Int} {i : Nat} (ha : i < a.length) (hb : i < b.length) : a.drop i = b.drop i ↔ a[i] = b[i] ∧ a.drop (i + 1) = b.drop (i + 1) := by
  rw [List.drop_eq_getElem_cons ha, List.drop_eq_getElem_cons hb, List.cons.injEq]
theorem loInts_loop (a b : List Int) (hl : a.length = b.length) (hm : a.length < 1099511627776) (d : Nat) : ∀ i : Nat, i + d = a.length → Ev (fun k => laws_loInts.l0 k a b (i : Int)) (decide (a.drop i = b.drop i)) := by
  induction d with
  | zero =>
    intro i hi
    refine ⟨1, fun k hk => ?_⟩
    obtain ⟨k, rfl⟩ : ∃ m, k = m + 1 := ⟨k - 1, by omega⟩
    simp only [laws_loInts.l0]
    rw [if_neg (by omega), List.drop_of_length_le (by omega), List.drop_of_length_le (by omega)]
    simp
  | succ d ih =>
    intro i hi
    have hia : i < a.length := by omega
    have hib : i < b.length := by omega
    obtain ⟨K, h⟩ := ih (i + 1) (by omega)
    refine ⟨K + 1, fun k hk => ?_⟩
    obtain ⟨k, rfl⟩ : ∃ m, k = m + 1 := ⟨k - 1, by omega⟩
    simp only [laws_loInts.l0]
    rw [if_pos (by omega), if_pos (by omega), if_pos (by omega), rd_lt hia, rd_lt hib, w64 (by omega)]
    by_cases e : a[i] = b[i]
    · rw [if_pos e]
      refine (h k (by omega)).trans ?_
      simp [drop_eq hia hib, e]
    · rw [if_neg e]
      simp [drop_eq hia hib, e]
theorem loInts_ev (a b : List Int) (hm : a.length < 1099511627776) : Ev (fun k => laws_loInts.f k a b) (decide (a = b)) := by
  unfold laws_loInts.f
  by_cases hl : a.length = b.length
  · obtain ⟨K, h⟩ := loInts_loop a b hl hm a.length 0 (by omega)
    exact ⟨K, fun k hk => by dsimp only; rw [if_pos (by omega)]; exact h k hk⟩
  · exact ⟨0, fun k _ => by dsimp only; rw [if_neg (by omega)]; simp; intro e; exact hl (by rw [e])⟩
end Go.Proofs.Ytcdnmnipaaooiaa.P
end

section
namespace Go.Proofs.Ytcdnmnipaaooiaa.P
open Go.RowKit Go.Proofs.Ytcdnmnipaaooiaa.Num Go.Proofs.YtcdnmnipaaooiaaW.PrintWords
theorem okN_okF : okN = okF := rfl
def polyOk (l : List Int) : Bool := allOk l && decide (l.length ≤ 9)
def shareOk (l : List Int) : Bool := allOk l && decide (l.length ≤ 20)
theorem polyOk_iff {l : List Int} : polyOk l = true ↔ allOk l = true ∧ l.length ≤ 9 := by simp [polyOk]
theorem shareOk_iff {l : List Int} : shareOk l = true ↔ allOk l = true ∧ l.length ≤ 20 := by simp [shareOk]
theorem allOk_drop {l : List Int} {i : Nat} (h : i < l.length) : allOk (l.drop i) = (okF l[i] && allOk (l.drop (i + 1))) := by
  rw [List.drop_eq_getElem_cons h]; rfl
theorem sPolyOk_loop (l : List Int) (hm : l.length < 1099511627776) (d : Nat) : ∀ i : Nat, i + d = l.length → Ev (fun k => spec_PolyOk.l0 k l (i : Int)) (allOk (l.drop i) && decide (l.length ≤ 9)) := by
  induction d with
  | zero =>
    intro i hi
    obtain rfl : i = l.length := by omega
    refine ⟨1, fun k hk => ?_⟩
    obtain ⟨k, rfl⟩ : ∃ m, k = m + 1 := ⟨k - 1, by omega⟩
    simp only [spec_PolyOk.l0]
    rw [if_neg (by omega), List.drop_length]
    congr 1
    simp [allOk]; omega
  | succ d ih =>
    intro i hi
    obtain ⟨K, h⟩ := ih (i + 1) (by omega)
    refine ⟨K + 1, fun k hk => ?_⟩
    obtain ⟨k, rfl⟩ : ∃ m, k = m + 1 := ⟨k - 1, by omega⟩
    have hia : i < l.length := by omega
    simp only [spec_PolyOk.l0]
    rw [if_pos (by omega), if_pos (by omega), rd_lt hia, sFieldOk, allOk_drop hia]
    simp only [Option.bind_some]
    cases ho : okF l[i]
    · simp
    · rw [if_pos rfl, w64 (by omega)]
      exact (h k (by omega)).trans (by simp)
theorem sPolyOk (l : List Int) (hm : l.length < 1099511627776) : Ev (fun k => spec_PolyOk.f k l) (polyOk l) := sPolyOk_loop l hm l.length 0 (by omega)
theorem elementsOk_eq (l : List Int) (a : Nat) : impl_elementsOk.f l (a : Int) = some (allOk l && decide (l.length ≤ a)) := by
  unfold impl_elementsOk.f allOk
  rw [okN_okF, Bool.and_comm]
  congr 2
  simp
theorem iPolyOk (l : List Int) : impl_PolyOk.f l = some (polyOk l) := by
  unfold impl_PolyOk.f
  rw [show (9 : Int) = ((9 : Nat) : Int) from rfl, elementsOk_eq]; rfl
end Go.Proofs.Ytcdnmnipaaooiaa.P
end

section
namespace Go.Proofs.Ytcdnmnipaaooiaa.P
open Go.RowKit Go.Proofs.Ytcdnmnipaaooiaa.Num Go.Proofs.YtcdnmnipaaooiaaW.PrintWords
def T (a b : List Int) (i t j : Nat) : Int := (S (a.take i) b j + (if i ≤ j ∧ j < i + t then cof a i * cof b (j - i) else 0)) % 31
theorem T_rng (a b : List Int) (i t j : Nat) : 0 ≤ T a b i t j ∧ T a b i t j ≤ 30 := by unfold T; omega
theorem T_step (a b : List Int) (i t n : Nat) : (tab n (T a b i t)).set (i + t) ((T a b i t (i + t) + cof a i * cof b t) % 31) = tab n (T a b i (t + 1)) := by
  rw [tab_set]
  refine tab_congr fun j _ => ?_
  by_cases e : j = i + t
  · subst e
    rw [if_pos rfl]
    unfold T
    rw [if_neg (by omega), if_pos (by omega), show i + t - i = t by omega]
    omega
  · rw [if_neg e]
    unfold T
    by_cases h : i ≤ j ∧ j < i + t
    · rw [if_pos h, if_pos (by omega)]
    · rw [if_neg h, if_neg (by omega)]
theorem T_row (a b : List Int) {i : Nat} (hi : i < a.length) (n : Nat) : tab n (T a b i b.length) = tab n (T a b (i + 1) 0) := by
  refine tab_congr fun j _ => ?_
  unfold T
  rw [List.take_succ_eq_append_getElem hi, S_snoc, List.length_take, Nat.min_eq_left (by omega), if_neg (by omega : ¬ (i + 1 ≤ j ∧ j < i + 1 + 0)), Int.add_zero, cof_in hi]
  congr 2
  by_cases h : i ≤ j
  · rw [if_pos h]
    by_cases h2 : j < i + b.length
    · rw [if_pos ⟨h, h2⟩]
    · rw [if_neg (by omega), cof_out (by omega), Int.mul_zero]
  · rw [if_neg h, if_neg (by omega)]
theorem T_start (a b : List Int) (n : Nat) : List.replicate n 0 = tab n (T a b 0 0) := by
  rw [← tab_zero]
  refine tab_congr fun j _ => ?_
  unfold T
  rw [if_neg (by omega), List.take_zero]
  rfl
theorem T_end (a b : List Int) (n : Nat) : tab n (T a b a.length 0) = tab n (fun j => S a b j % 31) := by
  refine tab_congr fun j _ => ?_
  unfold T
  rw [if_neg (by omega), List.take_length, Int.add_zero]
theorem rd_cof (l : List Int) (i : Nat) : rd l (i : Int) = cof l i := rfl
theorem l2Mul_l1 {a b : List Int} (ha : allOk a = true) (hb : allOk b = true) (hla : a.length ≤ 1000) (hlb : b.length ≤ 1000) {i : Nat} (hi : i < a.length) (R : List Int)
    (hR : Ev (fun k => spec_l2Mul.l0 k a b (tab (a.length + b.length - 1) (T a b (i + 1) 0)) ((i + 1 : Nat) : Int)) R) (d : Nat) :
    ∀ t : Nat, t + d = b.length → Ev (fun k => spec_l2Mul.l1 k a b (tab (a.length + b.length - 1) (T a b i t)) (i : Int) (t : Int)) R := by
  induction d with
  | zero =>
    intro t ht
    obtain rfl : t = b.length := by omega
    obtain ⟨K, h⟩ := hR
    refine ⟨K + 1, fun k hk => ?_⟩
    obtain ⟨k, rfl⟩ : ∃ m, k = m + 1 := ⟨k - 1, by omega⟩
    simp only [spec_l2Mul.l1]
    rw [if_neg (by omega), w64 (by omega), T_row a b hi]
    exact h k (by omega)
  | succ d ih =>
    intro t ht
    obtain ⟨K, h⟩ := ih (t + 1) (by omega)
    refine ⟨K + 1, fun k hk => ?_⟩
    obtain ⟨k, rfl⟩ : ∃ m, k = m + 1 := ⟨k - 1, by omega⟩
    have hp : wrap64 ((i : Int) + (t : Int)) = ((i + t : Nat) : Int) := by rw [w64 (by omega)]; omega
    have h1 := mul_rng (cof_rng ha i) (cof_rng hb t)
    have h2 := T_rng a b i t (i + t)
    simp only [spec_l2Mul.l1]
    rw [hp, if_pos (by omega), if_pos (by omega), if_pos (by rw [tab_length]; omega), if_pos (by omega), if_pos (by omega), if_pos (by omega), rd_cof, rd_cof, rd_cof, tab_cof (by omega), w64 (n := cof a i * cof b t) (by omega), w64 (n := T a b i t (i + t) + cof a i * cof b t) (by omega), tmod_pos (by omega), Int.toNat_natCast, T_step, w64 (by omega)]
    exact h k (by omega)
theorem l2Mul_l0 {a b : List Int} (ha : allOk a = true) (hb : allOk b = true) (hla : a.length ≤ 1000) (hlb : b.length ≤ 1000) (d : Nat) :
    ∀ i : Nat, i + d = a.length → Ev (fun k => spec_l2Mul.l0 k a b (tab (a.length + b.length - 1) (T a b i 0)) (i : Int)) (tab (a.length + b.length - 1) (fun j => S a b j % 31)) := by
  induction d with
  | zero =>
    intro i hi
    obtain rfl : i = a.length := by omega
    refine ⟨1, fun k hk => ?_⟩
    obtain ⟨k, rfl⟩ : ∃ m, k = m + 1 := ⟨k - 1, by omega⟩
    simp only [spec_l2Mul.l0]
    rw [if_neg (by omega), T_end]
  | succ d ih =>
    intro i hi
    obtain ⟨K, h⟩ := l2Mul_l1 ha hb hla hlb (i := i) (by omega) _ (ih (i + 1) (by omega)) b.length 0 (by omega)
    refine ⟨K + 1, fun k hk => ?_⟩
    obtain ⟨k, rfl⟩ : ∃ m, k = m + 1 := ⟨k - 1, by omega⟩
    simp only [spec_l2Mul.l0]
    rw [if_pos (by omega)]
    exact h k (by omega)
theorem l2Mul_ev {a b : List Int} (ha : allOk a = true) (hb : allOk b = true) (hla : a.length ≤ 1000) (hlb : b.length ≤ 1000) : Ev (fun k => spec_l2Mul.f k a b) (prod a b) := by
  by_cases h0 : a.length = 0 ∨ b.length = 0
  · refine ⟨1, fun k hk => ?_⟩
    obtain ⟨k, rfl⟩ : ∃ m, k = m + 1 := ⟨k - 1, by omega⟩
    dsimp only
    unfold spec_l2Mul.f
    rw [prod, if_pos h0]
    by_cases h1 : a.length = 0
    · rw [if_pos (by omega)]; rfl
    · rw [if_neg (by omega), show ((b.length : Int) == 0) = true by rw [beq_iff_eq]; omega]; rfl
  · obtain ⟨K, h⟩ := l2Mul_l0 ha hb hla hlb a.length 0 (by omega)
    refine ⟨K + 1, fun k hk => ?_⟩
    obtain ⟨k, rfl⟩ : ∃ m, k = m + 1 := ⟨k - 1, by omega⟩
    dsimp only
    have hw : wrap64 (wrap64 ((a.length : Int) + (b.length : Int)) - 1) = ((a.length + b.length - 1 : Nat) : Int) := by rw [w64 (n := (a.length : Int) + (b.length : Int)) (by omega), w64 (by omega)]; omega
    unfold spec_l2Mul.f
    rw [if_neg (by omega), show ((b.length : Int) == 0) = false by rw [beq_eq_false_iff_ne]; omega]
    simp only [spec_l2Mul.j0, Bool.false_eq_true, if_false]
    rw [hw, if_pos (by omega), Int.toNat_natCast, if_pos (by omega), T_start a b, prod_def h0]
    exact h k (by omega)
end Go.Proofs.Ytcdnmnipaaooiaa.P
end

section
namespace Go.Proofs.Ytcdnmnipaaooiaa.P
open Go.RowKit Go.Proofs.Ytcdnmnipaaooiaa.Num Go.Proofs.YtcdnmnipaaooiaaW.PrintWords
set_option linter.unusedSimpArgs false
set_option linter.unusedVariables false
set_option linter.unusedSectionVars false
def fall (x : Int) : Nat → Int
  | 0 => 1
  | i + 1 => fall x i * (x - (i : Int))
def V (c : Nat → Int) (x : Int) : Nat → Int
  | 0 => 0
  | n + 1 => V c x n + c n * fall x n
theorem fall_up (x : Int) : ∀ i : Nat, fall (x + 1) (i + 1) = (x + 1) * fall x i
  | 0 => by simp [fall]
  | i + 1 => by
    rw [fall, fall_up x i, fall]
    have : x + 1 - ((i + 1 : Nat) : Int) = x - (i : Int) := by omega
    rw [this, Int.mul_assoc]
theorem fall_diff (x : Int) (i : Nat) : fall (x + 1) (i + 1) = fall x (i + 1) + ((i : Int) + 1) * fall x i := by
  rw [fall_up, fall]
  generalize fall x i = f
  grind
theorem V_up (c : Nat → Int) (x : Int) : ∀ n : Nat, V c (x + 1) (n + 1) = V c x (n + 1) + V (fun s => ((s : Int) + 1) * c (s + 1)) x n
  | 0 => by simp [V, fall]
  | n + 1 => by
    have h := V_up c x n
    show V c (x + 1) (n + 1) + c (n + 1) * fall (x + 1) (n + 1) = (V c x (n + 1) + c (n + 1) * fall x (n + 1)) + (V (fun s => ((s : Int) + 1) * c (s + 1)) x n + (((n : Int) + 1) * c (n + 1)) * fall x n)
    rw [h, fall_diff]
    generalize V c x (n + 1) = a
    generalize V (fun s => ((s : Int) + 1) * c (s + 1)) x n = b
    generalize fall x (n + 1) = f
    generalize fall x n = g
    generalize c (n + 1) = d
    grind
theorem V_mod {c c' : Nat → Int} (x : Int) : ∀ n : Nat, (∀ s, s < n → c s % 31 = c' s % 31) → V c x n % 31 = V c' x n % 31
  | 0, _ => rfl
  | n + 1, h => by
    have h1 := V_mod (c := c) (c' := c') x n (fun s hs => h s (by omega))
    have h2 := h n (by omega)
    rw [V, V]
    have h3 : (c n * fall x n) % 31 = (c' n * fall x n) % 31 := by rw [Int.mul_emod, h2, ← Int.mul_emod]
    omega
theorem V_sub (c c' : Nat → Int) (x : Int) : ∀ n : Nat, V (fun s => c s - c' s) x n = V c x n - V c' x n
  | 0 => rfl
  | n + 1 => by rw [V, V_sub c c' x n, V, V]; generalize fall x n = f; grind
theorem fall_none : ∀ i : Nat, fall 0 (i + 1) = 0
  | 0 => by simp [fall]
  | i + 1 => by rw [fall, fall_none i]; simp
theorem V_none (c : Nat → Int) : ∀ n : Nat, V c 0 (n + 1) = c 0
  | 0 => by simp [V, fall]
  | n + 1 => by rw [V, V_none c n, fall_none]; simp
def D (l : List Int) : Nat → Nat → Int
  | 0, i => cof l i
  | s + 1, i => ((D l s i - D l s (i - 1)) % 31 * inv31 ((s + 1 : Nat) : Int)) % 31
theorem D_ok {l : List Int} (h : allOk l = true) (s i : Nat) : okF (D l s i) = true := by
  cases s with
  | zero => exact okF_iff.2 (cof_rng h i)
  | succ s => exact okF_mod _
theorem back_inv (E v a : Int) (h : (a * v) % 31 = 1) : (a * ((E % 31 * v) % 31)) % 31 = E % 31 := by
  generalize hq : E / 31 = q
  have h1 : E % 31 = E - 31 * q := by omega
  rw [h1]
  generalize hr : ((E - 31 * q) * v) / 31 = r
  have h2 : ((E - 31 * q) * v) % 31 = (E - 31 * q) * v - 31 * r := by omega
  rw [h2]
  generalize ht : (a * v) / 31 = t
  have h3 : a * v = 1 + 31 * t := by omega
  have h4 : a * ((E - 31 * q) * v - 31 * r) = (E - 31 * q) * (a * v) - 31 * (a * r) := by grind
  rw [h4, h3]
  generalize hz : a * r = z
  have h5 : (E - 31 * q) * (1 + 31 * t) = E + 31 * (t * (E - 31 * q) - q) := by grind
  rw [h5]
  generalize t * (E - 31 * q) = y
  omega
theorem D_back (l : List Int) (s i : Nat) (hs : s < 30) : (((s : Int) + 1) * D l (s + 1) i) % 31 = (D l s i - D l s (i - 1)) % 31 := by
  have e : ((s : Int) + 1) = ((s + 1 : Nat) : Int) := by omega
  rw [e, D]
  exact back_inv _ _ _ (inv_one (okF_iff.2 (by omega)) (by omega))
theorem newton_value (l : List Int) : ∀ (m L b : Nat), m < L → L ≤ 30 → V (fun s => D l s (b + s)) (m : Int) L % 31 = D l 0 (b + m) % 31
  | 0, L, b, h, _ => by
    obtain ⟨L, rfl⟩ : ∃ k, L = k + 1 := ⟨L - 1, by omega⟩
    rw [show ((0 : Nat) : Int) = 0 from rfl, V_none]
  | m + 1, L, b, h, hL => by
    obtain ⟨L, rfl⟩ : ∃ k, L = k + 1 := ⟨L - 1, by omega⟩
    have e : ((m + 1 : Nat) : Int) = (m : Int) + 1 := by omega
    rw [e, V_up]
    have h1 := newton_value l m (L + 1) b (by omega) hL
    have h2 := newton_value l m L (b + 1) (by omega) (by omega)
    have h3 := newton_value l m L b (by omega) (by omega)
    have h4 : V (fun s => ((s : Int) + 1) * D l (s + 1) (b + (s + 1))) (m : Int) L % 31 = V (fun s => D l s (b + 1 + s) - D l s (b + s)) (m : Int) L % 31 := by
      refine V_mod _ L fun s hs => ?_
      rw [D_back l s _ (by omega), show b + (s + 1) - 1 = b + s by omega, show b + (s + 1) = b + 1 + s by omega]
    rw [V_sub] at h4
    have h5 : b + 1 + m = b + (m + 1) := by omega
    rw [h5] at h2
    omega
def fin0 (out : List Int) (i : Nat) (j : Nat) : Int := if 0 < j then (((cof out j * ((-(i : Int)) % 31)) % 31) + cof out (j - 1)) % 31 else (cof out j * ((-(i : Int)) % 31)) % 31
def finS (d : Nat → Int) (n : Nat) (out : List Int) (i : Nat) : List Int := tab n (fun j => if j = 0 then (fin0 out i 0 + d i) % 31 else fin0 out i j)
def fin (d : Nat → Int) (n : Nat) (out : List Int) : Nat → List Int
  | 0 => out
  | m + 1 => fin d n (finS d n out m) m
theorem fin0_ok {out : List Int} (h : allOk out = true) (i j : Nat) : okF (fin0 out i j) = true := by unfold fin0; split <;> exact okF_mod _
theorem finS_ok (d : Nat → Int) (n : Nat) {out : List Int} (h : allOk out = true) (i : Nat) : allOk (finS d n out i) = true := by
  rw [allOk_iff]; intro x hx
  simp only [finS, tab, List.mem_map] at hx
  obtain ⟨j, _, rfl⟩ := hx
  split
  · exact okF_mod _
  · exact fin0_ok h _ _
theorem finS_length (d : Nat → Int) (n : Nat) (out : List Int) (i : Nat) : (finS d n out i).length = n := tab_length _ _
theorem ev_tab_top (x : Int) : ∀ (m : Nat) (F : Nat → Int), F m = 0 → ev (tab (m + 1) F) x = ev (tab m F) x
  | 0, F, h => by rw [tab_cons, h]; simp [tab, ev]
  | m + 1, F, h => by rw [tab_cons, ev_cons, ev_tab_top x m _ h, tab_cons m F, ev_cons]
theorem finS_ev {d : Nat → Int} {n : Nat} {out : List Int} (hl : out.length = n) {i : Nat} (hn : 0 < n) (ht : cof out (n - 1) = 0) (x : Int) : ev (finS d n out i) x % 31 = ((x - (i : Int)) * ev out x + d i) % 31 := by
  obtain ⟨n, rfl⟩ : ∃ k, n = k + 1 := ⟨n - 1, by omega⟩
  have hcof : ∀ j, cof (finS d (n + 1) out i) j % 31 = cof (tab (n + 1) (fun j => (-(i : Int)) * cof out j + (if j = 0 then d i else cof out (j - 1)))) j % 31 := by
    intro j
    by_cases hj : j < n + 1
    · rw [finS, tab_cof hj, tab_cof hj]
      have hm : (cof out j * ((-(i : Int)) % 31)) % 31 = ((-(i : Int)) * cof out j) % 31 := by rw [Int.mul_emod, Int.emod_emod_of_dvd _ (Int.dvd_refl 31), ← Int.mul_emod, Int.mul_comm]
      by_cases h0 : j = 0
      · subst h0
        rw [if_pos rfl, if_pos rfl, fin0, if_neg (by omega), hm]
        omega
      · rw [if_neg h0, if_neg h0, fin0, if_pos (by omega), hm]
        omega
    · rw [cof_out (by rw [finS_length]; omega), cof_out (by rw [tab_length]; omega)]
  rw [ev_mod (by rw [finS_length, tab_length]) hcof x, ev_tab_add, ev_tab_mul]
  have h1 : ev (tab (n + 1) (cof out)) x = ev out x := ev_tab_long out _ x (by omega)
  have h2 : ev (tab (n + 1) (fun j => if j = 0 then d i else cof out (j - 1))) x = d i + x * ev out x := by
    rw [tab_cons, ev_cons]
    have h3 : tab n (fun j => (fun j => if j = 0 then d i else cof out (j - 1)) (j + 1)) = tab n (cof out) := tab_congr fun j _ => by simp
    rw [h3, ← ev_tab_top x n (cof out) (by simpa using ht), h1]
    simp
  have h4 : ev (tab (n + 1) fun j => -(i : Int) * cof out j) x = -(i : Int) * ev (tab (n + 1) (cof out)) x := ev_tab_mul _ _ _ _
  rw [h2, h1]
  congr 1
  generalize ev out x = e
  grind
theorem fin_spec (d : Nat → Int) (n : Nat) (x : Int) : ∀ (m : Nat) (out : List Int), m ≤ n → out.length = n → allOk out = true → (∀ j, n - m ≤ j → cof out j = 0) →
    (fin d n out m).length = n ∧ allOk (fin d n out m) = true ∧ ev (fin d n out m) x % 31 = (V d x m + fall x m * ev out x) % 31
  | 0, out, _, hl, ho, _ => ⟨hl, ho, by simp [fin, V, fall]⟩
  | m + 1, out, hm, hl, ho, ht => by
    have hz : ∀ j, n - m ≤ j → cof (finS d n out m) j = 0 := by
      intro j hj
      by_cases hjn : j < n
      · rw [finS, tab_cof hjn, if_neg (by omega), fin0, if_pos (by omega), ht j (by omega), ht (j - 1) (by omega)]; simp
      · exact cof_out (by rw [finS_length]; omega)
    obtain ⟨h1, h2, h3⟩ := fin_spec d n x m (finS d n out m) (by omega) (finS_length _ _ _ _) (finS_ok _ _ ho _) hz
    refine ⟨h1, h2, ?_⟩
    rw [fin, h3, V, fall]
    have h4 := finS_ev (d := d) (i := m) hl (by omega) (ht (n - 1) (by omega)) x
    have h5 : (fall x m * ev (finS d n out m) x) % 31 = (fall x m * ((x - (m : Int)) * ev out x + d m)) % 31 := by rw [Int.mul_emod, h4, ← Int.mul_emod]
    have h6 : fall x m * ((x - (m : Int)) * ev out x + d m) = d m * fall x m + fall x m * (x - (m : Int)) * ev out x := by
      generalize fall x m = f; generalize ev out x = e; grind
    rw [h6] at h5
    generalize fall x m * (x - (m : Int)) * ev out x = y at h5 ⊢
    omega
theorem minusP {a b : Int} (ha : okF a = true) (hb : okF b = true) : impl_element_minus.f a b = some ((a - b) % 31) := by
  have h1 := okF_iff.1 ha; have h2 := okF_iff.1 hb
  unfold impl_element_minus.f; rw [w64 (by omega), elementOf_eq]; rfl
theorem inverseP_fin : ∀ i : Fin 31, impl_element_inverse.f 40 (i.val : Int) = some (inv31 (i.val : Int)) := by decide +kernel
theorem inverseP {a : Int} (ha : okF a = true) (k : Nat) (hk : 40 ≤ k) : impl_element_inverse.f k a = some (inv31 a) := by
  rw [okF_iff] at ha
  obtain ⟨i, rfl⟩ := Int.eq_ofNat_of_zero_le ha.1
  exact at_rounds (impl_element_inverse.mono _) hk (inverseP_fin ⟨i, by omega⟩)
theorem rd_tab {n j : Nat} {F : Nat → Int} (h : j < n) : rd (tab n F) (j : Int) = F j := by rw [rd_cof, tab_cof h]
def dd (l : List Int) (j : Nat) : Int := D l j j
def stA (l : List Int) (n s j : Nat) : Int := if j < n then (if j < s then dd l j else D l (s - 1) j) else 0
def stB (l : List Int) (n s i j : Nat) : Int := if j < n then (if j < s then dd l j else if i < j then D l s j else D l (s - 1) j) else 0
def newton (l : List Int) : List Int := fin (dd l) l.length (List.replicate l.length 0) l.length
section
variable {l : List Int} (hl : allOk l = true) (hn : l.length ≤ 9)
include hl hn
theorem th_l4 {d out : List Int} {R : List Int} (hd : ∀ j, okF (cof d j) = true) (hdl : d.length = 9) (hol : out.length = l.length) (ho : allOk out = true) {i : Nat} (hi : i < l.length)
    (hR : Ev (fun k => throughK.l3 k l d (finS (cof d) l.length out i) ((i : Int) - 1)) R) : ∀ kk : Nat, kk ≤ l.length → Ev (fun k => throughK.l4 k l d (tab l.length (fun j => if kk ≤ j then fin0 out i j else cof out j)) (i : Int) ((kk : Int) - 1)) R
  | 0, _ => by
    obtain ⟨K, h⟩ := hR
    refine ⟨K + 1, fun k hk => ?_⟩
    obtain ⟨k, rfl⟩ : ∃ m, k = m + 1 := ⟨k - 1, by omega⟩
    simp only [throughK.l4]
    rw [if_neg (by omega), tab_length, if_pos (by omega), if_pos (by omega), if_pos (by omega), show (0 : Int) = ((0 : Nat) : Int) from rfl, rd_tab (by omega), rd_cof]
    simp only [Nat.zero_le, if_true]
    rw [plus_ok (fin0_ok ho _ _) (hd i)]
    simp only [Option.bind_some]
    rw [Int.toNat_natCast, tab_set, w64 (by omega)]
    exact h k (by omega)
  | kk + 1, hkk => by
    obtain ⟨K, h⟩ := th_l4 hd hdl hol ho hi hR kk (by omega)
    refine ⟨K + 1, fun k hk => ?_⟩
    obtain ⟨k, rfl⟩ : ∃ m, k = m + 1 := ⟨k - 1, by omega⟩
    have e : ((kk + 1 : Nat) : Int) - 1 = (kk : Int) := by omega
    rw [e]
    simp only [throughK.l4]
    rw [if_pos (by omega), if_pos (by omega), tab_length, if_pos (by omega), w64 (n := -(i : Int)) (by omega), elementOf_eq]
    simp only [Option.bind_some]
    rw [rd_tab (by omega)]
    rw [if_neg (show ¬ kk + 1 ≤ kk by omega), times_ok (okF_iff.2 (cof_rng ho kk)) (okF_mod _)]
    simp only [Option.bind_some]
    have hset : ∀ v, v = fin0 out i kk → (tab l.length (fun j => if kk + 1 ≤ j then fin0 out i j else cof out j)).set kk v = tab l.length (fun j => if kk ≤ j then fin0 out i j else cof out j) := by
      intro v hv
      rw [tab_set]
      refine tab_congr fun j _ => ?_
      by_cases hj : j = kk
      · subst hj; rw [if_pos rfl, if_pos (Nat.le_refl _), hv]
      · rw [if_neg hj]
        by_cases hj2 : kk + 1 ≤ j
        · rw [if_pos hj2, if_pos (by omega)]
        · rw [if_neg hj2, if_neg (by omega)]
    by_cases h0 : kk = 0
    · subst h0
      rw [if_neg (by omega), Int.toNat_natCast, hset _ (by rw [fin0, if_neg (by omega)]), w64 (by omega)]
      exact h k (by omega)
    · have e2 : (kk : Int) - 1 = ((kk - 1 : Nat) : Int) := by omega
      rw [if_pos (by omega), w64 (by omega), if_pos (by omega), if_pos (by omega), e2, rd_tab (by omega), if_neg (show ¬ kk + 1 ≤ kk - 1 by omega), plus_ok (okF_mod _) (okF_iff.2 (cof_rng ho _))]
      simp only [Option.bind_some]
      rw [Int.toNat_natCast, hset _ (by rw [fin0, if_pos (by omega)]), ← e2]
      exact h k (by omega)
theorem th_l3 {d : List Int} (hd : ∀ j, okF (cof d j) = true) (hdl : d.length = 9) : ∀ (m : Nat) (out : List Int), m ≤ l.length → out.length = l.length → allOk out = true →
    Ev (fun k => throughK.l3 k l d out ((m : Int) - 1)) (fin (cof d) l.length out m)
  | 0, out, _, _, _ => by
    refine ⟨1, fun k hk => ?_⟩
    obtain ⟨k, rfl⟩ : ∃ m, k = m + 1 := ⟨k - 1, by omega⟩
    simp only [throughK.l3]
    rw [if_neg (by omega)]; rfl
  | m + 1, out, hm, hol, ho => by
    have h3 := th_l3 hd hdl m (finS (cof d) l.length out m) (by omega) (finS_length _ _ _ _) (finS_ok _ _ ho _)
    obtain ⟨K, h⟩ := th_l4 hl hn hd hdl hol ho (i := m) (by omega) h3 l.length (Nat.le_refl _)
    have e1 : tab l.length (fun j => if l.length ≤ j then fin0 out m j else cof out j) = out := by
      have : tab l.length (fun j => if l.length ≤ j then fin0 out m j else cof out j) = tab l.length (cof out) := tab_congr fun j hj => by rw [if_neg (by omega)]
      rw [this, ← hol, tab_of]
    dsimp only at h
    rw [e1] at h
    refine ⟨K + 1, fun k hk => ?_⟩
    obtain ⟨k, rfl⟩ : ∃ m, k = m + 1 := ⟨k - 1, by omega⟩
    have e : ((m + 1 : Nat) : Int) - 1 = (m : Int) := by omega
    dsimp only
    rw [e, throughK.l3, if_pos (by omega), w64 (by omega)]
    exact h k (by omega)
theorem th_l2 {R : List Int} {s : Nat} (hs : 1 ≤ s) (hsn : s < l.length) (hR : Ev (fun k => throughK.l1 k l (tab 9 (stA l l.length (s + 1))) ((s : Int) + 1)) R) : ∀ (t i : Nat), i + 1 = s + t → i < l.length →
    Ev (fun k => throughK.l2 k l (tab 9 (stB l l.length s i)) (s : Int) (i : Int)) R
  | 0, i, hi, hil => by
    obtain ⟨K, h⟩ := hR
    refine ⟨K + 1, fun k hk => ?_⟩
    obtain ⟨k, rfl⟩ : ∃ m, k = m + 1 := ⟨k - 1, by omega⟩
    simp only [throughK.l2]
    rw [if_neg (by omega), w64 (by omega)]
    have e : tab 9 (stB l l.length s i) = tab 9 (stA l l.length (s + 1)) := tab_congr fun j _ => by
      unfold stB stA
      by_cases h1 : j < l.length
      · rw [if_pos h1, if_pos h1]
        by_cases h2 : j < s
        · rw [if_pos h2, if_pos (by omega)]
        · rw [if_neg h2, if_pos (by omega)]
          by_cases h3 : j < s + 1
          · rw [if_pos h3, show j = s by omega]; rfl
          · rw [if_neg h3]; rfl
      · rw [if_neg h1, if_neg h1]
    rw [e]
    exact h k (by omega)
  | t + 1, i, hi, hil => by
    obtain ⟨K, h⟩ := th_l2 hs hsn hR t (i - 1) (by omega) (by omega)
    refine ⟨K + 41, fun k hk => ?_⟩
    obtain ⟨k, rfl⟩ : ∃ m, k = m + 1 := ⟨k - 1, by omega⟩
    have e : (i : Int) - 1 = ((i - 1 : Nat) : Int) := by omega
    simp only [throughK.l2]
    rw [if_pos (by omega), if_pos (by omega), tab_length, if_pos (by omega), w64 (n := (i : Int) - 1) (by omega), if_pos (by omega), if_pos (by omega), e, rd_tab (by omega), rd_tab (by omega)]
    have b1 : stB l l.length s i i = D l (s - 1) i := by unfold stB; rw [if_pos hil, if_neg (by omega), if_neg (by omega)]
    have b2 : stB l l.length s i (i - 1) = D l (s - 1) (i - 1) := by
      unfold stB; rw [if_pos (by omega)]
      by_cases h1 : i - 1 < s
      · rw [if_pos h1, show i - 1 = s - 1 by omega]; rfl
      · rw [if_neg h1, if_neg (by omega)]
    rw [b1, b2, minusP (D_ok hl _ _) (D_ok hl _ _)]
    simp only [Option.bind_some]
    rw [inverseP (okF_iff.2 (by omega)) k (by omega)]
    simp only [Option.bind_some]
    rw [times_ok (okF_mod _) (inv_ok (okF_iff.2 (by omega)))]
    simp only [Option.bind_some]
    have e2 : (tab 9 (stB l l.length s i)).set (i : Int).toNat (((D l (s - 1) i - D l (s - 1) (i - 1)) % 31 * inv31 (s : Int)) % 31) = tab 9 (stB l l.length s (i - 1)) := by
      rw [Int.toNat_natCast, tab_set]
      refine tab_congr fun j _ => ?_
      by_cases h1 : j = i
      · subst h1
        rw [if_pos rfl]
        unfold stB
        rw [if_pos hil, if_neg (by omega), if_pos (by omega)]
        obtain ⟨s, rfl⟩ : ∃ m, s = m + 1 := ⟨s - 1, by omega⟩
        rfl
      · rw [if_neg h1]
        unfold stB
        by_cases h2 : j < l.length
        · rw [if_pos h2, if_pos h2]
          by_cases h3 : j < s
          · rw [if_pos h3, if_pos h3]
          · rw [if_neg h3, if_neg h3]
            by_cases h4 : i < j
            · rw [if_pos h4, if_pos (by omega)]
            · rw [if_neg h4, if_neg (by omega)]
        · rw [if_neg h2, if_neg h2]
    rw [e2]
    exact h k (by omega)
theorem stA_ok (s j : Nat) : okF (stA l l.length s j) = true := by
  unfold stA dd; (repeat' split) <;> first | exact D_ok hl _ _ | rfl
theorem th_l1 : ∀ (t s : Nat), 1 ≤ s → s + t = (if l.length = 0 then 1 else l.length) → Ev (fun k => throughK.l1 k l (tab 9 (stA l l.length s)) (s : Int)) (newton l)
  | 0, s, hs, hst => by
    have hd : ∀ j, okF (cof (tab 9 (stA l l.length s)) j) = true := fun j => by
      by_cases hj : j < 9
      · rw [tab_cof hj]; exact stA_ok hl hn s j
      · rw [cof_out (by rw [tab_length]; omega)]; rfl
    have hz : allOk (List.replicate l.length (0 : Int)) = true := allOk_iff.2 fun x hx => by rw [(List.mem_replicate.1 hx).2]; rfl
    obtain ⟨K, h⟩ := th_l3 hl hn hd (tab_length _ _) l.length (List.replicate l.length 0) (Nat.le_refl _) (by simp) hz
    have e : ∀ (m : Nat) (out : List Int), m ≤ l.length → fin (cof (tab 9 (stA l l.length s))) l.length out m = fin (dd l) l.length out m := by
      intro m
      induction m with
      | zero => intro _ _; rfl
      | succ m ih =>
        intro out hm
        rw [fin, fin]
        have : finS (cof (tab 9 (stA l l.length s))) l.length out m = finS (dd l) l.length out m := by
          unfold finS
          refine tab_congr fun j _ => ?_
          have : cof (tab 9 (stA l l.length s)) m = dd l m := by
            rw [tab_cof (by omega)]; unfold stA; rw [if_pos (by omega)]
            have : l.length ≠ 0 := by omega
            rw [if_neg this] at hst
            rw [if_pos (by omega)]
          rw [this]
        rw [this]; exact ih _ (by omega)
    refine ⟨K + 1, fun k hk => ?_⟩
    obtain ⟨k, rfl⟩ : ∃ m, k = m + 1 := ⟨k - 1, by omega⟩
    dsimp only
    rw [throughK.l1]
    have hge : ¬ (s : Int) < (l.length : Int) := by split at hst <;> omega
    rw [if_neg hge, if_pos (by omega), Int.toNat_natCast, if_pos (by omega), w64 (by omega)]
    refine (h k (by omega)).trans ?_
    rw [e _ _ (Nat.le_refl _)]; rfl
  | t + 1, s, hs, hst => by
    have hn0 : l.length ≠ 0 := by intro h0; rw [if_pos h0] at hst; omega
    rw [if_neg hn0] at hst
    have h1 := th_l1 t (s + 1) (by omega) (by rw [if_neg hn0]; omega)
    obtain ⟨K, h⟩ := th_l2 hl hn hs (by omega) h1 (l.length - s) (l.length - 1) (by omega) (by omega)
    have e : tab 9 (stB l l.length s (l.length - 1)) = tab 9 (stA l l.length s) := tab_congr fun j _ => by
      unfold stB stA
      by_cases h1 : j < l.length
      · rw [if_pos h1, if_pos h1]
        by_cases h2 : j < s
        · rw [if_pos h2, if_pos h2]
        · rw [if_neg h2, if_neg h2, if_neg (by omega)]
      · rw [if_neg h1, if_neg h1]
    dsimp only at h
    rw [e] at h
    refine ⟨K + 1, fun k hk => ?_⟩
    obtain ⟨k, rfl⟩ : ∃ m, k = m + 1 := ⟨k - 1, by omega⟩
    dsimp only
    rw [throughK.l1, if_pos (by omega), w64 (by omega), show (l.length : Int) - 1 = ((l.length - 1 : Nat) : Int) by omega]
    exact h k (by omega)
theorem th_l0 : ∀ (t i : Nat), i + t = l.length → Ev (fun k => throughK.l0 k l (tab 9 (fun j => if j < i then cof l j else 0)) l (l.length : Int) (i : Int)) (newton l)
  | 0, i, hi => by
    obtain ⟨K, h⟩ := th_l1 hl hn ((if l.length = 0 then 1 else l.length) - 1) 1 (Nat.le_refl _) (by split <;> omega)
    have e : tab 9 (fun j => if j < i then cof l j else 0) = tab 9 (stA l l.length 1) := tab_congr fun j _ => by
      unfold stA dd
      by_cases h1 : j < l.length
      · rw [if_pos (by omega), if_pos h1]
        by_cases h2 : j < 1
        · rw [if_pos h2, show j = 0 by omega]; rfl
        · rw [if_neg h2]; rfl
      · rw [if_neg (by omega), if_neg h1]
    refine ⟨K + 1, fun k hk => ?_⟩
    obtain ⟨k, rfl⟩ : ∃ m, k = m + 1 := ⟨k - 1, by omega⟩
    dsimp only
    rw [throughK.l0, if_neg (by omega), e]
    exact h k (by omega)
  | t + 1, i, hi => by
    obtain ⟨K, h⟩ := th_l0 t (i + 1) (by omega)
    refine ⟨K + 1, fun k hk => ?_⟩
    obtain ⟨k, rfl⟩ : ∃ m, k = m + 1 := ⟨k - 1, by omega⟩
    dsimp only
    rw [throughK.l0, if_pos (by omega), if_pos (by omega), if_pos (by omega), tab_length, if_pos (by omega), rd_cof, Int.toNat_natCast, tab_set, w64 (by omega)]
    have e : tab 9 (fun j => if j = i then cof l i else if j < i then cof l j else 0) = tab 9 (fun j => if j < i + 1 then cof l j else 0) := tab_congr fun j _ => by
      by_cases h1 : j = i
      · subst h1; rw [if_pos rfl, if_pos (by omega)]
      · rw [if_neg h1]
        by_cases h2 : j < i
        · rw [if_pos h2, if_pos (by omega)]
        · rw [if_neg h2, if_neg (by omega)]
    rw [e]
    exact h k (by omega)
theorem through_ev : impl_through.f l = some (newton l) := by
  obtain ⟨K, h⟩ := th_l0 hl hn l.length 0 (by omega)
  have e : tab 9 (fun j => if j < 0 then cof l j else 0) = List.replicate 9 0 := by rw [← tab_zero]; exact tab_congr fun j _ => by simp
  dsimp only at h
  rw [e] at h
  refine impl_through.of (k := K) ?_
  unfold throughK.f
  rw [if_pos (by omega)]
  exact h K (Nat.le_refl _)
theorem newton_spec : (newton l).length = l.length ∧ allOk (newton l) = true ∧ ∀ i : Nat, i < l.length → ev (newton l) (i : Int) % 31 = cof l i := by
  have hz : allOk (List.replicate l.length (0 : Int)) = true := allOk_iff.2 fun x hx => by rw [(List.mem_replicate.1 hx).2]; rfl
  have hc : ∀ j, cof (List.replicate l.length (0 : Int)) j = 0 := fun j => by
    by_cases hj : j < l.length
    · rw [cof_in (by simpa using hj)]; simp
    · exact cof_out (by simp; omega)
  have hs := fun x => fin_spec (dd l) l.length x l.length (List.replicate l.length 0) (Nat.le_refl _) (by simp) hz (fun j _ => hc j)
  refine ⟨(hs 0).1, (hs 0).2.1, fun i hi => ?_⟩
  rw [newton, (hs (i : Int)).2.2, ev_zero hc, Int.mul_zero, Int.add_zero]
  have h1 := newton_value l i l.length 0 hi (by omega)
  have e : (fun s => D l s (0 + s)) = dd l := by funext s; rw [Nat.zero_add]; rfl
  rw [e, Nat.zero_add] at h1
  rw [h1]
  have := cof_rng hl i
  show cof l i % 31 = cof l i
  omega
end
end Go.Proofs.Ytcdnmnipaaooiaa.P
end

section
namespace Go.Proofs.Ytcdnmnipaaooiaa.P
open Go.RowKit Go.Proofs.Ytcdnmnipaaooiaa.Num Go.Proofs.YtcdnmnipaaooiaaW.PrintWords
set_option linter.unusedSimpArgs false
set_option linter.unusedVariables false
set_option linter.unusedSectionVars false
def lfac (i j : Nat) : List Int := [((((0 : Int) - (j : Int)) % 31) * inv31 (((i : Int) - (j : Int)) % 31)) % 31, inv31 (((i : Int) - (j : Int)) % 31)]
theorem lfac_ok (i j : Nat) : allOk (lfac i j) = true := by
  rw [allOk_iff]; intro x hx
  simp only [lfac, List.mem_cons, List.not_mem_nil, or_false] at hx
  rcases hx with rfl | rfl
  · exact okF_mod _
  · exact inv_ok (okF_mod _)
theorem lfac_ev (i j : Nat) (x : Int) : ev (lfac i j) x % 31 = ((x - (j : Int)) * inv31 (((i : Int) - (j : Int)) % 31)) % 31 := by
  unfold lfac
  generalize inv31 (((i : Int) - (j : Int)) % 31) = v
  have h1 : (((0 : Int) - (j : Int)) % 31 * v) % 31 = (-(j : Int) * v) % 31 := by
    rw [Int.mul_emod, Int.emod_emod_of_dvd _ (Int.dvd_refl 31), ← Int.mul_emod, Int.zero_sub]
  simp only [ev, Int.mul_zero, Int.add_zero]
  rw [h1]
  have h2 : (x - (j : Int)) * v = -(j : Int) * v + x * v := by grind
  rw [h2]
  generalize -(j : Int) * v = a
  generalize x * v = b
  omega
def lp (i : Nat) : Nat → List Int
  | 0 => [1]
  | j + 1 => if j = i then lp i j else prod (lp i j) (lfac i j)
theorem lp_ok (i : Nat) : ∀ j, allOk (lp i j) = true
  | 0 => rfl
  | j + 1 => by rw [lp]; split; exact lp_ok i j; exact prod_ok _ _
theorem lp_length (i : Nat) : ∀ j, (lp i j).length = if i < j then j else j + 1
  | 0 => by simp [lp]
  | j + 1 => by
    have h := lp_length i j
    rw [lp]
    by_cases e : j = i
    · rw [if_pos e, h, if_neg (by omega), if_pos (by omega)]
    · rw [if_neg e, prod_length, h]
      have : (lfac i j).length = 2 := rfl
      rw [this]
      by_cases h2 : i < j
      · rw [if_pos h2, if_neg (by omega), if_pos (by omega)]; omega
      · rw [if_neg h2, if_neg (by omega), if_neg (by omega)]; omega
theorem lp_one {i : Nat} (hi : i ≤ 30) : ∀ j, j ≤ 31 → ev (lp i j) (i : Int) % 31 = 1
  | 0, _ => by simp [lp, ev]
  | j + 1, hj => by
    have h := lp_one hi j (by omega)
    rw [lp]
    by_cases e : j = i
    · rw [if_pos e, h]
    · rw [if_neg e, prod_ev]
      have h1 : (((i : Int) - (j : Int)) * inv31 (((i : Int) - (j : Int)) % 31)) % 31 = 1 := by
        have := inv_one (a := ((i : Int) - (j : Int)) % 31) (okF_mod _) (by omega)
        rw [Int.mul_emod, Int.emod_emod_of_dvd _ (Int.dvd_refl 31), ← Int.mul_emod] at this
        exact this
      have h2 := lfac_ev i j (i : Int)
      rw [h1] at h2
      rw [Int.mul_emod, h, h2]; rfl
theorem lp_none {i : Nat} : ∀ (j m : Nat), m < j → m ≠ i → ev (lp i j) (m : Int) % 31 = 0
  | 0, m, h, _ => absurd h (by omega)
  | j + 1, m, h, hm => by
    rw [lp]
    by_cases e : j = i
    · rw [if_pos e]; exact lp_none j m (by omega) hm
    · rw [if_neg e, prod_ev]
      by_cases hmj : m = j
      · subst hmj
        have h2 := lfac_ev i m (m : Int)
        rw [Int.sub_self, Int.zero_mul] at h2
        rw [Int.mul_emod, h2]; simp
      · rw [Int.mul_emod, lp_none j m (by omega) hm]; simp
def lagS (l out : List Int) (i : Nat) : List Int := tab l.length (fun k => (cof out k + cof l i * cof (lp i l.length) k) % 31)
def lag (l : List Int) : Nat → List Int
  | 0 => List.replicate l.length 0
  | i + 1 => lagS l (lag l i) i
def lagr (l : List Int) : List Int := lag l l.length
theorem lag_length (l : List Int) : ∀ i, (lag l i).length = l.length
  | 0 => by simp [lag]
  | i + 1 => tab_length _ _
theorem lag_ok (l : List Int) : ∀ i, allOk (lag l i) = true
  | 0 => allOk_iff.2 fun x hx => by rw [(List.mem_replicate.1 hx).2]; rfl
  | i + 1 => tab_ok _ _
section
variable {l : List Int} (hl : allOk l = true) (hn : l.length ≤ 9)
include hl hn
theorem lag_ev : ∀ (i m : Nat), i ≤ l.length → m < l.length → ev (lag l i) (m : Int) % 31 = if m < i then cof l m else 0
  | 0, m, _, hm => by
    rw [if_neg (by omega), lag, ev_zero]; rfl
    intro j
    by_cases hj : j < l.length
    · rw [cof_in (by simpa using hj)]; simp
    · exact cof_out (by simp; omega)
  | i + 1, m, hi, hm => by
    have hlp : (lp i l.length).length = l.length := by rw [lp_length, if_pos (by omega)]
    have h1 : ev (lag l (i + 1)) (m : Int) % 31 = ev (tab l.length (fun k => cof (lag l i) k + cof l i * cof (lp i l.length) k)) (m : Int) % 31 := by
      refine ev_mod (by rw [lag_length, tab_length]) (fun j => ?_) _
      by_cases hj : j < l.length
      · rw [lag, lagS, tab_cof hj, tab_cof hj, Int.emod_emod_of_dvd _ (Int.dvd_refl 31)]
      · rw [cof_out (by rw [lag_length]; omega), cof_out (by rw [tab_length]; omega)]
    have h2 : tab l.length (cof (lag l i)) = lag l i := by have := tab_of (lag l i); rw [lag_length] at this; exact this
    have h3 : tab l.length (cof (lp i l.length)) = lp i l.length := by have := tab_of (lp i l.length); rw [hlp] at this; exact this
    rw [h1, ev_tab_add, ev_tab_mul, h2, h3]
    have h4 := lag_ev i m (by omega) hm
    have hr := cof_rng hl i
    by_cases e : m = i
    · subst e
      have h5 := lp_one (i := m) (by omega) l.length (by omega)
      rw [if_neg (by omega)] at h4
      rw [if_pos (by omega), Int.add_emod, h4, Int.mul_emod, h5]
      simp; omega
    · have h5 := lp_none (i := i) l.length m hm e
      have h6 : (cof l i * ev (lp i l.length) (m : Int)) % 31 = 0 := by rw [Int.mul_emod, h5]; simp
      rw [Int.add_emod, h4, h6]
      have hr2 := cof_rng hl m
      by_cases h7 : m < i
      · rw [if_pos h7, if_pos (by omega)]; omega
      · rw [if_neg h7, if_neg (by omega)]; rfl
theorem lagr_spec : (lagr l).length = l.length ∧ allOk (lagr l) = true ∧ ∀ i : Nat, i < l.length → ev (lagr l) (i : Int) % 31 = cof l i := by
  refine ⟨lag_length _ _, lag_ok _ _, fun i hi => ?_⟩
  rw [lagr, lag_ev hl hn _ i (Nat.le_refl _) hi, if_pos hi]
theorem la_l2 {R : List Int} {i : Nat} (hi : i < l.length) {out : List Int} (hol : out.length = l.length) (ho : allOk out = true) (hR : Ev (fun k => spec_l2Through.l0 k l (lagS l out i) ((i : Int) + 1)) R) : ∀ (t q : Nat), q + t = l.length →
    Ev (fun k => spec_l2Through.l2 k l (tab l.length (fun j => if j < q then (cof out j + cof l i * cof (lp i l.length) j) % 31 else cof out j)) (i : Int) (lp i l.length) (q : Int)) R
  | 0, q, hq => by
    obtain ⟨K, h⟩ := hR
    have hlp : (lp i l.length).length = l.length := by rw [lp_length, if_pos (by omega)]
    refine ⟨K + 1, fun k hk => ?_⟩
    obtain ⟨k, rfl⟩ : ∃ m, k = m + 1 := ⟨k - 1, by omega⟩
    dsimp only
    rw [spec_l2Through.l2, if_neg (by omega), w64 (by omega)]
    have e : tab l.length (fun j => if j < q then (cof out j + cof l i * cof (lp i l.length) j) % 31 else cof out j) = lagS l out i := tab_congr fun j hj => by rw [if_pos (by omega)]
    rw [e]
    exact h k (by omega)
  | t + 1, q, hq => by
    obtain ⟨K, h⟩ := la_l2 hi hol ho hR t (q + 1) (by omega)
    have hlp : (lp i l.length).length = l.length := by rw [lp_length, if_pos (by omega)]
    refine ⟨K + 1, fun k hk => ?_⟩
    obtain ⟨k, rfl⟩ : ∃ m, k = m + 1 := ⟨k - 1, by omega⟩
    have r1 := cof_rng ho q
    have r2 := cof_rng hl i
    have r3 := cof_rng (lp_ok i l.length) q
    have r4 := mul_rng r2 r3
    dsimp only
    rw [spec_l2Through.l2, if_pos (by omega), if_pos (by omega), tab_length, if_pos (by omega), if_pos (by omega), if_pos (by omega), rd_cof, tab_cof (by omega), rd_cof, rd_cof, if_neg (by omega), w64 (n := cof l i * _) (by omega), w64 (n := cof out q + _) (by omega), tmod_pos (by omega), Int.toNat_natCast, tab_set, w64 (by omega)]
    have e : tab l.length (fun j => if j = q then (cof out q + cof l i * cof (lp i l.length) q) % 31 else if j < q then (cof out j + cof l i * cof (lp i l.length) j) % 31 else cof out j) = tab l.length (fun j => if j < q + 1 then (cof out j + cof l i * cof (lp i l.length) j) % 31 else cof out j) := tab_congr fun j _ => by
      by_cases h1 : j = q
      · subst h1; rw [if_pos rfl, if_pos (by omega)]
      · rw [if_neg h1]
        by_cases h2 : j < q
        · rw [if_pos h2, if_pos (by omega)]
        · rw [if_neg h2, if_neg (by omega)]
    rw [e]
    exact h k (by omega)
theorem la_l1 {R : List Int} {i : Nat} (hi : i < l.length) {out : List Int} (hol : out.length = l.length) (ho : allOk out = true) (hR : Ev (fun k => spec_l2Through.l0 k l (lagS l out i) ((i : Int) + 1)) R) : ∀ (t j : Nat), j + t = l.length →
    Ev (fun k => spec_l2Through.l1 k l out (i : Int) (lp i j) (j : Int)) R
  | 0, j, hj => by
    obtain ⟨K, h⟩ := la_l2 hl hn hi hol ho hR l.length 0 (by omega)
    have e : tab l.length (fun j => if j < 0 then (cof out j + cof l i * cof (lp i l.length) j) % 31 else cof out j) = out := by
      have : tab l.length (fun j => if j < 0 then (cof out j + cof l i * cof (lp i l.length) j) % 31 else cof out j) = tab l.length (cof out) := tab_congr fun j _ => by rw [if_neg (by omega)]
      rw [this, ← hol, tab_of]
    dsimp only at h
    rw [e] at h
    refine ⟨K + 1, fun k hk => ?_⟩
    obtain ⟨k, rfl⟩ : ∃ m, k = m + 1 := ⟨k - 1, by omega⟩
    dsimp only
    rw [spec_l2Through.l1, if_neg (by omega), show j = l.length by omega]
    exact h k (by omega)
  | t + 1, j, hj => by
    obtain ⟨K, h⟩ := la_l1 hi hol ho hR t (j + 1) (by omega)
    dsimp only at h
    by_cases e : j = i
    · rw [lp, if_pos e] at h
      refine ⟨K + 1, fun k hk => ?_⟩
      obtain ⟨k, rfl⟩ : ∃ m, k = m + 1 := ⟨k - 1, by omega⟩
      dsimp only
      rw [spec_l2Through.l1, if_pos (by omega), if_pos (by omega), w64 (by omega)]
      exact h k (by omega)
    · rw [lp, if_neg e] at h
      have hlpl := lp_length i j
      obtain ⟨K2, h2⟩ := l2Mul_ev (a := lp i j) (b := lfac i j) (lp_ok i j) (lfac_ok i j) (by rw [hlpl]; split <;> omega) (by simp [lfac])
      dsimp only at h2
      refine ⟨K + K2 + 41, fun k hk => ?_⟩
      obtain ⟨k, rfl⟩ : ∃ m, k = m + 1 := ⟨k - 1, by omega⟩
      dsimp only
      rw [spec_l2Through.l1, if_pos (by omega), if_neg (by omega), sFieldDif, fdif_ok (okF_iff.2 (by omega)) (okF_iff.2 (by omega))]
      simp only [Option.bind_some]
      rw [l1Inv_eq (okF_mod _) k (by omega)]
      simp only [Option.bind_some]
      rw [sFieldDif, fdif_ok rfl (okF_iff.2 (by omega))]
      simp only [Option.bind_some]
      rw [sFieldMul, fmul_ok (okF_mod _) (inv_ok (okF_mod _))]
      simp only [Option.bind_some]
      have hm := h2 k (by omega)
      unfold lfac at hm
      rw [hm]
      simp only [Option.bind_some]
      rw [w64 (by omega)]
      have := h k (by omega)
      unfold lfac at this
      exact this
theorem la_l0 : ∀ (t i : Nat), i + t = l.length → Ev (fun k => spec_l2Through.l0 k l (lag l i) (i : Int)) (lagr l)
  | 0, i, hi => by
    refine ⟨1, fun k hk => ?_⟩
    obtain ⟨k, rfl⟩ : ∃ m, k = m + 1 := ⟨k - 1, by omega⟩
    dsimp only
    rw [spec_l2Through.l0, if_neg (by omega), show i = l.length by omega]; rfl
  | t + 1, i, hi => by
    have h0 := la_l0 t (i + 1) (by omega)
    obtain ⟨K, h⟩ := la_l1 hl hn (i := i) (by omega) (lag_length l i) (lag_ok l i) h0 l.length 0 (by omega)
    refine ⟨K + 1, fun k hk => ?_⟩
    obtain ⟨k, rfl⟩ : ∃ m, k = m + 1 := ⟨k - 1, by omega⟩
    dsimp only
    rw [spec_l2Through.l0, if_pos (by omega)]
    exact h k (by omega)
theorem l2Through_ev : Ev (fun k => spec_l2Through.f k l) (lagr l) := by
  obtain ⟨K, h⟩ := la_l0 hl hn l.length 0 (by omega)
  refine ⟨K, fun k hk => ?_⟩
  dsimp only
  unfold spec_l2Through.f
  rw [if_pos (by omega), Int.toNat_natCast, if_pos (by omega)]
  exact h k hk
end
end Go.Proofs.Ytcdnmnipaaooiaa.P
end

section
namespace Go.Proofs.Ytcdnmnipaaooiaa.P
open Go.RowKit Go.Proofs.Ytcdnmnipaaooiaa.Num Go.Proofs.YtcdnmnipaaooiaaW.PrintWords
theorem newton_lagr {l : List Int} (hl : allOk l = true) (hn : l.length ≤ 9) : newton l = lagr l := by
  obtain ⟨a1, a2, a3⟩ := newton_spec hl hn
  obtain ⟨b1, b2, b3⟩ := lagr_spec hl hn
  exact same_of_values (n := l.length) (by omega) a1 b1 a2 b2 fun i hi => by rw [a3 i hi, b3 i hi]
def polyThrough (l : List Int) : List Int := if polyOk l then lagr l else []
theorem polyThrough_length (l : List Int) : (polyThrough l).length ≤ 9 := by
  unfold polyThrough
  split
  · rename_i h
    obtain ⟨h1, h2⟩ := polyOk_iff.1 h
    rw [(lagr_spec h1 h2).1]; exact h2
  · simp
theorem iPolyThrough (l : List Int) : impl_PolyThrough.f l = some (polyThrough l) := by
  unfold impl_PolyThrough.f polyThrough
  rw [iPolyOk]
  cases h : polyOk l
  · rfl
  · obtain ⟨h1, h2⟩ := polyOk_iff.1 h
    simp only [Option.bind_some, if_true]
    rw [through_ev h1 h2, newton_lagr h1 h2]; rfl
theorem sPolyThrough (l : List Int) (hm : l.length < 1099511627776) : Ev (fun k => spec_PolyThrough.f k l) (polyThrough l) := by
  obtain ⟨K, h⟩ := sPolyOk l hm
  dsimp only at h
  unfold polyThrough
  cases hp : polyOk l
  · exact ⟨K, fun k hk => by dsimp only; unfold spec_PolyThrough.f; rw [h k hk, hp]; rfl⟩
  · obtain ⟨h1, h2⟩ := polyOk_iff.1 hp
    obtain ⟨K2, h3⟩ := l2Through_ev h1 h2
    dsimp only at h3
    exact ⟨K + K2, fun k hk => by dsimp only; unfold spec_PolyThrough.f; rw [h k (by omega), hp]; simp only [Option.bind_some, if_true]; rw [h3 k (by omega)]; rfl⟩
end Go.Proofs.Ytcdnmnipaaooiaa.P
end
