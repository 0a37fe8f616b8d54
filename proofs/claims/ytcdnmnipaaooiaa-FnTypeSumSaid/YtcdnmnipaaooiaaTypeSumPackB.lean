import Derived.WalkKit
import Derived.Deep.RegionWith
import Derived.KernelRfl
import Derived.Test.YtcdnmnipaaooiaaKitG
import Derived.Test.YtcdnmnipaaooiaaTypeSumPackA
import Derived.Test.YtcdnmnipaaooiaaKitI
import Derived.SizedLaws
import Derived.ChangeSlices
-- Written by a program of this session (wip/tools/pack.py): texts of this seat laid one behind the other, without what the claim does not reach
section
namespace Go.Proofs.Ytcdnmnipaaooiaa.P
open Go.RowKit Go.Proofs.YtcdnmnipaaooiaaW.PrintWords
set_option linter.unusedVariables false
set_option maxRecDepth 100000
set_option maxHeartbeats 8000000
set_option linter.unusedSimpArgs false
theorem handT_measureOf1 (w : World) : Calls Twin.prog 66 #[.int .i64 1] w fun e w' => e = .returned (.iface 80 (.agg #[])) ∧ w = w' := by
  go_enter Twin.func66, Try.ntmps66
  go_wp2
  go_ret
  exact ⟨rfl, rfl⟩
theorem handT_measureOf2 (w : World) : Calls Twin.prog 66 #[.int .i64 2] w fun e w' => e = .returned (.iface 81 (.agg #[])) ∧ w = w' := by
  go_enter Twin.func66, Try.ntmps66
  go_wp2
  go_ret
  exact ⟨rfl, rfl⟩
theorem handT_measureOf3 (w : World) : Calls Twin.prog 66 #[.int .i64 3] w fun e w' => e = .returned (.iface 82 (.agg #[])) ∧ w = w' := by
  go_enter Twin.func66, Try.ntmps66
  go_wp2
  go_ret
  exact ⟨rfl, rfl⟩
theorem handT_measureOf (k : Int) (w : World) (h1 : (k == 1) = false) (h2 : (k == 2) = false) (h3 : (k == 3) = false) : Calls Twin.prog 66 #[.int .i64 k] w fun e w' => e = .returned .nilIface ∧ w = w' := by
  go_enter Twin.func66, Try.ntmps66
  go_wp2
  go_ret
  exact ⟨rfl, rfl⟩
def inB (b c a : Int) : Bool := decide (b ≤ a ∧ a ≤ c)
theorem handT_within (a b c : Int) (w : World) : Calls Twin.prog 67 #[.int .i64 a, .int .i64 b, .int .i64 c] w fun e w' => e = .returned (.bool (inB b c a)) ∧ w = w' := by
  by_cases h : b ≤ a
  · go_enter Twin.func67, Try.ntmps67
    go_wp2
    go_ret
    exact ⟨by simp [inB, h], rfl⟩
  · go_enter Twin.func67, Try.ntmps67
    go_wp2
    go_ret
    exact ⟨by simp [inB]; omega, rfl⟩
theorem handT_row (W : World) (base : Nat) (xs : List Int) (hb : base ≤ W.heap.size) (hm : xs.length ≤ 20) : Kd.R (Kd.int .i64) 3 (W.alloc (.cells (xs.map (Value.int .i64)).toArray 3)) base (fun _ => True) (.slice (some ⟨W.heap.size, 0, none⟩) xs.length xs.length) xs :=
  Kd.R_of_own (own_lit W base 3 .i64 xs hb (by omega)) (fun _ _ => trivial)
theorem handT_TypeMake0 (k v : Int) (w : World) (h1 : (k == 1) = false) (h2 : (k == 2) = false) (h3 : (k == 3) = false) : Calls Twin.prog 43 #[.int .i64 k, .int .i64 v] w fun e w' => e = .returned (.tuple #[.slice none 0 0, .bool false]) ∧ w = w' := by
  have H1 := Aside0.mk h1
  have H2 := Aside0.mk h2
  have H3 := Aside0.mk h3
  clear h1 h2 h3
  go_enter Twin.func43, Try.ntmps43
  go_wp2_with (go_at_call 66; refine (handT_measureOf _ _ H1.out H2.out H3.out).mono ?_; rintro e w' ⟨rfl, rfl⟩)
  go_ret2
  exact ⟨rfl, rfl⟩
theorem handT_values1 (w : World) : Calls Twin.prog 125 #[.agg #[]] w fun e w' => e = .returned (.int .i64 2) ∧ w' = w.alloc (.cells #[] 80) := by
  go_enter Twin.func125, Try.ntmps125
  go_wp2
  go_ret
  exact ⟨rfl, rfl⟩
theorem handT_TypeMake1_no (v : Int) (w : World) (h : inB 0 1 v = false) : Calls Twin.prog 43 #[.int .i64 1, .int .i64 v] w fun e w' => e = .returned (.tuple #[.slice none 0 0, .bool false]) ∧ Below w.heap.size w w' := by
  have hm : ∀ W : World, (method 221 80 (.agg #[]) "loop.example/scrutineer/impl.values").run Twin.prog W = .ok (125, .agg #[]) W := fun _ => by kernel_rfl
  go_enter Twin.func43, Try.ntmps43
  go_wp2_with (first | (go_at_call 66; refine (handT_measureOf1 _).mono ?_; rintro e w' ⟨rfl, rfl⟩) | (go_at_call 125; refine (handT_values1 _).mono ?_; rintro e w' ⟨rfl, rfl⟩) | (go_at_call 67; refine (handT_within _ _ _ _).mono ?_; rintro e w' ⟨rfl, rfl⟩))
  go_ret2
  exact ⟨rfl, (Below.refl _ _).alloc (Nat.le_refl _) _⟩
theorem handT_encode1_0 (w : World) : Calls Twin.prog 123 #[.agg #[], .int .i64 0] w fun e w' => e = .returned (.slice (some ⟨w.heap.size + 1, 0, none⟩) 1 1) ∧ w' = (w.alloc (.cells #[] 80)).alloc (.cells #[.int .i64 0] 3) := by
  go_enter Twin.func123, Try.ntmps123
  go_wp2
  go_ret
  exact ⟨rfl, rfl⟩
theorem handT_TypeMake1_0 (w : World) : Calls Twin.prog 43 #[.int .i64 1, .int .i64 0] w fun e w' => ∃ v0_ : Value, e = .returned (.tuple #[v0_, .bool true]) ∧ Kd.R (Kd.int .i64) 3 w' w.heap.size (fun _ => True) v0_ [0] ∧ Below w.heap.size w w' := by
  have hm : ∀ W : World, (method 221 80 (.agg #[]) "loop.example/scrutineer/impl.values").run Twin.prog W = .ok (125, .agg #[]) W := fun _ => by kernel_rfl
  have he : ∀ W : World, (method 221 80 (.agg #[]) "loop.example/scrutineer/impl.encode").run Twin.prog W = .ok (123, .agg #[]) W := fun _ => by kernel_rfl
  have h : inB 0 1 0 = true := rfl
  have hrow := Aside0.mk (handT_row ((w.alloc (.cells #[] 80)).alloc (.cells #[] 80)) w.heap.size [0] (by simp; omega) (by simp))
  go_enter Twin.func43, Try.ntmps43
  go_wp2_with (first | (go_at_call 66; refine (handT_measureOf1 _).mono ?_; rintro e w' ⟨rfl, rfl⟩) | (go_at_call 125; refine (handT_values1 _).mono ?_; rintro e w' ⟨rfl, rfl⟩) | (go_at_call 67; refine (handT_within _ _ _ _).mono ?_; rintro e w' ⟨rfl, rfl⟩) | (go_at_call 123; refine (handT_encode1_0 _).mono ?_; rintro e w' ⟨rfl, rfl⟩))
  go_ret2
  exact ⟨_, rfl, by simpa using hrow.out, (((Below.refl _ _).alloc (Nat.le_refl _) _).alloc (by simp) _).alloc (by simp; omega) _⟩
theorem handT_encode1_1 (w : World) : Calls Twin.prog 123 #[.agg #[], .int .i64 1] w fun e w' => e = .returned (.slice (some ⟨w.heap.size + 1, 0, none⟩) 1 1) ∧ w' = (w.alloc (.cells #[] 80)).alloc (.cells #[.int .i64 1] 3) := by
  go_enter Twin.func123, Try.ntmps123
  go_wp2
  go_ret
  exact ⟨rfl, rfl⟩
theorem handT_TypeMake1_1 (w : World) : Calls Twin.prog 43 #[.int .i64 1, .int .i64 1] w fun e w' => ∃ v0_ : Value, e = .returned (.tuple #[v0_, .bool true]) ∧ Kd.R (Kd.int .i64) 3 w' w.heap.size (fun _ => True) v0_ [1] ∧ Below w.heap.size w w' := by
  have hm : ∀ W : World, (method 221 80 (.agg #[]) "loop.example/scrutineer/impl.values").run Twin.prog W = .ok (125, .agg #[]) W := fun _ => by kernel_rfl
  have he : ∀ W : World, (method 221 80 (.agg #[]) "loop.example/scrutineer/impl.encode").run Twin.prog W = .ok (123, .agg #[]) W := fun _ => by kernel_rfl
  have h : inB 0 1 1 = true := rfl
  have hrow := Aside0.mk (handT_row ((w.alloc (.cells #[] 80)).alloc (.cells #[] 80)) w.heap.size [1] (by simp; omega) (by simp))
  go_enter Twin.func43, Try.ntmps43
  go_wp2_with (first | (go_at_call 66; refine (handT_measureOf1 _).mono ?_; rintro e w' ⟨rfl, rfl⟩) | (go_at_call 125; refine (handT_values1 _).mono ?_; rintro e w' ⟨rfl, rfl⟩) | (go_at_call 67; refine (handT_within _ _ _ _).mono ?_; rintro e w' ⟨rfl, rfl⟩) | (go_at_call 123; refine (handT_encode1_1 _).mono ?_; rintro e w' ⟨rfl, rfl⟩))
  go_ret2
  exact ⟨_, rfl, by simpa using hrow.out, (((Below.refl _ _).alloc (Nat.le_refl _) _).alloc (by simp) _).alloc (by simp; omega) _⟩
theorem handT_values2 (w : World) : Calls Twin.prog 128 #[.agg #[]] w fun e w' => e = .returned (.int .i64 4) ∧ w' = w.alloc (.cells #[] 81) := by
  go_enter Twin.func128, Try.ntmps128
  go_wp2
  go_ret
  exact ⟨rfl, rfl⟩
theorem handT_TypeMake2_no (v : Int) (w : World) (h : inB 0 3 v = false) : Calls Twin.prog 43 #[.int .i64 2, .int .i64 v] w fun e w' => e = .returned (.tuple #[.slice none 0 0, .bool false]) ∧ Below w.heap.size w w' := by
  have hm : ∀ W : World, (method 221 81 (.agg #[]) "loop.example/scrutineer/impl.values").run Twin.prog W = .ok (128, .agg #[]) W := fun _ => by kernel_rfl
  go_enter Twin.func43, Try.ntmps43
  go_wp2_with (first | (go_at_call 66; refine (handT_measureOf2 _).mono ?_; rintro e w' ⟨rfl, rfl⟩) | (go_at_call 128; refine (handT_values2 _).mono ?_; rintro e w' ⟨rfl, rfl⟩) | (go_at_call 67; refine (handT_within _ _ _ _).mono ?_; rintro e w' ⟨rfl, rfl⟩))
  go_ret2
  exact ⟨rfl, (Below.refl _ _).alloc (Nat.le_refl _) _⟩
theorem handT_encode2_0 (w : World) : Calls Twin.prog 126 #[.agg #[], .int .i64 0] w fun e w' => e = .returned (.slice (some ⟨w.heap.size + 1, 0, none⟩) 4 4) ∧ w' = (w.alloc (.cells #[] 81)).alloc (.cells #[.int .i64 1, .int .i64 0, .int .i64 0, .int .i64 0] 3) := by
  have hmk : ∀ W : World, (Instr.makeSlice 23 (.int .i64 4) (.int .i64 4)).run Twin.prog W = .ok (.slice (some ⟨W.heap.size, 0, none⟩) 4 4) (W.alloc (.cells #[.int .i64 0, .int .i64 0, .int .i64 0, .int .i64 0] 3)) := fun _ => by kernel_rfl
  go_enter Twin.func126, Try.ntmps126
  go_wp2
  go_ret
  exact ⟨rfl, rfl⟩
theorem handT_TypeMake2_0 (w : World) : Calls Twin.prog 43 #[.int .i64 2, .int .i64 0] w fun e w' => ∃ v0_ : Value, e = .returned (.tuple #[v0_, .bool true]) ∧ Kd.R (Kd.int .i64) 3 w' w.heap.size (fun _ => True) v0_ [1, 0, 0, 0] ∧ Below w.heap.size w w' := by
  have hm : ∀ W : World, (method 221 81 (.agg #[]) "loop.example/scrutineer/impl.values").run Twin.prog W = .ok (128, .agg #[]) W := fun _ => by kernel_rfl
  have he : ∀ W : World, (method 221 81 (.agg #[]) "loop.example/scrutineer/impl.encode").run Twin.prog W = .ok (126, .agg #[]) W := fun _ => by kernel_rfl
  have h : inB 0 3 0 = true := rfl
  have hrow := Aside0.mk (handT_row ((w.alloc (.cells #[] 81)).alloc (.cells #[] 81)) w.heap.size [1, 0, 0, 0] (by simp; omega) (by simp))
  go_enter Twin.func43, Try.ntmps43
  go_wp2_with (first | (go_at_call 66; refine (handT_measureOf2 _).mono ?_; rintro e w' ⟨rfl, rfl⟩) | (go_at_call 128; refine (handT_values2 _).mono ?_; rintro e w' ⟨rfl, rfl⟩) | (go_at_call 67; refine (handT_within _ _ _ _).mono ?_; rintro e w' ⟨rfl, rfl⟩) | (go_at_call 126; refine (handT_encode2_0 _).mono ?_; rintro e w' ⟨rfl, rfl⟩))
  go_ret2
  exact ⟨_, rfl, by simpa using hrow.out, (((Below.refl _ _).alloc (Nat.le_refl _) _).alloc (by simp) _).alloc (by simp; omega) _⟩
theorem handT_encode2_1 (w : World) : Calls Twin.prog 126 #[.agg #[], .int .i64 1] w fun e w' => e = .returned (.slice (some ⟨w.heap.size + 1, 0, none⟩) 4 4) ∧ w' = (w.alloc (.cells #[] 81)).alloc (.cells #[.int .i64 0, .int .i64 1, .int .i64 0, .int .i64 0] 3) := by
  have hmk : ∀ W : World, (Instr.makeSlice 23 (.int .i64 4) (.int .i64 4)).run Twin.prog W = .ok (.slice (some ⟨W.heap.size, 0, none⟩) 4 4) (W.alloc (.cells #[.int .i64 0, .int .i64 0, .int .i64 0, .int .i64 0] 3)) := fun _ => by kernel_rfl
  go_enter Twin.func126, Try.ntmps126
  go_wp2
  go_ret
  exact ⟨rfl, rfl⟩
theorem handT_TypeMake2_1 (w : World) : Calls Twin.prog 43 #[.int .i64 2, .int .i64 1] w fun e w' => ∃ v0_ : Value, e = .returned (.tuple #[v0_, .bool true]) ∧ Kd.R (Kd.int .i64) 3 w' w.heap.size (fun _ => True) v0_ [0, 1, 0, 0] ∧ Below w.heap.size w w' := by
  have hm : ∀ W : World, (method 221 81 (.agg #[]) "loop.example/scrutineer/impl.values").run Twin.prog W = .ok (128, .agg #[]) W := fun _ => by kernel_rfl
  have he : ∀ W : World, (method 221 81 (.agg #[]) "loop.example/scrutineer/impl.encode").run Twin.prog W = .ok (126, .agg #[]) W := fun _ => by kernel_rfl
  have h : inB 0 3 1 = true := rfl
  have hrow := Aside0.mk (handT_row ((w.alloc (.cells #[] 81)).alloc (.cells #[] 81)) w.heap.size [0, 1, 0, 0] (by simp; omega) (by simp))
  go_enter Twin.func43, Try.ntmps43
  go_wp2_with (first | (go_at_call 66; refine (handT_measureOf2 _).mono ?_; rintro e w' ⟨rfl, rfl⟩) | (go_at_call 128; refine (handT_values2 _).mono ?_; rintro e w' ⟨rfl, rfl⟩) | (go_at_call 67; refine (handT_within _ _ _ _).mono ?_; rintro e w' ⟨rfl, rfl⟩) | (go_at_call 126; refine (handT_encode2_1 _).mono ?_; rintro e w' ⟨rfl, rfl⟩))
  go_ret2
  exact ⟨_, rfl, by simpa using hrow.out, (((Below.refl _ _).alloc (Nat.le_refl _) _).alloc (by simp) _).alloc (by simp; omega) _⟩
theorem handT_encode2_2 (w : World) : Calls Twin.prog 126 #[.agg #[], .int .i64 2] w fun e w' => e = .returned (.slice (some ⟨w.heap.size + 1, 0, none⟩) 4 4) ∧ w' = (w.alloc (.cells #[] 81)).alloc (.cells #[.int .i64 0, .int .i64 0, .int .i64 1, .int .i64 0] 3) := by
  have hmk : ∀ W : World, (Instr.makeSlice 23 (.int .i64 4) (.int .i64 4)).run Twin.prog W = .ok (.slice (some ⟨W.heap.size, 0, none⟩) 4 4) (W.alloc (.cells #[.int .i64 0, .int .i64 0, .int .i64 0, .int .i64 0] 3)) := fun _ => by kernel_rfl
  go_enter Twin.func126, Try.ntmps126
  go_wp2
  go_ret
  exact ⟨rfl, rfl⟩
theorem handT_TypeMake2_2 (w : World) : Calls Twin.prog 43 #[.int .i64 2, .int .i64 2] w fun e w' => ∃ v0_ : Value, e = .returned (.tuple #[v0_, .bool true]) ∧ Kd.R (Kd.int .i64) 3 w' w.heap.size (fun _ => True) v0_ [0, 0, 1, 0] ∧ Below w.heap.size w w' := by
  have hm : ∀ W : World, (method 221 81 (.agg #[]) "loop.example/scrutineer/impl.values").run Twin.prog W = .ok (128, .agg #[]) W := fun _ => by kernel_rfl
  have he : ∀ W : World, (method 221 81 (.agg #[]) "loop.example/scrutineer/impl.encode").run Twin.prog W = .ok (126, .agg #[]) W := fun _ => by kernel_rfl
  have h : inB 0 3 2 = true := rfl
  have hrow := Aside0.mk (handT_row ((w.alloc (.cells #[] 81)).alloc (.cells #[] 81)) w.heap.size [0, 0, 1, 0] (by simp; omega) (by simp))
  go_enter Twin.func43, Try.ntmps43
  go_wp2_with (first | (go_at_call 66; refine (handT_measureOf2 _).mono ?_; rintro e w' ⟨rfl, rfl⟩) | (go_at_call 128; refine (handT_values2 _).mono ?_; rintro e w' ⟨rfl, rfl⟩) | (go_at_call 67; refine (handT_within _ _ _ _).mono ?_; rintro e w' ⟨rfl, rfl⟩) | (go_at_call 126; refine (handT_encode2_2 _).mono ?_; rintro e w' ⟨rfl, rfl⟩))
  go_ret2
  exact ⟨_, rfl, by simpa using hrow.out, (((Below.refl _ _).alloc (Nat.le_refl _) _).alloc (by simp) _).alloc (by simp; omega) _⟩
theorem handT_encode2_3 (w : World) : Calls Twin.prog 126 #[.agg #[], .int .i64 3] w fun e w' => e = .returned (.slice (some ⟨w.heap.size + 1, 0, none⟩) 4 4) ∧ w' = (w.alloc (.cells #[] 81)).alloc (.cells #[.int .i64 0, .int .i64 0, .int .i64 0, .int .i64 1] 3) := by
  have hmk : ∀ W : World, (Instr.makeSlice 23 (.int .i64 4) (.int .i64 4)).run Twin.prog W = .ok (.slice (some ⟨W.heap.size, 0, none⟩) 4 4) (W.alloc (.cells #[.int .i64 0, .int .i64 0, .int .i64 0, .int .i64 0] 3)) := fun _ => by kernel_rfl
  go_enter Twin.func126, Try.ntmps126
  go_wp2
  go_ret
  exact ⟨rfl, rfl⟩
theorem handT_TypeMake2_3 (w : World) : Calls Twin.prog 43 #[.int .i64 2, .int .i64 3] w fun e w' => ∃ v0_ : Value, e = .returned (.tuple #[v0_, .bool true]) ∧ Kd.R (Kd.int .i64) 3 w' w.heap.size (fun _ => True) v0_ [0, 0, 0, 1] ∧ Below w.heap.size w w' := by
  have hm : ∀ W : World, (method 221 81 (.agg #[]) "loop.example/scrutineer/impl.values").run Twin.prog W = .ok (128, .agg #[]) W := fun _ => by kernel_rfl
  have he : ∀ W : World, (method 221 81 (.agg #[]) "loop.example/scrutineer/impl.encode").run Twin.prog W = .ok (126, .agg #[]) W := fun _ => by kernel_rfl
  have h : inB 0 3 3 = true := rfl
  have hrow := Aside0.mk (handT_row ((w.alloc (.cells #[] 81)).alloc (.cells #[] 81)) w.heap.size [0, 0, 0, 1] (by simp; omega) (by simp))
  go_enter Twin.func43, Try.ntmps43
  go_wp2_with (first | (go_at_call 66; refine (handT_measureOf2 _).mono ?_; rintro e w' ⟨rfl, rfl⟩) | (go_at_call 128; refine (handT_values2 _).mono ?_; rintro e w' ⟨rfl, rfl⟩) | (go_at_call 67; refine (handT_within _ _ _ _).mono ?_; rintro e w' ⟨rfl, rfl⟩) | (go_at_call 126; refine (handT_encode2_3 _).mono ?_; rintro e w' ⟨rfl, rfl⟩))
  go_ret2
  exact ⟨_, rfl, by simpa using hrow.out, (((Below.refl _ _).alloc (Nat.le_refl _) _).alloc (by simp) _).alloc (by simp; omega) _⟩
theorem handT_values3 (w : World) : Calls Twin.prog 131 #[.agg #[]] w fun e w' => e = .returned (.int .i64 8) ∧ w' = w.alloc (.cells #[] 82) := by
  go_enter Twin.func131, Try.ntmps131
  go_wp2
  go_ret
  exact ⟨rfl, rfl⟩
theorem handT_TypeMake3_no (v : Int) (w : World) (h : inB 0 7 v = false) : Calls Twin.prog 43 #[.int .i64 3, .int .i64 v] w fun e w' => e = .returned (.tuple #[.slice none 0 0, .bool false]) ∧ Below w.heap.size w w' := by
  have hm : ∀ W : World, (method 221 82 (.agg #[]) "loop.example/scrutineer/impl.values").run Twin.prog W = .ok (131, .agg #[]) W := fun _ => by kernel_rfl
  go_enter Twin.func43, Try.ntmps43
  go_wp2_with (first | (go_at_call 66; refine (handT_measureOf3 _).mono ?_; rintro e w' ⟨rfl, rfl⟩) | (go_at_call 131; refine (handT_values3 _).mono ?_; rintro e w' ⟨rfl, rfl⟩) | (go_at_call 67; refine (handT_within _ _ _ _).mono ?_; rintro e w' ⟨rfl, rfl⟩))
  go_ret2
  exact ⟨rfl, (Below.refl _ _).alloc (Nat.le_refl _) _⟩
theorem handT_encode3_0 (w : World) : Calls Twin.prog 129 #[.agg #[], .int .i64 0] w fun e w' => e = .returned (.slice (some ⟨w.heap.size + 1, 0, none⟩) 3 3) ∧ w' = (w.alloc (.cells #[] 82)).alloc (.cells #[.int .i64 0, .int .i64 0, .int .i64 0] 3) := by
  go_enter Twin.func129, Try.ntmps129
  go_wp2
  go_ret
  exact ⟨rfl, rfl⟩
theorem handT_TypeMake3_0 (w : World) : Calls Twin.prog 43 #[.int .i64 3, .int .i64 0] w fun e w' => ∃ v0_ : Value, e = .returned (.tuple #[v0_, .bool true]) ∧ Kd.R (Kd.int .i64) 3 w' w.heap.size (fun _ => True) v0_ [0, 0, 0] ∧ Below w.heap.size w w' := by
  have hm : ∀ W : World, (method 221 82 (.agg #[]) "loop.example/scrutineer/impl.values").run Twin.prog W = .ok (131, .agg #[]) W := fun _ => by kernel_rfl
  have he : ∀ W : World, (method 221 82 (.agg #[]) "loop.example/scrutineer/impl.encode").run Twin.prog W = .ok (129, .agg #[]) W := fun _ => by kernel_rfl
  have h : inB 0 7 0 = true := rfl
  have hrow := Aside0.mk (handT_row ((w.alloc (.cells #[] 82)).alloc (.cells #[] 82)) w.heap.size [0, 0, 0] (by simp; omega) (by simp))
  go_enter Twin.func43, Try.ntmps43
  go_wp2_with (first | (go_at_call 66; refine (handT_measureOf3 _).mono ?_; rintro e w' ⟨rfl, rfl⟩) | (go_at_call 131; refine (handT_values3 _).mono ?_; rintro e w' ⟨rfl, rfl⟩) | (go_at_call 67; refine (handT_within _ _ _ _).mono ?_; rintro e w' ⟨rfl, rfl⟩) | (go_at_call 129; refine (handT_encode3_0 _).mono ?_; rintro e w' ⟨rfl, rfl⟩))
  go_ret2
  exact ⟨_, rfl, by simpa using hrow.out, (((Below.refl _ _).alloc (Nat.le_refl _) _).alloc (by simp) _).alloc (by simp; omega) _⟩
theorem handT_encode3_1 (w : World) : Calls Twin.prog 129 #[.agg #[], .int .i64 1] w fun e w' => e = .returned (.slice (some ⟨w.heap.size + 1, 0, none⟩) 3 3) ∧ w' = (w.alloc (.cells #[] 82)).alloc (.cells #[.int .i64 1, .int .i64 0, .int .i64 0] 3) := by
  go_enter Twin.func129, Try.ntmps129
  go_wp2
  go_ret
  exact ⟨rfl, rfl⟩
theorem handT_TypeMake3_1 (w : World) : Calls Twin.prog 43 #[.int .i64 3, .int .i64 1] w fun e w' => ∃ v0_ : Value, e = .returned (.tuple #[v0_, .bool true]) ∧ Kd.R (Kd.int .i64) 3 w' w.heap.size (fun _ => True) v0_ [1, 0, 0] ∧ Below w.heap.size w w' := by
  have hm : ∀ W : World, (method 221 82 (.agg #[]) "loop.example/scrutineer/impl.values").run Twin.prog W = .ok (131, .agg #[]) W := fun _ => by kernel_rfl
  have he : ∀ W : World, (method 221 82 (.agg #[]) "loop.example/scrutineer/impl.encode").run Twin.prog W = .ok (129, .agg #[]) W := fun _ => by kernel_rfl
  have h : inB 0 7 1 = true := rfl
  have hrow := Aside0.mk (handT_row ((w.alloc (.cells #[] 82)).alloc (.cells #[] 82)) w.heap.size [1, 0, 0] (by simp; omega) (by simp))
  go_enter Twin.func43, Try.ntmps43
  go_wp2_with (first | (go_at_call 66; refine (handT_measureOf3 _).mono ?_; rintro e w' ⟨rfl, rfl⟩) | (go_at_call 131; refine (handT_values3 _).mono ?_; rintro e w' ⟨rfl, rfl⟩) | (go_at_call 67; refine (handT_within _ _ _ _).mono ?_; rintro e w' ⟨rfl, rfl⟩) | (go_at_call 129; refine (handT_encode3_1 _).mono ?_; rintro e w' ⟨rfl, rfl⟩))
  go_ret2
  exact ⟨_, rfl, by simpa using hrow.out, (((Below.refl _ _).alloc (Nat.le_refl _) _).alloc (by simp) _).alloc (by simp; omega) _⟩
theorem handT_encode3_2 (w : World) : Calls Twin.prog 129 #[.agg #[], .int .i64 2] w fun e w' => e = .returned (.slice (some ⟨w.heap.size + 1, 0, none⟩) 3 3) ∧ w' = (w.alloc (.cells #[] 82)).alloc (.cells #[.int .i64 0, .int .i64 1, .int .i64 0] 3) := by
  go_enter Twin.func129, Try.ntmps129
  go_wp2
  go_ret
  exact ⟨rfl, rfl⟩
theorem handT_TypeMake3_2 (w : World) : Calls Twin.prog 43 #[.int .i64 3, .int .i64 2] w fun e w' => ∃ v0_ : Value, e = .returned (.tuple #[v0_, .bool true]) ∧ Kd.R (Kd.int .i64) 3 w' w.heap.size (fun _ => True) v0_ [0, 1, 0] ∧ Below w.heap.size w w' := by
  have hm : ∀ W : World, (method 221 82 (.agg #[]) "loop.example/scrutineer/impl.values").run Twin.prog W = .ok (131, .agg #[]) W := fun _ => by kernel_rfl
  have he : ∀ W : World, (method 221 82 (.agg #[]) "loop.example/scrutineer/impl.encode").run Twin.prog W = .ok (129, .agg #[]) W := fun _ => by kernel_rfl
  have h : inB 0 7 2 = true := rfl
  have hrow := Aside0.mk (handT_row ((w.alloc (.cells #[] 82)).alloc (.cells #[] 82)) w.heap.size [0, 1, 0] (by simp; omega) (by simp))
  go_enter Twin.func43, Try.ntmps43
  go_wp2_with (first | (go_at_call 66; refine (handT_measureOf3 _).mono ?_; rintro e w' ⟨rfl, rfl⟩) | (go_at_call 131; refine (handT_values3 _).mono ?_; rintro e w' ⟨rfl, rfl⟩) | (go_at_call 67; refine (handT_within _ _ _ _).mono ?_; rintro e w' ⟨rfl, rfl⟩) | (go_at_call 129; refine (handT_encode3_2 _).mono ?_; rintro e w' ⟨rfl, rfl⟩))
  go_ret2
  exact ⟨_, rfl, by simpa using hrow.out, (((Below.refl _ _).alloc (Nat.le_refl _) _).alloc (by simp) _).alloc (by simp; omega) _⟩
theorem handT_encode3_3 (w : World) : Calls Twin.prog 129 #[.agg #[], .int .i64 3] w fun e w' => e = .returned (.slice (some ⟨w.heap.size + 1, 0, none⟩) 3 3) ∧ w' = (w.alloc (.cells #[] 82)).alloc (.cells #[.int .i64 1, .int .i64 1, .int .i64 0] 3) := by
  go_enter Twin.func129, Try.ntmps129
  go_wp2
  go_ret
  exact ⟨rfl, rfl⟩
theorem handT_TypeMake3_3 (w : World) : Calls Twin.prog 43 #[.int .i64 3, .int .i64 3] w fun e w' => ∃ v0_ : Value, e = .returned (.tuple #[v0_, .bool true]) ∧ Kd.R (Kd.int .i64) 3 w' w.heap.size (fun _ => True) v0_ [1, 1, 0] ∧ Below w.heap.size w w' := by
  have hm : ∀ W : World, (method 221 82 (.agg #[]) "loop.example/scrutineer/impl.values").run Twin.prog W = .ok (131, .agg #[]) W := fun _ => by kernel_rfl
  have he : ∀ W : World, (method 221 82 (.agg #[]) "loop.example/scrutineer/impl.encode").run Twin.prog W = .ok (129, .agg #[]) W := fun _ => by kernel_rfl
  have h : inB 0 7 3 = true := rfl
  have hrow := Aside0.mk (handT_row ((w.alloc (.cells #[] 82)).alloc (.cells #[] 82)) w.heap.size [1, 1, 0] (by simp; omega) (by simp))
  go_enter Twin.func43, Try.ntmps43
  go_wp2_with (first | (go_at_call 66; refine (handT_measureOf3 _).mono ?_; rintro e w' ⟨rfl, rfl⟩) | (go_at_call 131; refine (handT_values3 _).mono ?_; rintro e w' ⟨rfl, rfl⟩) | (go_at_call 67; refine (handT_within _ _ _ _).mono ?_; rintro e w' ⟨rfl, rfl⟩) | (go_at_call 129; refine (handT_encode3_3 _).mono ?_; rintro e w' ⟨rfl, rfl⟩))
  go_ret2
  exact ⟨_, rfl, by simpa using hrow.out, (((Below.refl _ _).alloc (Nat.le_refl _) _).alloc (by simp) _).alloc (by simp; omega) _⟩
theorem handT_encode3_4 (w : World) : Calls Twin.prog 129 #[.agg #[], .int .i64 4] w fun e w' => e = .returned (.slice (some ⟨w.heap.size + 1, 0, none⟩) 3 3) ∧ w' = (w.alloc (.cells #[] 82)).alloc (.cells #[.int .i64 0, .int .i64 0, .int .i64 1] 3) := by
  go_enter Twin.func129, Try.ntmps129
  go_wp2
  go_ret
  exact ⟨rfl, rfl⟩
theorem handT_TypeMake3_4 (w : World) : Calls Twin.prog 43 #[.int .i64 3, .int .i64 4] w fun e w' => ∃ v0_ : Value, e = .returned (.tuple #[v0_, .bool true]) ∧ Kd.R (Kd.int .i64) 3 w' w.heap.size (fun _ => True) v0_ [0, 0, 1] ∧ Below w.heap.size w w' := by
  have hm : ∀ W : World, (method 221 82 (.agg #[]) "loop.example/scrutineer/impl.values").run Twin.prog W = .ok (131, .agg #[]) W := fun _ => by kernel_rfl
  have he : ∀ W : World, (method 221 82 (.agg #[]) "loop.example/scrutineer/impl.encode").run Twin.prog W = .ok (129, .agg #[]) W := fun _ => by kernel_rfl
  have h : inB 0 7 4 = true := rfl
  have hrow := Aside0.mk (handT_row ((w.alloc (.cells #[] 82)).alloc (.cells #[] 82)) w.heap.size [0, 0, 1] (by simp; omega) (by simp))
  go_enter Twin.func43, Try.ntmps43
  go_wp2_with (first | (go_at_call 66; refine (handT_measureOf3 _).mono ?_; rintro e w' ⟨rfl, rfl⟩) | (go_at_call 131; refine (handT_values3 _).mono ?_; rintro e w' ⟨rfl, rfl⟩) | (go_at_call 67; refine (handT_within _ _ _ _).mono ?_; rintro e w' ⟨rfl, rfl⟩) | (go_at_call 129; refine (handT_encode3_4 _).mono ?_; rintro e w' ⟨rfl, rfl⟩))
  go_ret2
  exact ⟨_, rfl, by simpa using hrow.out, (((Below.refl _ _).alloc (Nat.le_refl _) _).alloc (by simp) _).alloc (by simp; omega) _⟩
theorem handT_encode3_5 (w : World) : Calls Twin.prog 129 #[.agg #[], .int .i64 5] w fun e w' => e = .returned (.slice (some ⟨w.heap.size + 1, 0, none⟩) 3 3) ∧ w' = (w.alloc (.cells #[] 82)).alloc (.cells #[.int .i64 1, .int .i64 0, .int .i64 1] 3) := by
  go_enter Twin.func129, Try.ntmps129
  go_wp2
  go_ret
  exact ⟨rfl, rfl⟩
theorem handT_TypeMake3_5 (w : World) : Calls Twin.prog 43 #[.int .i64 3, .int .i64 5] w fun e w' => ∃ v0_ : Value, e = .returned (.tuple #[v0_, .bool true]) ∧ Kd.R (Kd.int .i64) 3 w' w.heap.size (fun _ => True) v0_ [1, 0, 1] ∧ Below w.heap.size w w' := by
  have hm : ∀ W : World, (method 221 82 (.agg #[]) "loop.example/scrutineer/impl.values").run Twin.prog W = .ok (131, .agg #[]) W := fun _ => by kernel_rfl
  have he : ∀ W : World, (method 221 82 (.agg #[]) "loop.example/scrutineer/impl.encode").run Twin.prog W = .ok (129, .agg #[]) W := fun _ => by kernel_rfl
  have h : inB 0 7 5 = true := rfl
  have hrow := Aside0.mk (handT_row ((w.alloc (.cells #[] 82)).alloc (.cells #[] 82)) w.heap.size [1, 0, 1] (by simp; omega) (by simp))
  go_enter Twin.func43, Try.ntmps43
  go_wp2_with (first | (go_at_call 66; refine (handT_measureOf3 _).mono ?_; rintro e w' ⟨rfl, rfl⟩) | (go_at_call 131; refine (handT_values3 _).mono ?_; rintro e w' ⟨rfl, rfl⟩) | (go_at_call 67; refine (handT_within _ _ _ _).mono ?_; rintro e w' ⟨rfl, rfl⟩) | (go_at_call 129; refine (handT_encode3_5 _).mono ?_; rintro e w' ⟨rfl, rfl⟩))
  go_ret2
  exact ⟨_, rfl, by simpa using hrow.out, (((Below.refl _ _).alloc (Nat.le_refl _) _).alloc (by simp) _).alloc (by simp; omega) _⟩
theorem handT_encode3_6 (w : World) : Calls Twin.prog 129 #[.agg #[], .int .i64 6] w fun e w' => e = .returned (.slice (some ⟨w.heap.size + 1, 0, none⟩) 3 3) ∧ w' = (w.alloc (.cells #[] 82)).alloc (.cells #[.int .i64 0, .int .i64 1, .int .i64 1] 3) := by
  go_enter Twin.func129, Try.ntmps129
  go_wp2
  go_ret
  exact ⟨rfl, rfl⟩
theorem handT_TypeMake3_6 (w : World) : Calls Twin.prog 43 #[.int .i64 3, .int .i64 6] w fun e w' => ∃ v0_ : Value, e = .returned (.tuple #[v0_, .bool true]) ∧ Kd.R (Kd.int .i64) 3 w' w.heap.size (fun _ => True) v0_ [0, 1, 1] ∧ Below w.heap.size w w' := by
  have hm : ∀ W : World, (method 221 82 (.agg #[]) "loop.example/scrutineer/impl.values").run Twin.prog W = .ok (131, .agg #[]) W := fun _ => by kernel_rfl
  have he : ∀ W : World, (method 221 82 (.agg #[]) "loop.example/scrutineer/impl.encode").run Twin.prog W = .ok (129, .agg #[]) W := fun _ => by kernel_rfl
  have h : inB 0 7 6 = true := rfl
  have hrow := Aside0.mk (handT_row ((w.alloc (.cells #[] 82)).alloc (.cells #[] 82)) w.heap.size [0, 1, 1] (by simp; omega) (by simp))
  go_enter Twin.func43, Try.ntmps43
  go_wp2_with (first | (go_at_call 66; refine (handT_measureOf3 _).mono ?_; rintro e w' ⟨rfl, rfl⟩) | (go_at_call 131; refine (handT_values3 _).mono ?_; rintro e w' ⟨rfl, rfl⟩) | (go_at_call 67; refine (handT_within _ _ _ _).mono ?_; rintro e w' ⟨rfl, rfl⟩) | (go_at_call 129; refine (handT_encode3_6 _).mono ?_; rintro e w' ⟨rfl, rfl⟩))
  go_ret2
  exact ⟨_, rfl, by simpa using hrow.out, (((Below.refl _ _).alloc (Nat.le_refl _) _).alloc (by simp) _).alloc (by simp; omega) _⟩
theorem handT_encode3_7 (w : World) : Calls Twin.prog 129 #[.agg #[], .int .i64 7] w fun e w' => e = .returned (.slice (some ⟨w.heap.size + 1, 0, none⟩) 3 3) ∧ w' = (w.alloc (.cells #[] 82)).alloc (.cells #[.int .i64 1, .int .i64 1, .int .i64 1] 3) := by
  go_enter Twin.func129, Try.ntmps129
  go_wp2
  go_ret
  exact ⟨rfl, rfl⟩
theorem handT_TypeMake3_7 (w : World) : Calls Twin.prog 43 #[.int .i64 3, .int .i64 7] w fun e w' => ∃ v0_ : Value, e = .returned (.tuple #[v0_, .bool true]) ∧ Kd.R (Kd.int .i64) 3 w' w.heap.size (fun _ => True) v0_ [1, 1, 1] ∧ Below w.heap.size w w' := by
  have hm : ∀ W : World, (method 221 82 (.agg #[]) "loop.example/scrutineer/impl.values").run Twin.prog W = .ok (131, .agg #[]) W := fun _ => by kernel_rfl
  have he : ∀ W : World, (method 221 82 (.agg #[]) "loop.example/scrutineer/impl.encode").run Twin.prog W = .ok (129, .agg #[]) W := fun _ => by kernel_rfl
  have h : inB 0 7 7 = true := rfl
  have hrow := Aside0.mk (handT_row ((w.alloc (.cells #[] 82)).alloc (.cells #[] 82)) w.heap.size [1, 1, 1] (by simp; omega) (by simp))
  go_enter Twin.func43, Try.ntmps43
  go_wp2_with (first | (go_at_call 66; refine (handT_measureOf3 _).mono ?_; rintro e w' ⟨rfl, rfl⟩) | (go_at_call 131; refine (handT_values3 _).mono ?_; rintro e w' ⟨rfl, rfl⟩) | (go_at_call 67; refine (handT_within _ _ _ _).mono ?_; rintro e w' ⟨rfl, rfl⟩) | (go_at_call 129; refine (handT_encode3_7 _).mono ?_; rintro e w' ⟨rfl, rfl⟩))
  go_ret2
  exact ⟨_, rfl, by simpa using hrow.out, (((Below.refl _ _).alloc (Nat.le_refl _) _).alloc (by simp) _).alloc (by simp; omega) _⟩
/-- The numbers of a value. -/
def encI (k v : Int) : Option (List Int) :=
  if k = 1 ∧ 0 ≤ v ∧ v ≤ 1 then some [v] else if k = 2 ∧ 0 ≤ v ∧ v ≤ 3 then some (([0, 0, 0, 0] : List Int).set v.toNat 1) else if k = 3 ∧ 0 ≤ v ∧ v ≤ 7 then some [v % 2, v / 2 % 2, v / 4 % 2] else none
def encR (a0 a1 : Int) : List Int × Bool := match encI a0 a1 with | some l => (l, true) | none => ([], false)
def impl_TypeMake.f (a0 a1 : Int) : Option (List Int × Bool) := some (encR a0 a1)
theorem encR_none {a0 a1 : Int} (h : encI a0 a1 = none) : encR a0 a1 = ([], false) := by unfold encR; rw [h]
theorem encR_some {a0 a1 : Int} {l : List Int} (h : encI a0 a1 = some l) : encR a0 a1 = (l, true) := by unfold encR; rw [h]
theorem impl_TypeMake.calls (a0 : Int) (a1 : Int) (r1 : List Int) (r2 : Bool) (w : World) (h : impl_TypeMake.f a0 a1 = some (r1, r2)) :
    Calls Twin.prog 43 #[.int .i64 a0, .int .i64 a1] w fun e w' => ∃ v0_ : Value, e = .returned (.tuple #[v0_, .bool r2]) ∧ Kd.R (Kd.int .i64) 3 w' w.heap.size (fun _ => True) v0_ r1 ∧ Below w.heap.size w w' := by
  have h' := Option.some.inj h
  have no : encI a0 a1 = none → Calls Twin.prog 43 #[.int .i64 a0, .int .i64 a1] w (fun e w' => e = .returned (.tuple #[.slice none 0 0, .bool false]) ∧ Below w.heap.size w w') → Calls Twin.prog 43 #[.int .i64 a0, .int .i64 a1] w fun e w' => ∃ v0_ : Value, e = .returned (.tuple #[v0_, .bool r2]) ∧ Kd.R (Kd.int .i64) 3 w' w.heap.size (fun _ => True) v0_ r1 ∧ Below w.heap.size w w' := by
    intro hn hc
    rw [encR_none hn] at h'
    simp only [Prod.mk.injEq] at h'
    obtain ⟨rfl, rfl⟩ := h'
    exact hc.mono fun e w' ⟨he, hb⟩ => ⟨_, he, Kd.R_nil _ _ _ _ _, hb⟩
  have yes : ∀ {l : List Int}, encI a0 a1 = some l → Calls Twin.prog 43 #[.int .i64 a0, .int .i64 a1] w (fun e w' => ∃ v0_ : Value, e = .returned (.tuple #[v0_, .bool true]) ∧ Kd.R (Kd.int .i64) 3 w' w.heap.size (fun _ => True) v0_ l ∧ Below w.heap.size w w') → Calls Twin.prog 43 #[.int .i64 a0, .int .i64 a1] w fun e w' => ∃ v0_ : Value, e = .returned (.tuple #[v0_, .bool r2]) ∧ Kd.R (Kd.int .i64) 3 w' w.heap.size (fun _ => True) v0_ r1 ∧ Below w.heap.size w w' := by
    intro l hn hc
    rw [encR_some hn] at h'
    simp only [Prod.mk.injEq] at h'
    obtain ⟨rfl, rfl⟩ := h'
    exact hc
  by_cases h1 : a0 = 1
  · subst h1
    by_cases hv : 0 ≤ a1 ∧ a1 ≤ 1
    · obtain rfl | rfl : a1 = 0 ∨ a1 = 1 := by omega
      · exact yes rfl (handT_TypeMake1_0 w)
      · exact yes rfl (handT_TypeMake1_1 w)
    · exact no (by simp [encI]; omega) (handT_TypeMake1_no a1 w (by simp [inB]; omega))
  by_cases h2 : a0 = 2
  · subst h2
    by_cases hv : 0 ≤ a1 ∧ a1 ≤ 3
    · obtain rfl | rfl | rfl | rfl : a1 = 0 ∨ a1 = 1 ∨ a1 = 2 ∨ a1 = 3 := by omega
      · exact yes rfl (handT_TypeMake2_0 w)
      · exact yes rfl (handT_TypeMake2_1 w)
      · exact yes rfl (handT_TypeMake2_2 w)
      · exact yes rfl (handT_TypeMake2_3 w)
    · exact no (by simp [encI]; omega) (handT_TypeMake2_no a1 w (by simp [inB]; omega))
  by_cases h3 : a0 = 3
  · subst h3
    by_cases hv : 0 ≤ a1 ∧ a1 ≤ 7
    · obtain rfl | rfl | rfl | rfl | rfl | rfl | rfl | rfl : a1 = 0 ∨ a1 = 1 ∨ a1 = 2 ∨ a1 = 3 ∨ a1 = 4 ∨ a1 = 5 ∨ a1 = 6 ∨ a1 = 7 := by omega
      · exact yes rfl (handT_TypeMake3_0 w)
      · exact yes rfl (handT_TypeMake3_1 w)
      · exact yes rfl (handT_TypeMake3_2 w)
      · exact yes rfl (handT_TypeMake3_3 w)
      · exact yes rfl (handT_TypeMake3_4 w)
      · exact yes rfl (handT_TypeMake3_5 w)
      · exact yes rfl (handT_TypeMake3_6 w)
      · exact yes rfl (handT_TypeMake3_7 w)
    · exact no (by simp [encI]; omega) (handT_TypeMake3_no a1 w (by simp [inB]; omega))
  · exact no (by simp [encI, h1, h2, h3]) ((handT_TypeMake0 a0 a1 w (by simpa using h1) (by simpa using h2) (by simpa using h3)).mono fun e w' ⟨he, hw⟩ => ⟨he, by rw [← hw]; exact Below.refl _ _⟩)
end Go.Proofs.Ytcdnmnipaaooiaa.P
end

section
namespace Go.Proofs.Ytcdnmnipaaooiaa.P
open Go.RowKit Go.Proofs.YtcdnmnipaaooiaaW.PrintWords Go.Proofs.YtcdnmnipaaooiaaW.PrintLast Go.Proofs.YtcdnmnipaaooiaaW.PrintMore
attribute [local go_sem] max2_int min2_int max_two min_two max_three min_three max_four min_four   -- for this text's walks alone
set_option linter.unusedVariables false
set_option linter.unusedSimpArgs false
mutual
def laws_FnTypeSum.j0 : Nat → List Int → List Int → Bool → Option (Bool)
  | 0, _, _, _ => none
  | k + 1, x0, x1, x24 => if x24 = true then (some true) else ((spec_DrawTypeMake.f k x0).bind fun bt920 => ((spec_TypeMake.f k bt920.1 bt920.2).bind fun bt922 => ((impl_TypeMake.f bt920.1 bt920.2).bind fun bt926 => (if (bt926.2 != bt922.2) = true then (laws_FnTypeSum.j1 k x1 bt920.1 bt922.1 bt922.2 bt926.1 bt926.2 true) else ((laws_loInts.f k bt926.1 bt922.1).bind fun t930 => (if t930 = true then (laws_FnTypeSum.j1 k x1 bt920.1 bt922.1 bt922.2 bt926.1 bt926.2 (!bt926.2)) else (laws_FnTypeSum.j1 k x1 bt920.1 bt922.1 bt922.2 bt926.1 bt926.2 true)))))))
def laws_FnTypeSum.j1 : Nat → List Int → Int → List Int → Bool → List Int → Bool → Bool → Option (Bool)
  | 0, _, _, _, _, _, _, _ => none
  | k + 1, x1, x5, x7, x8, x9, x10, x54 => if x54 = true then (if (x10 == x8) = true then ((laws_loInts.f k x9 x7).bind fun t931 => (some t931)) else (some false)) else ((impl_TypeMake.f x5 ((x1.length : Int) % 2)).bind fun bt932 => ((impl_ShareSum.f x9 bt932.1).bind fun bt936 => (laws_FnTypeSum.l0 k x9 bt932.1 bt936.1 bt936.2 0)))
def laws_FnTypeSum.l0 : Nat → List Int → List Int → List Int → Bool → Int → Option (Bool)
  | 0, _, _, _, _, _ => none
  | k + 1, x9, x11, x13, x14, x15 => if x14 = true then (laws_FnTypeSum.j3 k x9 x11 x13 x14 x15 (decide (x15 < (x13.length : Int)))) else (laws_FnTypeSum.j3 k x9 x11 x13 x14 x15 false)
def laws_FnTypeSum.j3 : Nat → List Int → List Int → List Int → Bool → Int → Bool → Option (Bool)
  | 0, _, _, _, _, _, _ => none
  | k + 1, x9, x11, x13, x14, x15, x83 => if x83 = true then (if 0 ≤ x15 then (if x15 < (x9.length : Int) then (if (rd x9 x15) = 1 then (laws_FnTypeSum.j4 k x9 x11 x13 x14 x15 (0 + 1)) else (laws_FnTypeSum.j4 k x9 x11 x13 x14 x15 0)) else (none)) else (none)) else (some x14)
def laws_FnTypeSum.j4 : Nat → List Int → List Int → List Int → Bool → Int → Int → Option (Bool)
  | 0, _, _, _, _, _, _ => none
  | k + 1, x9, x11, x13, x14, x15, x16 => if 0 ≤ x15 then (if x15 < (x11.length : Int) then (if (rd x11 x15) = 1 then (if x15 < (x13.length : Int) then (if (rd x13 x15) = (wrap64 (x16 + 1)) then (laws_FnTypeSum.l0 k x9 x11 x13 x14 (wrap64 (x15 + 1))) else (some false)) else (none)) else (if x15 < (x13.length : Int) then (if (rd x13 x15) = x16 then (laws_FnTypeSum.l0 k x9 x11 x13 x14 (wrap64 (x15 + 1))) else (some false)) else (none))) else (none)) else (none)
end
def laws_FnTypeSum.f (k : Nat) (l0 : List Int) (l1 : List Int) : Option (Bool) := if (l0.length : Int) > 1048576 then (laws_FnTypeSum.j0 k l0 l1 true) else (laws_FnTypeSum.j0 k l0 l1 (decide ((l1.length : Int) > 1048576)))
theorem laws_FnTypeSum.mono_l : ∀ k, (∀ y0 y1 y2, LeO (laws_FnTypeSum.j0 k y0 y1 y2) (laws_FnTypeSum.j0 (k + 1) y0 y1 y2)) ∧ (∀ y0 y1 y2 y3 y4 y5 y6, LeO (laws_FnTypeSum.j1 k y0 y1 y2 y3 y4 y5 y6) (laws_FnTypeSum.j1 (k + 1) y0 y1 y2 y3 y4 y5 y6)) ∧ (∀ y0 y1 y2 y3 y4, LeO (laws_FnTypeSum.l0 k y0 y1 y2 y3 y4) (laws_FnTypeSum.l0 (k + 1) y0 y1 y2 y3 y4)) ∧ (∀ y0 y1 y2 y3 y4 y5, LeO (laws_FnTypeSum.j3 k y0 y1 y2 y3 y4 y5) (laws_FnTypeSum.j3 (k + 1) y0 y1 y2 y3 y4 y5)) ∧ (∀ y0 y1 y2 y3 y4 y5, LeO (laws_FnTypeSum.j4 k y0 y1 y2 y3 y4 y5) (laws_FnTypeSum.j4 (k + 1) y0 y1 y2 y3 y4 y5))
  | 0 => ⟨fun _ _ _ r h => by simp [laws_FnTypeSum.j0] at h, fun _ _ _ _ _ _ _ r h => by simp [laws_FnTypeSum.j1] at h, fun _ _ _ _ _ r h => by simp [laws_FnTypeSum.l0] at h, fun _ _ _ _ _ _ r h => by simp [laws_FnTypeSum.j3] at h, fun _ _ _ _ _ _ r h => by simp [laws_FnTypeSum.j4] at h⟩
  | k + 1 => by
    obtain ⟨ih0, ih1, ih2, ih3, ih4⟩ := laws_FnTypeSum.mono_l k
    refine ⟨?_, ?_, ?_, ?_, ?_⟩
    · intro y0 y1 y2
      unfold laws_FnTypeSum.j0
      repeat' first
      | (with_reducible exact ih0 _ _ _)
      | (with_reducible exact ih1 _ _ _ _ _ _ _)
      | (with_reducible exact ih2 _ _ _ _ _)
      | (with_reducible exact ih3 _ _ _ _ _ _)
      | (with_reducible exact ih4 _ _ _ _ _ _)
      | (with_reducible exact laws_loInts.mono _ _ _)
      | (with_reducible exact spec_DrawTypeMake.mono _ _)
      | (with_reducible exact spec_TypeMake.mono _ _ _)
      | (with_reducible exact LeO.refl _)
      | (with_reducible exact LeO.none _)
      | (with_reducible refine LeO.ite ?_ ?_)
      | (with_reducible refine LeO.bind ?_ (fun _ => ?_))
      | exact ih0 _ _ _
      | exact ih1 _ _ _ _ _ _ _
      | exact ih2 _ _ _ _ _
      | exact ih3 _ _ _ _ _ _
      | exact ih4 _ _ _ _ _ _
      | exact laws_loInts.mono _ _ _
      | exact spec_DrawTypeMake.mono _ _
      | exact spec_TypeMake.mono _ _ _
      | exact LeO.none _
      | refine LeO.ite ?_ ?_
      | refine LeO.bind ?_ (fun _ => ?_)
    · intro y0 y1 y2 y3 y4 y5 y6
      unfold laws_FnTypeSum.j1
      repeat' first
      | (with_reducible exact ih0 _ _ _)
      | (with_reducible exact ih1 _ _ _ _ _ _ _)
      | (with_reducible exact ih2 _ _ _ _ _)
      | (with_reducible exact ih3 _ _ _ _ _ _)
      | (with_reducible exact ih4 _ _ _ _ _ _)
      | (with_reducible exact laws_loInts.mono _ _ _)
      | (with_reducible exact spec_DrawTypeMake.mono _ _)
      | (with_reducible exact spec_TypeMake.mono _ _ _)
      | (with_reducible exact LeO.refl _)
      | (with_reducible exact LeO.none _)
      | (with_reducible refine LeO.ite ?_ ?_)
      | (with_reducible refine LeO.bind ?_ (fun _ => ?_))
      | exact ih0 _ _ _
      | exact ih1 _ _ _ _ _ _ _
      | exact ih2 _ _ _ _ _
      | exact ih3 _ _ _ _ _ _
      | exact ih4 _ _ _ _ _ _
      | exact laws_loInts.mono _ _ _
      | exact spec_DrawTypeMake.mono _ _
      | exact spec_TypeMake.mono _ _ _
      | exact LeO.none _
      | refine LeO.ite ?_ ?_
      | refine LeO.bind ?_ (fun _ => ?_)
    · intro y0 y1 y2 y3 y4
      unfold laws_FnTypeSum.l0
      repeat' first
      | (with_reducible exact ih0 _ _ _)
      | (with_reducible exact ih1 _ _ _ _ _ _ _)
      | (with_reducible exact ih2 _ _ _ _ _)
      | (with_reducible exact ih3 _ _ _ _ _ _)
      | (with_reducible exact ih4 _ _ _ _ _ _)
      | (with_reducible exact laws_loInts.mono _ _ _)
      | (with_reducible exact spec_DrawTypeMake.mono _ _)
      | (with_reducible exact spec_TypeMake.mono _ _ _)
      | (with_reducible exact LeO.refl _)
      | (with_reducible exact LeO.none _)
      | (with_reducible refine LeO.ite ?_ ?_)
      | (with_reducible refine LeO.bind ?_ (fun _ => ?_))
      | exact ih0 _ _ _
      | exact ih1 _ _ _ _ _ _ _
      | exact ih2 _ _ _ _ _
      | exact ih3 _ _ _ _ _ _
      | exact ih4 _ _ _ _ _ _
      | exact laws_loInts.mono _ _ _
      | exact spec_DrawTypeMake.mono _ _
      | exact spec_TypeMake.mono _ _ _
      | exact LeO.none _
      | refine LeO.ite ?_ ?_
      | refine LeO.bind ?_ (fun _ => ?_)
    · intro y0 y1 y2 y3 y4 y5
      unfold laws_FnTypeSum.j3
      repeat' first
      | (with_reducible exact ih0 _ _ _)
      | (with_reducible exact ih1 _ _ _ _ _ _ _)
      | (with_reducible exact ih2 _ _ _ _ _)
      | (with_reducible exact ih3 _ _ _ _ _ _)
      | (with_reducible exact ih4 _ _ _ _ _ _)
      | (with_reducible exact laws_loInts.mono _ _ _)
      | (with_reducible exact spec_DrawTypeMake.mono _ _)
      | (with_reducible exact spec_TypeMake.mono _ _ _)
      | (with_reducible exact LeO.refl _)
      | (with_reducible exact LeO.none _)
      | (with_reducible refine LeO.ite ?_ ?_)
      | (with_reducible refine LeO.bind ?_ (fun _ => ?_))
      | exact ih0 _ _ _
      | exact ih1 _ _ _ _ _ _ _
      | exact ih2 _ _ _ _ _
      | exact ih3 _ _ _ _ _ _
      | exact ih4 _ _ _ _ _ _
      | exact laws_loInts.mono _ _ _
      | exact spec_DrawTypeMake.mono _ _
      | exact spec_TypeMake.mono _ _ _
      | exact LeO.none _
      | refine LeO.ite ?_ ?_
      | refine LeO.bind ?_ (fun _ => ?_)
    · intro y0 y1 y2 y3 y4 y5
      unfold laws_FnTypeSum.j4
      repeat' first
      | (with_reducible exact ih0 _ _ _)
      | (with_reducible exact ih1 _ _ _ _ _ _ _)
      | (with_reducible exact ih2 _ _ _ _ _)
      | (with_reducible exact ih3 _ _ _ _ _ _)
      | (with_reducible exact ih4 _ _ _ _ _ _)
      | (with_reducible exact laws_loInts.mono _ _ _)
      | (with_reducible exact spec_DrawTypeMake.mono _ _)
      | (with_reducible exact spec_TypeMake.mono _ _ _)
      | (with_reducible exact LeO.refl _)
      | (with_reducible exact LeO.none _)
      | (with_reducible refine LeO.ite ?_ ?_)
      | (with_reducible refine LeO.bind ?_ (fun _ => ?_))
      | exact ih0 _ _ _
      | exact ih1 _ _ _ _ _ _ _
      | exact ih2 _ _ _ _ _
      | exact ih3 _ _ _ _ _ _
      | exact ih4 _ _ _ _ _ _
      | exact laws_loInts.mono _ _ _
      | exact spec_DrawTypeMake.mono _ _
      | exact spec_TypeMake.mono _ _ _
      | exact LeO.none _
      | refine LeO.ite ?_ ?_
      | refine LeO.bind ?_ (fun _ => ?_)
set_option maxHeartbeats 8000000 in
set_option maxRecDepth 100000 in
theorem laws_FnTypeSum.calls (k : Nat) (A0 : Option Addr) (c0 : Nat) (l0 : List Int) (A1 : Option Addr) (c1 : Nat) (l1 : List Int) (r : Bool) (w : World) (hr0 : Kd.C (Kd.int .u8) w A0 l0.length l0) (hc0 : l0.length ≤ c0) (hr1 : Kd.C (Kd.int .u8) w A1 l1.length l1) (hc1 : l1.length ≤ c1) (h : laws_FnTypeSum.f k l0 l1 = some r) :
    Calls Twin.prog 14 #[.slice A0 l0.length c0, .slice A1 l1.length c1] w fun e w' => e = .returned (.bool r) ∧ Below w.heap.size w w' := by
  have HR0 := Aside0.mk hr0
  have HC0 := Aside0.mk hc0
  clear hr0 hc0
  have HR1 := Aside0.mk hr1
  have HC1 := Aside0.mk hc1
  clear hr1 hc1
  have HB := Aside0.mk (Below.refl w.heap.size w)
  have H : (if (l0.length : Int) > 1048576 then (laws_FnTypeSum.j0 k l0 l1 true) else (laws_FnTypeSum.j0 k l0 l1 (decide ((l1.length : Int) > 1048576)))) = some r := h
  clear h
  have HC3 := Aside0.mk H
  clear H
  go_enter Twin.func14, Try.ntmps14
  go_upto_region 1 with (fail)
  go_cut [24] (fun v24 wc => ∃ (kq : Nat) (x24_2 : Bool), v24 = .bool x24_2 ∧ Aside0 (laws_FnTypeSum.j0 kq l0 l1 x24_2 = some r) ∧ Aside0 (kq ≤ k) ∧ Aside0 (Below w.heap.size w wc))
  case first =>
    have H := HC3.out
    clear HC3
    by_cases c4 : (l0.length : Int) > 1048576
    · rw [if_pos c4] at H
      have c4b0 : decide (1048576 < (l0.length : Int)) = true := decide_eq_true c4
      have c4b1 : decide (1048576 < l0.length) = true := decide_eq_true (by omega)
      clear c4
      (first | rw [c4b0] | (simp only [i64_w, i32_w]; rw [c4b0]) | skip)
      have H' := Aside0.mk H
      clear H
      go_wp2
      go_meet
      case rel => exact ⟨_, (true), (by first | rfl | (simp; done) | (simp [*]; done)), H', ⟨by first | omega | exact Nat.le_refl _⟩, ⟨by repeat (first | (with_reducible first | exact HB.out | apply below_alloc | apply pw_below_drewN | apply below_drew1) | exact HB.out)⟩⟩
    · rw [if_neg c4] at H
      have c4b0 : decide (1048576 < (l0.length : Int)) = false := decide_eq_false c4
      have c4b1 : decide (1048576 < l0.length) = false := decide_eq_false (by omega)
      clear c4
      (first | rw [c4b0] | (simp only [i64_w, i32_w]; rw [c4b0]) | skip)
      have H' := Aside0.mk H
      clear H
      go_wp2
      go_meet
      case rel => exact ⟨_, (decide ((l1.length : Int) > 1048576)), (by first | rfl | (simp; done) | (simp [*]; done)), H', ⟨by first | omega | exact Nat.le_refl _⟩, ⟨by repeat (first | (with_reducible first | exact HB.out | apply below_alloc | apply pw_below_drewN | apply below_drew1) | exact HB.out)⟩⟩
  case rest =>
    clear HC3
    try clear c1
    try clear p2
    try clear c4
    try clear c4b0
    try clear c4b1
    obtain ⟨kq, x24_2, rfl, HA, HJ2, HB⟩ := hcut
    cases kq with
    | zero => exact absurd HA.out (by simp [laws_FnTypeSum.j0])
    | succ kj2 =>
      have H := HA.out
      clear HA
      simp only [laws_FnTypeSum.j0] at H
      by_cases c5 : x24_2 = true
      · subst c5
        have H1 : (some true) = some r := by rw [if_pos rfl] at H; exact H
        clear H
        have H := H1
        clear H1
        obtain rfl := Option.some.inj H
        go_wp2
        go_ret
        exact ⟨by first | rfl | (simp [errW_none, errW_some] <;> rfl) | (simp [*, errW_none, errW_some] <;> rfl), by repeat (first | (with_reducible first | exact HB.out | apply below_alloc | apply pw_below_drewN | apply below_drew1) | exact HB.out)⟩
      · replace c5 := Bool.eq_false_iff.mpr c5
        subst c5
        have H1 : ((spec_DrawTypeMake.f kj2 l0).bind fun bt920 => ((spec_TypeMake.f kj2 bt920.1 bt920.2).bind fun bt922 => ((impl_TypeMake.f bt920.1 bt920.2).bind fun bt926 => (if (bt926.2 != bt922.2) = true then (laws_FnTypeSum.j1 kj2 l1 bt920.1 bt922.1 bt922.2 bt926.1 bt926.2 true) else ((laws_loInts.f kj2 bt926.1 bt922.1).bind fun t930 => (if t930 = true then (laws_FnTypeSum.j1 kj2 l1 bt920.1 bt922.1 bt922.2 bt926.1 bt926.2 (!bt926.2)) else (laws_FnTypeSum.j1 kj2 l1 bt920.1 bt922.1 bt922.2 bt926.1 bt926.2 true))))))) = some r := by rw [if_neg (show ¬ (false = true) by decide)] at H; exact H
        clear H
        have H := H1
        clear H1
        replace H := Option.bind_eq_some_iff.mp H
        obtain ⟨⟨t920, t921⟩, A60, H⟩ := H
        replace H : ((spec_TypeMake.f kj2 t920 t921).bind fun bt922 => ((impl_TypeMake.f t920 t921).bind fun bt926 => (if (bt926.2 != bt922.2) = true then (laws_FnTypeSum.j1 kj2 l1 t920 bt922.1 bt922.2 bt926.1 bt926.2 true) else ((laws_loInts.f kj2 bt926.1 bt922.1).bind fun t930 => (if t930 = true then (laws_FnTypeSum.j1 kj2 l1 t920 bt922.1 bt922.2 bt926.1 bt926.2 (!bt926.2)) else (laws_FnTypeSum.j1 kj2 l1 t920 bt922.1 bt922.2 bt926.1 bt926.2 true)))))) = some r := H
        have A6 := Aside0.mk A60
        clear A60
        replace H := Option.bind_eq_some_iff.mp H
        obtain ⟨⟨t922, t923⟩, A70, H⟩ := H
        replace H : ((impl_TypeMake.f t920 t921).bind fun bt926 => (if (bt926.2 != t923) = true then (laws_FnTypeSum.j1 kj2 l1 t920 t922 t923 bt926.1 bt926.2 true) else ((laws_loInts.f kj2 bt926.1 t922).bind fun t930 => (if t930 = true then (laws_FnTypeSum.j1 kj2 l1 t920 t922 t923 bt926.1 bt926.2 (!bt926.2)) else (laws_FnTypeSum.j1 kj2 l1 t920 t922 t923 bt926.1 bt926.2 true))))) = some r := H
        have A7 := Aside0.mk A70
        clear A70
        replace H := Option.bind_eq_some_iff.mp H
        obtain ⟨⟨t926, t927⟩, A80, H⟩ := H
        replace H : (if (t927 != t923) = true then (laws_FnTypeSum.j1 kj2 l1 t920 t922 t923 t926 t927 true) else ((laws_loInts.f kj2 t926 t922).bind fun t930 => (if t930 = true then (laws_FnTypeSum.j1 kj2 l1 t920 t922 t923 t926 t927 (!t927)) else (laws_FnTypeSum.j1 kj2 l1 t920 t922 t923 t926 t927 true)))) = some r := H
        have A8 := Aside0.mk A80
        clear A80
        have HC9 := Aside0.mk H
        clear H
        go_upto_region 6 with (first | ((with_reducible refine gate_callee (f := 41) rfl ?_); refine goesL_ (some 27) rfl rfl Twin.func41 (by kernel_rfl) rfl #[.slice A0 l0.length c0] rfl (by (try simp only [List.map_toArray, List.map_cons, List.map_nil]); first | done | rfl | (simp only [List.length_drop, List.length_take]; rfl)) ?_; (with_reducible refine (spec_DrawTypeMake.calls kj2 _ _ l0 t920 t921 _ ?side1 ?side2 A6.out).mono ?_); (case side1 => repeat (first | exact (Kd.C_below HR0.out HB.out) | (with_reducible refine Kd.C_alloc ?_ _) | (with_reducible refine Kd.C_drewN ?_ _) | (with_reducible refine Kd.C_drew ?_))); (case side2 => exact HC0.out); rintro e w10 ⟨rfl, hb⟩; refine ⟨_, rfl, ?_⟩; have n0_ := Aside0.mk (below_step (by repeat (first | (with_reducible first | exact HB.out | apply below_alloc | apply pw_below_drewN | apply below_drew1) | exact HB.out)) hb); clear HB; have HB := n0_; clear n0_; (try clear hb); (try clear hb2); (try clear hk); (try clear hi)) | ((with_reducible refine gate_callee (f := 42) rfl ?_); refine goesL_ (some 33) rfl rfl Twin.func42 (by kernel_rfl) rfl #[.int .i64 t920, .int .i64 t921] rfl (by (try simp only [List.map_toArray, List.map_cons, List.map_nil]); first | done | rfl | (simp only [List.length_drop, List.length_take]; rfl)) ?_; (with_reducible refine (spec_TypeMake.calls kj2 t920 t921 t922 t923 _ A7.out).mono ?_); rintro e w11 ⟨v924, rfl, ho0, hb⟩; refine ⟨_, rfl, ?_⟩; have n0_ := Aside0.mk (Kd.R_lower ho0 (below_size (by repeat (first | (with_reducible first | exact HB.out | apply below_alloc | apply pw_below_drewN | apply below_drew1) | exact HB.out)))); have n1_ := Aside0.mk (below_step (by repeat (first | (with_reducible first | exact HB.out | apply below_alloc | apply pw_below_drewN | apply below_drew1) | exact HB.out)) hb); clear HB; have HO925 := n0_; have HB := n1_; clear n0_ n1_; (try clear hb); (try clear hb2); (try clear hk); (try clear hi); (try clear ho0)) | ((with_reducible refine gate_callee (f := 43) rfl ?_); refine goesL_ (some 39) rfl rfl Twin.func43 (by kernel_rfl) rfl #[.int .i64 t920, .int .i64 t921] rfl (by (try simp only [List.map_toArray, List.map_cons, List.map_nil]); first | done | rfl | (simp only [List.length_drop, List.length_take]; rfl)) ?_; (with_reducible refine (impl_TypeMake.calls t920 t921 t926 t927 _ A8.out).mono ?_); rintro e w12 ⟨v928, rfl, ho0, hb⟩; refine ⟨_, rfl, ?_⟩; have n0_ := Aside0.mk (Kd.R_elder' (by (with_reducible repeat (first | apply Kd.R_alloc | apply Kd.R_drewN | apply Kd.R_drew)); exact HO925.out) (Kd.R_base ho0) hb); have n1_ := Aside0.mk (Kd.R_lower (Kd.R_new' ho0 (Kd.R_lt (by (with_reducible repeat (first | apply Kd.R_alloc | apply Kd.R_drewN | apply Kd.R_drew)); exact HO925.out))) (below_size (by repeat (first | (with_reducible first | exact HB.out | apply below_alloc | apply pw_below_drewN | apply below_drew1) | exact HB.out)))); have n2_ := Aside0.mk (below_step (by repeat (first | (with_reducible first | exact HB.out | apply below_alloc | apply pw_below_drewN | apply below_drew1) | exact HB.out)) hb); clear HO925; clear HB; have HO925 := n0_; have HO929 := n1_; have HB := n2_; clear n0_ n1_ n2_; (try clear hb); (try clear hb2); (try clear hk); (try clear hi); (try clear ho0)))
        (try simp only [Act.put, List.setIfInBounds_toArray, List.set_cons_zero, List.set_cons_succ])
        go_cut [54] (fun v54 wc => ∃ (kq : Nat) (x54_8 : Bool), v54 = .bool x54_8 ∧ Aside0 (laws_FnTypeSum.j1 kq l1 t920 t922 t923 t926 t927 x54_8 = some r) ∧ Aside0 (kq ≤ kj2) ∧ Aside0 (Kd.R (Kd.int .i64) 3 wc w.heap.size (fun k_ => some k_ ≠ (v928 : Value).ownBlock) v924 t922) ∧ Aside0 (Kd.R (Kd.int .i64) 3 wc w.heap.size (fun k_ => some k_ ≠ (v924 : Value).ownBlock) v928 t926) ∧ Aside0 (Below w.heap.size w wc))
        case first =>
          have H := HC9.out
          clear HC9
          by_cases c13 : (t927 != t923) = true
          · rw [if_pos c13] at H
            have c13b0 : (t927 != t923) = true := c13
            (try (have c13b1 : decide (t927 = t923) = false := by simpa using c13))
            (try (have c13b2 : (t927 == t923) = false := by simpa using c13))
            (try (have c13b3 : ¬ (t927 = t923) := by simpa using c13))
            clear c13
            (first | rw [c13b0] | (simp only [i64_w, i32_w]; rw [c13b0]) | skip)
            have H' := Aside0.mk H
            clear H
            go_wp2
            go_meet
            case rel => exact ⟨_, (true), (by first | rfl | (simp; done) | (simp [*]; done)), H', ⟨by have := HJ2.out; first | omega | exact Nat.le_refl _⟩, ⟨by (with_reducible repeat (first | apply Kd.R_alloc | apply Kd.R_drewN | apply Kd.R_drew)); exact Kd.R_mono HO925.out (fun _ hk => hk.2)⟩, ⟨by (with_reducible repeat (first | apply Kd.R_alloc | apply Kd.R_drewN | apply Kd.R_drew)); exact Kd.R_mono HO929.out (fun _ hk => hk.2)⟩, ⟨by repeat (first | (with_reducible first | exact HB.out | apply below_alloc | apply pw_below_drewN | apply below_drew1) | exact HB.out)⟩⟩
          · rw [if_neg c13] at H
            have c13b0 : (t927 != t923) = false := by simpa using c13
            (try (have c13b1 : decide (t927 = t923) = true := by simpa using c13))
            (try (have c13b2 : (t927 == t923) = true := by simpa using c13))
            clear c13
            (first | rw [c13b0] | (simp only [i64_w, i32_w]; rw [c13b0]) | skip)
            replace H := Option.bind_eq_some_iff.mp H
            obtain ⟨t930, A140, H⟩ := H
            replace H : (if t930 = true then (laws_FnTypeSum.j1 kj2 l1 t920 t922 t923 t926 t927 (!t927)) else (laws_FnTypeSum.j1 kj2 l1 t920 t922 t923 t926 t927 true)) = some r := H
            have A14 := Aside0.mk A140
            clear A140
            by_cases c15 : t930 = true
            · subst c15
              have H1 : (laws_FnTypeSum.j1 kj2 l1 t920 t922 t923 t926 t927 (!t927)) = some r := by rw [if_pos rfl] at H; exact H
              clear H
              have H := H1
              clear H1
              have H' := Aside0.mk H
              clear H
              obtain ⟨Ao16, co16, eo16⟩ := Kd.R_slice HO929.out
              subst eo16
              obtain ⟨Ao17, co17, eo17⟩ := Kd.R_slice HO925.out
              subst eo17
              go_wp2_with (first | (go_at_call 18; (with_reducible refine (laws_loInts.calls kj2 _ _ t926 _ _ t922 true _ ?side1 ?side2 ?side3 ?side4 A14.out).mono ?_); (case side1 => repeat (first | exact (Kd.R_reads' HO929.out).2.2 | (with_reducible refine Kd.C_alloc ?_ _) | (with_reducible refine Kd.C_drewN ?_ _) | (with_reducible refine Kd.C_drew ?_))); (case side2 => exact (Kd.R_reads' HO929.out).2.1); (case side3 => repeat (first | exact (Kd.R_reads' HO925.out).2.2 | (with_reducible refine Kd.C_alloc ?_ _) | (with_reducible refine Kd.C_drewN ?_ _) | (with_reducible refine Kd.C_drew ?_))); (case side4 => exact (Kd.R_reads' HO925.out).2.1); rintro e w' ⟨rfl, ⟨nd, rfl⟩⟩))
              go_meet
              case rel => exact ⟨_, (!t927), (by first | rfl | (simp; done) | (simp [*]; done)), H', ⟨by have := HJ2.out; first | omega | exact Nat.le_refl _⟩, ⟨by (with_reducible repeat (first | apply Kd.R_alloc | apply Kd.R_drewN | apply Kd.R_drew)); exact Kd.R_mono HO925.out (fun _ hk => hk.2)⟩, ⟨by (with_reducible repeat (first | apply Kd.R_alloc | apply Kd.R_drewN | apply Kd.R_drew)); exact Kd.R_mono HO929.out (fun _ hk => hk.2)⟩, ⟨by repeat (first | (with_reducible first | exact HB.out | apply below_alloc | apply pw_below_drewN | apply below_drew1) | exact HB.out)⟩⟩
            · replace c15 := Bool.eq_false_iff.mpr c15
              subst c15
              have H1 : (laws_FnTypeSum.j1 kj2 l1 t920 t922 t923 t926 t927 true) = some r := by rw [if_neg (show ¬ (false = true) by decide)] at H; exact H
              clear H
              have H := H1
              clear H1
              have H' := Aside0.mk H
              clear H
              obtain ⟨Ao18, co18, eo18⟩ := Kd.R_slice HO929.out
              subst eo18
              obtain ⟨Ao19, co19, eo19⟩ := Kd.R_slice HO925.out
              subst eo19
              go_wp2_with (first | (go_at_call 18; (with_reducible refine (laws_loInts.calls kj2 _ _ t926 _ _ t922 false _ ?side1 ?side2 ?side3 ?side4 A14.out).mono ?_); (case side1 => repeat (first | exact (Kd.R_reads' HO929.out).2.2 | (with_reducible refine Kd.C_alloc ?_ _) | (with_reducible refine Kd.C_drewN ?_ _) | (with_reducible refine Kd.C_drew ?_))); (case side2 => exact (Kd.R_reads' HO929.out).2.1); (case side3 => repeat (first | exact (Kd.R_reads' HO925.out).2.2 | (with_reducible refine Kd.C_alloc ?_ _) | (with_reducible refine Kd.C_drewN ?_ _) | (with_reducible refine Kd.C_drew ?_))); (case side4 => exact (Kd.R_reads' HO925.out).2.1); rintro e w' ⟨rfl, ⟨nd, rfl⟩⟩))
              go_meet
              case rel => exact ⟨_, (true), (by first | rfl | (simp; done) | (simp [*]; done)), H', ⟨by have := HJ2.out; first | omega | exact Nat.le_refl _⟩, ⟨by (with_reducible repeat (first | apply Kd.R_alloc | apply Kd.R_drewN | apply Kd.R_drew)); exact Kd.R_mono HO925.out (fun _ hk => hk.2)⟩, ⟨by (with_reducible repeat (first | apply Kd.R_alloc | apply Kd.R_drewN | apply Kd.R_drew)); exact Kd.R_mono HO929.out (fun _ hk => hk.2)⟩, ⟨by repeat (first | (with_reducible first | exact HB.out | apply below_alloc | apply pw_below_drewN | apply below_drew1) | exact HB.out)⟩⟩
        case rest =>
          clear HC9
          try clear c1
          try clear p2
          try clear c4
          try clear c4b0
          try clear c4b1
          try clear c5
          try clear c13
          try clear c13b0
          try clear c13b1
          try clear c13b2
          try clear c14
          try clear c15
          try clear p2
          obtain ⟨kq, x54_8, rfl, HA, HJ8, HO_7, HO_9, HB⟩ := hcut
          cases kq with
          | zero => exact absurd HA.out (by simp [laws_FnTypeSum.j1])
          | succ kj8 =>
            have H := HA.out
            clear HA
            simp only [laws_FnTypeSum.j1] at H
            by_cases c20 : x54_8 = true
            · subst c20
              have H1 : (if (t927 == t923) = true then ((laws_loInts.f kj8 t926 t922).bind fun t931 => (some t931)) else (some false)) = some r := by rw [if_pos rfl] at H; exact H
              clear H
              have H := H1
              clear H1
              by_cases c21 : (t927 == t923) = true
              · rw [if_pos c21] at H
                have c21b0 : (t927 == t923) = true := c21
                (try (have c21b1 : decide (t927 = t923) = true := by simpa using c21))
                (try (have c21b2 : (t927 == t923) = true := by simpa using c21))
                clear c21
                replace H := Option.bind_eq_some_iff.mp H
                obtain ⟨t931, A220, H⟩ := H
                replace H : (some t931) = some r := H
                have A22 := Aside0.mk A220
                clear A220
                obtain rfl := Option.some.inj H
                obtain ⟨Ao23, co23, eo23⟩ := Kd.R_slice HO_9.out
                subst eo23
                obtain ⟨Ao24, co24, eo24⟩ := Kd.R_slice HO_7.out
                subst eo24
                go_wp2_with (first | (go_at_call 18; (with_reducible refine (laws_loInts.calls kj8 _ _ t926 _ _ t922 t931 _ ?side1 ?side2 ?side3 ?side4 A22.out).mono ?_); (case side1 => repeat (first | exact (Kd.R_reads' HO_9.out).2.2 | (with_reducible refine Kd.C_alloc ?_ _) | (with_reducible refine Kd.C_drewN ?_ _) | (with_reducible refine Kd.C_drew ?_))); (case side2 => exact (Kd.R_reads' HO_9.out).2.1); (case side3 => repeat (first | exact (Kd.R_reads' HO_7.out).2.2 | (with_reducible refine Kd.C_alloc ?_ _) | (with_reducible refine Kd.C_drewN ?_ _) | (with_reducible refine Kd.C_drew ?_))); (case side4 => exact (Kd.R_reads' HO_7.out).2.1); rintro e w' ⟨rfl, ⟨nd, rfl⟩⟩))
                go_ret
                exact ⟨by first | rfl | (simp [errW_none, errW_some] <;> rfl) | (simp [*, errW_none, errW_some] <;> rfl), by repeat (first | (with_reducible first | exact HB.out | apply below_alloc | apply pw_below_drewN | apply below_drew1) | exact HB.out)⟩
              · rw [if_neg c21] at H
                have c21b0 : (t927 == t923) = false := by simpa using c21
                (try (have c21b1 : decide (t927 = t923) = false := by simpa using c21))
                (try (have c21b2 : (t927 == t923) = false := by simpa using c21))
                (try (have c21b3 : ¬ (t927 = t923) := by simpa using c21))
                clear c21
                obtain rfl := Option.some.inj H
                go_wp2
                go_ret
                exact ⟨by first | rfl | (simp [errW_none, errW_some] <;> rfl) | (simp [*, errW_none, errW_some] <;> rfl), by repeat (first | (with_reducible first | exact HB.out | apply below_alloc | apply pw_below_drewN | apply below_drew1) | exact HB.out)⟩
            · replace c20 := Bool.eq_false_iff.mpr c20
              subst c20
              have H1 : ((impl_TypeMake.f t920 ((l1.length : Int) % 2)).bind fun bt932 => ((impl_ShareSum.f t926 bt932.1).bind fun bt936 => (laws_FnTypeSum.l0 kj8 t926 bt932.1 bt936.1 bt936.2 0))) = some r := by rw [if_neg (show ¬ (false = true) by decide)] at H; exact H
              clear H
              have H := H1
              clear H1
              replace H := Option.bind_eq_some_iff.mp H
              obtain ⟨⟨t932, t933⟩, A250, H⟩ := H
              replace H : ((impl_ShareSum.f t926 t932).bind fun bt936 => (laws_FnTypeSum.l0 kj8 t926 t932 bt936.1 bt936.2 0)) = some r := H
              have A25 := Aside0.mk A250
              clear A250
              replace H := Option.bind_eq_some_iff.mp H
              obtain ⟨⟨t936, t937⟩, A260, H⟩ := H
              replace H : (laws_FnTypeSum.l0 kj8 t926 t932 t936 t937 0) = some r := H
              have A26 := Aside0.mk A260
              clear A260
              have H' := Aside0.mk H
              clear H
              go_wp2_with (first | ((with_reducible refine gate_callee (f := 43) rfl ?_); refine goesL_ (some 68) rfl rfl Twin.func43 (by kernel_rfl) rfl #[.int .i64 t920, .int .i64 ((l1.length : Int) % 2)] rfl (by (try simp only [List.map_toArray, List.map_cons, List.map_nil]); first | done | rfl | (simp only [List.length_drop, List.length_take]; rfl)) ?_; (with_reducible refine (impl_TypeMake.calls t920 ((l1.length : Int) % 2) t932 t933 _ A25.out).mono ?_); rintro e w27 ⟨v934, rfl, ho0, hb⟩; refine ⟨_, rfl, ?_⟩; have n0_ := Aside0.mk (Kd.R_elder' (by (with_reducible repeat (first | apply Kd.R_alloc | apply Kd.R_drewN | apply Kd.R_drew)); exact HO_7.out) (Kd.R_base ho0) hb); have n1_ := Aside0.mk (Kd.R_elder' (by (with_reducible repeat (first | apply Kd.R_alloc | apply Kd.R_drewN | apply Kd.R_drew)); exact HO_9.out) (Kd.R_base ho0) hb); have n2_ := Aside0.mk (Kd.R_lower (Kd.R_new' (Kd.R_new' ho0 (Kd.R_lt (by (with_reducible repeat (first | apply Kd.R_alloc | apply Kd.R_drewN | apply Kd.R_drew)); exact HO_7.out))) (Kd.R_lt (by (with_reducible repeat (first | apply Kd.R_alloc | apply Kd.R_drewN | apply Kd.R_drew)); exact HO_9.out))) (below_size (by repeat (first | (with_reducible first | exact HB.out | apply below_alloc | apply pw_below_drewN | apply below_drew1) | exact HB.out)))); have n3_ := Aside0.mk (below_step (by repeat (first | (with_reducible first | exact HB.out | apply below_alloc | apply pw_below_drewN | apply below_drew1) | exact HB.out)) hb); clear HO_7; clear HO_9; clear HB; have HO_7 := n0_; have HO_9 := n1_; have HO935 := n2_; have HB := n3_; clear n0_ n1_ n2_ n3_; (try clear hb); (try clear hb2); (try clear hk); (try clear hi); (try clear ho0); obtain ⟨Ao28, co28, eo28⟩ := Kd.R_slice HO_9.out; subst eo28; obtain ⟨Ao29, co29, eo29⟩ := Kd.R_slice HO935.out; subst eo29) | ((with_reducible refine gate_callee (f := 17) rfl ?_); refine goesL_ (some 74) rfl rfl Twin.func17 (by kernel_rfl) rfl #[.slice Ao28 t926.length co28, .slice Ao29 t932.length co29] rfl (by (try simp only [List.map_toArray, List.map_cons, List.map_nil]); first | done | rfl | (simp only [List.length_drop, List.length_take]; rfl)) ?_; (with_reducible refine (impl_ShareSum.calls _ _ t926 _ _ t932 t936 t937 _ ?side1 ?side2 ?side3 ?side4 A26.out).mono ?_); (case side1 => repeat (first | exact (Kd.R_reads' HO_9.out).2.2 | (with_reducible refine Kd.C_alloc ?_ _) | (with_reducible refine Kd.C_drewN ?_ _) | (with_reducible refine Kd.C_drew ?_))); (case side2 => exact (Kd.R_reads' HO_9.out).2.1); (case side3 => repeat (first | exact (Kd.R_reads' HO935.out).2.2 | (with_reducible refine Kd.C_alloc ?_ _) | (with_reducible refine Kd.C_drewN ?_ _) | (with_reducible refine Kd.C_drew ?_))); (case side4 => exact (Kd.R_reads' HO935.out).2.1); rintro e w30 ⟨v938, rfl, ho0, hb⟩; refine ⟨_, rfl, ?_⟩; have n0_ := Aside0.mk (Kd.R_elder' (by (with_reducible repeat (first | apply Kd.R_alloc | apply Kd.R_drewN | apply Kd.R_drew)); exact HO_7.out) (Kd.R_base ho0) hb); have n1_ := Aside0.mk (Kd.R_elder' (by (with_reducible repeat (first | apply Kd.R_alloc | apply Kd.R_drewN | apply Kd.R_drew)); exact HO_9.out) (Kd.R_base ho0) hb); have n2_ := Aside0.mk (Kd.R_elder' (by (with_reducible repeat (first | apply Kd.R_alloc | apply Kd.R_drewN | apply Kd.R_drew)); exact HO935.out) (Kd.R_base ho0) hb); have n3_ := Aside0.mk (Kd.R_lower (Kd.R_new' (Kd.R_new' (Kd.R_new' ho0 (Kd.R_lt (by (with_reducible repeat (first | apply Kd.R_alloc | apply Kd.R_drewN | apply Kd.R_drew)); exact HO_7.out))) (Kd.R_lt (by (with_reducible repeat (first | apply Kd.R_alloc | apply Kd.R_drewN | apply Kd.R_drew)); exact HO_9.out))) (Kd.R_lt (by (with_reducible repeat (first | apply Kd.R_alloc | apply Kd.R_drewN | apply Kd.R_drew)); exact HO935.out))) (below_size (by repeat (first | (with_reducible first | exact HB.out | apply below_alloc | apply pw_below_drewN | apply below_drew1) | exact HB.out)))); have n4_ := Aside0.mk (below_step (by repeat (first | (with_reducible first | exact HB.out | apply below_alloc | apply pw_below_drewN | apply below_drew1) | exact HB.out)) hb); clear HO_7; clear HO_9; clear HO935; clear HB; have HO_7 := n0_; have HO_9 := n1_; have HO935 := n2_; have HO939 := n3_; have HB := n4_; clear n0_ n1_ n2_ n3_ n4_; (try clear hb); (try clear hb2); (try clear hk); (try clear hi); (try clear ho0)))
              go_loopg [15] kj8 (fun kq v15 w' => ∃ (x15_3 : Int), v15 = .int .i64 x15_3 ∧ Aside0 (laws_FnTypeSum.l0 kq t926 t932 t936 t937 x15_3 = some r) ∧ Aside0 (kq ≤ kj8) ∧ Aside0 (Kd.R (Kd.int .i64) 3 w' w.heap.size (fun k_ => some k_ ≠ ((.slice Ao29 t932.length co29) : Value).ownBlock ∧ some k_ ≠ (v938 : Value).ownBlock) (.slice Ao28 t926.length co28) t926) ∧ Aside0 (Kd.R (Kd.int .i64) 3 w' w.heap.size (fun k_ => some k_ ≠ ((.slice Ao28 t926.length co28) : Value).ownBlock ∧ some k_ ≠ (v938 : Value).ownBlock) (.slice Ao29 t932.length co29) t932) ∧ Aside0 (Kd.R (Kd.int .i64) 3 w' w.heap.size (fun k_ => some k_ ≠ ((.slice Ao28 t926.length co28) : Value).ownBlock ∧ some k_ ≠ ((.slice Ao29 t932.length co29) : Value).ownBlock) v938 t936) ∧ Aside0 (Below w.heap.size w w'))
              case atStart => exact ⟨(0), (by first | rfl | (simp; done) | (simp [*]; done)), H', ⟨Nat.le_refl _⟩, ⟨by (with_reducible repeat (first | apply Kd.R_alloc | apply Kd.R_drewN | apply Kd.R_drew)); exact Kd.R_mono HO_9.out (fun _ hk => ⟨hk.1.2, hk.2⟩)⟩, ⟨by (with_reducible repeat (first | apply Kd.R_alloc | apply Kd.R_drewN | apply Kd.R_drew)); exact Kd.R_mono HO935.out (fun _ hk => ⟨hk.1.2, hk.2⟩)⟩, ⟨by (with_reducible repeat (first | apply Kd.R_alloc | apply Kd.R_drewN | apply Kd.R_drew)); exact Kd.R_mono HO939.out (fun _ hk => ⟨hk.1.2, hk.2⟩)⟩, ⟨by repeat (first | (with_reducible first | exact HB.out | apply below_alloc | apply pw_below_drewN | apply below_drew1) | exact HB.out)⟩⟩
              case round =>
                clear H'
                try clear c1
                try clear c2
                try clear p2
                try clear c4
                try clear c4b0
                try clear c4b1
                try clear c5
                try clear c13
                try clear c13b0
                try clear c13b1
                try clear c13b2
                try clear c14
                try clear c15
                try clear c17
                try clear c20
                try clear c21
                try clear c21b0
                try clear c21b1
                try clear c21b2
                try clear p2
                obtain ⟨x15_3, rfl, HA, HK3, HO_9, HO_11, HO_13, HB⟩ := hrel
                cases gk with
                | zero => exact absurd HA.out (by simp [laws_FnTypeSum.l0])
                | succ k3 =>
                  have H := HA.out
                  clear HA
                  simp only [laws_FnTypeSum.l0] at H
                  have HC31 := Aside0.mk H
                  clear H
                  go_upto_region 11 with (fail)
                  go_cut [83] (fun v83 wc => ∃ (kq : Nat) (x83_30 : Bool), v83 = .bool x83_30 ∧ Aside0 (laws_FnTypeSum.j3 kq t926 t932 t936 t937 x15_3 x83_30 = some r) ∧ Aside0 (kq ≤ k3) ∧ Aside0 (Kd.R (Kd.int .i64) 3 wc w.heap.size (fun k_ => some k_ ≠ ((.slice Ao29 t932.length co29) : Value).ownBlock ∧ some k_ ≠ (v938 : Value).ownBlock) (.slice Ao28 t926.length co28) t926) ∧ Aside0 (Kd.R (Kd.int .i64) 3 wc w.heap.size (fun k_ => some k_ ≠ ((.slice Ao28 t926.length co28) : Value).ownBlock ∧ some k_ ≠ (v938 : Value).ownBlock) (.slice Ao29 t932.length co29) t932) ∧ Aside0 (Kd.R (Kd.int .i64) 3 wc w.heap.size (fun k_ => some k_ ≠ ((.slice Ao28 t926.length co28) : Value).ownBlock ∧ some k_ ≠ ((.slice Ao29 t932.length co29) : Value).ownBlock) v938 t936) ∧ Aside0 (Below w.heap.size w wc))
                  case first =>
                    have H := HC31.out
                    clear HC31
                    by_cases c32 : t937 = true
                    · subst c32
                      have H1 : (laws_FnTypeSum.j3 k3 t926 t932 t936 true x15_3 (decide (x15_3 < (t936.length : Int)))) = some r := by rw [if_pos rfl] at H; exact H
                      clear H
                      have H := H1
                      clear H1
                      have H' := Aside0.mk H
                      clear H
                      obtain ⟨Ao33, co33, eo33⟩ := Kd.R_slice HO_13.out
                      subst eo33
                      go_wp2
                      go_meet
                      case rel => exact ⟨_, (decide (x15_3 < (t936.length : Int))), (by first | rfl | (simp; done) | (simp [*]; done)), H', ⟨by have := HJ2.out; have := HJ8.out; have := HK3.out; first | omega | exact Nat.le_refl _⟩, ⟨by (with_reducible repeat (first | apply Kd.R_alloc | apply Kd.R_drewN | apply Kd.R_drew)); exact HO_9.out⟩, ⟨by (with_reducible repeat (first | apply Kd.R_alloc | apply Kd.R_drewN | apply Kd.R_drew)); exact HO_11.out⟩, ⟨by (with_reducible repeat (first | apply Kd.R_alloc | apply Kd.R_drewN | apply Kd.R_drew)); exact HO_13.out⟩, ⟨by repeat (first | (with_reducible first | exact HB.out | apply below_alloc | apply pw_below_drewN | apply below_drew1) | exact HB.out)⟩⟩
                    · replace c32 := Bool.eq_false_iff.mpr c32
                      subst c32
                      have H1 : (laws_FnTypeSum.j3 k3 t926 t932 t936 false x15_3 false) = some r := by rw [if_neg (show ¬ (false = true) by decide)] at H; exact H
                      clear H
                      have H := H1
                      clear H1
                      have H' := Aside0.mk H
                      clear H
                      go_wp2
                      go_meet
                      case rel => exact ⟨_, (false), (by first | rfl | (simp; done) | (simp [*]; done)), H', ⟨by have := HJ2.out; have := HJ8.out; have := HK3.out; first | omega | exact Nat.le_refl _⟩, ⟨by (with_reducible repeat (first | apply Kd.R_alloc | apply Kd.R_drewN | apply Kd.R_drew)); exact HO_9.out⟩, ⟨by (with_reducible repeat (first | apply Kd.R_alloc | apply Kd.R_drewN | apply Kd.R_drew)); exact HO_11.out⟩, ⟨by (with_reducible repeat (first | apply Kd.R_alloc | apply Kd.R_drewN | apply Kd.R_drew)); exact HO_13.out⟩, ⟨by repeat (first | (with_reducible first | exact HB.out | apply below_alloc | apply pw_below_drewN | apply below_drew1) | exact HB.out)⟩⟩
                  case rest =>
                    clear HC31
                    try clear c1
                    try clear c2
                    try clear p2
                    try clear c3
                    try clear c4
                    try clear c4b0
                    try clear c4b1
                    try clear c5
                    try clear c13
                    try clear c13b0
                    try clear c13b1
                    try clear c13b2
                    try clear c14
                    try clear c15
                    try clear c17
                    try clear c20
                    try clear c21
                    try clear c21b0
                    try clear c21b1
                    try clear c21b2
                    try clear c32
                    try clear p2
                    obtain ⟨kq, x83_30, rfl, HA, HJ30, HO_9, HO_11, HO_13, HB⟩ := hcut
                    cases kq with
                    | zero => exact absurd HA.out (by simp [laws_FnTypeSum.j3])
                    | succ kj30 =>
                      have H := HA.out
                      clear HA
                      simp only [laws_FnTypeSum.j3] at H
                      by_cases c34 : x83_30 = true
                      · subst c34
                        have H1 : (if 0 ≤ x15_3 then (if x15_3 < (t926.length : Int) then (if (rd t926 x15_3) = 1 then (laws_FnTypeSum.j4 kj30 t926 t932 t936 t937 x15_3 (0 + 1)) else (laws_FnTypeSum.j4 kj30 t926 t932 t936 t937 x15_3 0)) else (none)) else (none)) = some r := by rw [if_pos rfl] at H; exact H
                        clear H
                        have H := H1
                        clear H1
                        by_cases c35 : 0 ≤ x15_3
                        · rw [if_pos c35] at H
                          have c35b0 : decide (0 ≤ x15_3) = true := decide_eq_true c35
                          clear c35
                          by_cases c36 : x15_3 < (t926.length : Int)
                          · rw [if_pos c36] at H
                            have c36b0 : decide (x15_3 < (t926.length : Int)) = true := decide_eq_true c36
                            clear c36
                            have HC37 := Aside0.mk H
                            clear H
                            have p940 : 0 ≤ (x15_3 : Int) := of_decide_eq_true (by first | (with_reducible assumption) | assumption)
                            have q940 : x15_3 < (t926.length : Int) := of_decide_eq_true (by first | (with_reducible assumption) | assumption)
                            obtain ⟨ad940, e940, hx940_0⟩ := Kd.at_int (Kd.R_reads' HO_9.out).2.2 x15_3 p940 q940
                            cases e940
                            replace p940 := eq_true p940
                            replace q940 := eq_true q940
                            go_upto_if 90 with (fail)
                            go_cut [16] (fun v16 wc => ∃ (kq : Nat) (x16_36 : Int), v16 = .int .i64 x16_36 ∧ Aside0 (laws_FnTypeSum.j4 kq t926 t932 t936 t937 x15_3 x16_36 = some r) ∧ Aside0 (kq ≤ kj30) ∧ Aside0 (Kd.R (Kd.int .i64) 3 wc w.heap.size (fun k_ => some k_ ≠ ((.slice Ao29 t932.length co29) : Value).ownBlock ∧ some k_ ≠ (v938 : Value).ownBlock) (.slice (some ad940) t926.length co28) t926) ∧ Aside0 (Kd.R (Kd.int .i64) 3 wc w.heap.size (fun k_ => some k_ ≠ ((.slice (some ad940) t926.length co28) : Value).ownBlock ∧ some k_ ≠ (v938 : Value).ownBlock) (.slice Ao29 t932.length co29) t932) ∧ Aside0 (Kd.R (Kd.int .i64) 3 wc w.heap.size (fun k_ => some k_ ≠ ((.slice (some ad940) t926.length co28) : Value).ownBlock ∧ some k_ ≠ ((.slice Ao29 t932.length co29) : Value).ownBlock) v938 t936) ∧ Aside0 (Below w.heap.size w wc))
                            case first =>
                              have H := HC37.out
                              clear HC37
                              by_cases c38 : (rd t926 x15_3) = 1
                              · rw [if_pos c38] at H
                                have c38b0 : ((rd t926 x15_3) == 1) = true := beq_iff_eq.mpr c38
                                have c38b1 : ((rd t926 x15_3) != 1) = false := bne_eq_false_iff_eq.mpr c38
                                clear c38
                                (first | rw [c38b0] | (simp only [i64_w, i32_w]; rw [c38b0]) | skip)
                                have H' := Aside0.mk H
                                clear H
                                go_wp2
                                go_meet
                                case rel => exact ⟨_, (0 + 1), (by first | rfl | (simp; done) | (simp [*]; done)), H', ⟨by have := HJ2.out; have := HJ8.out; have := HK3.out; have := HJ30.out; first | omega | exact Nat.le_refl _⟩, ⟨by (with_reducible repeat (first | apply Kd.R_alloc | apply Kd.R_drewN | apply Kd.R_drew)); exact HO_9.out⟩, ⟨by (with_reducible repeat (first | apply Kd.R_alloc | apply Kd.R_drewN | apply Kd.R_drew)); exact HO_11.out⟩, ⟨by (with_reducible repeat (first | apply Kd.R_alloc | apply Kd.R_drewN | apply Kd.R_drew)); exact HO_13.out⟩, ⟨by repeat (first | (with_reducible first | exact HB.out | apply below_alloc | apply pw_below_drewN | apply below_drew1) | exact HB.out)⟩⟩
                              · rw [if_neg c38] at H
                                have c38b0 : ((rd t926 x15_3) == 1) = false := beq_eq_false_iff_ne.mpr c38
                                have c38b1 : ((rd t926 x15_3) != 1) = true := bne_iff_ne.mpr c38
                                (first | rw [c38b0] | (simp only [i64_w, i32_w]; rw [c38b0]) | skip)
                                have H' := Aside0.mk H
                                clear H
                                go_wp2
                                go_meet
                                case rel => exact ⟨_, (0), (by first | rfl | (simp; done) | (simp [*]; done)), H', ⟨by have := HJ2.out; have := HJ8.out; have := HK3.out; have := HJ30.out; first | omega | exact Nat.le_refl _⟩, ⟨by (with_reducible repeat (first | apply Kd.R_alloc | apply Kd.R_drewN | apply Kd.R_drew)); exact HO_9.out⟩, ⟨by (with_reducible repeat (first | apply Kd.R_alloc | apply Kd.R_drewN | apply Kd.R_drew)); exact HO_11.out⟩, ⟨by (with_reducible repeat (first | apply Kd.R_alloc | apply Kd.R_drewN | apply Kd.R_drew)); exact HO_13.out⟩, ⟨by repeat (first | (with_reducible first | exact HB.out | apply below_alloc | apply pw_below_drewN | apply below_drew1) | exact HB.out)⟩⟩
                            case rest =>
                              clear HC37
                              try clear c1
                              try clear c2
                              try clear p2
                              try clear c3
                              try clear c4
                              try clear c4b0
                              try clear c4b1
                              try clear c5
                              try clear p9
                              try clear q9
                              try clear hx9
                              try clear c13
                              try clear c13b0
                              try clear c13b1
                              try clear c13b2
                              try clear c14
                              try clear c15
                              try clear c17
                              try clear c20
                              try clear c21
                              try clear c21b0
                              try clear c21b1
                              try clear c21b2
                              try clear c32
                              try clear c34
                              try clear c35
                              try clear c35b0
                              try clear c36
                              try clear c36b0
                              try clear c38
                              try clear c38b0
                              try clear c38b1
                              try clear hx940_0
                              try clear p2
                              try clear p940
                              try clear q940
                              obtain ⟨kq, x16_36, rfl, HA, HJ36, HO_9, HO_11, HO_13, HB⟩ := hcut
                              cases kq with
                              | zero => exact absurd HA.out (by simp [laws_FnTypeSum.j4])
                              | succ kj36 =>
                                have H := HA.out
                                clear HA
                                simp only [laws_FnTypeSum.j4] at H
                                by_cases c39 : 0 ≤ x15_3
                                · rw [if_pos c39] at H
                                  have c39b0 : decide (0 ≤ x15_3) = true := decide_eq_true c39
                                  clear c39
                                  by_cases c40 : x15_3 < (t932.length : Int)
                                  · rw [if_pos c40] at H
                                    have c40b0 : decide (x15_3 < (t932.length : Int)) = true := decide_eq_true c40
                                    clear c40
                                    by_cases c41 : (rd t932 x15_3) = 1
                                    · rw [if_pos c41] at H
                                      have c41b0 : ((rd t932 x15_3) == 1) = true := beq_iff_eq.mpr c41
                                      have c41b1 : ((rd t932 x15_3) != 1) = false := bne_eq_false_iff_eq.mpr c41
                                      clear c41
                                      by_cases c42 : x15_3 < (t936.length : Int)
                                      · rw [if_pos c42] at H
                                        have c42b0 : decide (x15_3 < (t936.length : Int)) = true := decide_eq_true c42
                                        clear c42
                                        by_cases c43 : (rd t936 x15_3) = (wrap64 (x16_36 + 1))
                                        · rw [if_pos c43] at H
                                          have c43b0 : ((rd t936 x15_3) == (wrap64 (x16_36 + 1))) = true := beq_iff_eq.mpr c43
                                          have c43b1 : ((rd t936 x15_3) != (wrap64 (x16_36 + 1))) = false := bne_eq_false_iff_eq.mpr c43
                                          clear c43
                                          have H' := Aside0.mk H
                                          clear H
                                          have p941 : 0 ≤ (x15_3 : Int) := of_decide_eq_true (by first | (with_reducible assumption) | assumption)
                                          have q941 : x15_3 < (t932.length : Int) := of_decide_eq_true (by first | (with_reducible assumption) | assumption)
                                          obtain ⟨ad941, e941, hx941_0⟩ := Kd.at_int (Kd.R_reads' HO_11.out).2.2 x15_3 p941 q941
                                          cases e941
                                          replace p941 := eq_true p941
                                          replace q941 := eq_true q941
                                          obtain ⟨Ao44, co44, eo44⟩ := Kd.R_slice HO_13.out
                                          subst eo44
                                          have p942 : 0 ≤ (x15_3 : Int) := of_decide_eq_true (by first | (with_reducible assumption) | assumption)
                                          have q942 : x15_3 < (t936.length : Int) := of_decide_eq_true (by first | (with_reducible assumption) | assumption)
                                          obtain ⟨ad942, e942, hx942_0⟩ := Kd.at_int (Kd.R_reads' HO_13.out).2.2 x15_3 p942 q942
                                          cases e942
                                          replace p942 := eq_true p942
                                          replace q942 := eq_true q942
                                          go_wp2
                                          go_roundg kj36
                                          case measure => have := HJ2.out; have := HJ8.out; have := HK3.out; have := HJ30.out; have := HJ36.out; omega
                                          case rel => exact ⟨(wrap64 (x15_3 + 1)), (by first | rfl | (simp; done) | (simp [*]; done)), H', ⟨by have := HJ2.out; have := HJ8.out; have := HK3.out; have := HJ30.out; have := HJ36.out; omega⟩, ⟨by (with_reducible repeat (first | apply Kd.R_alloc | apply Kd.R_drewN | apply Kd.R_drew)); exact HO_9.out⟩, ⟨by (with_reducible repeat (first | apply Kd.R_alloc | apply Kd.R_drewN | apply Kd.R_drew)); exact HO_11.out⟩, ⟨by (with_reducible repeat (first | apply Kd.R_alloc | apply Kd.R_drewN | apply Kd.R_drew)); exact HO_13.out⟩, ⟨by repeat (first | (with_reducible first | exact HB.out | apply below_alloc | apply pw_below_drewN | apply below_drew1) | exact HB.out)⟩⟩
                                        · rw [if_neg c43] at H
                                          have c43b0 : ((rd t936 x15_3) == (wrap64 (x16_36 + 1))) = false := beq_eq_false_iff_ne.mpr c43
                                          have c43b1 : ((rd t936 x15_3) != (wrap64 (x16_36 + 1))) = true := bne_iff_ne.mpr c43
                                          obtain rfl := Option.some.inj H
                                          have p941 : 0 ≤ (x15_3 : Int) := of_decide_eq_true (by first | (with_reducible assumption) | assumption)
                                          have q941 : x15_3 < (t932.length : Int) := of_decide_eq_true (by first | (with_reducible assumption) | assumption)
                                          obtain ⟨ad941, e941, hx941_0⟩ := Kd.at_int (Kd.R_reads' HO_11.out).2.2 x15_3 p941 q941
                                          cases e941
                                          replace p941 := eq_true p941
                                          replace q941 := eq_true q941
                                          obtain ⟨Ao45, co45, eo45⟩ := Kd.R_slice HO_13.out
                                          subst eo45
                                          have p942 : 0 ≤ (x15_3 : Int) := of_decide_eq_true (by first | (with_reducible assumption) | assumption)
                                          have q942 : x15_3 < (t936.length : Int) := of_decide_eq_true (by first | (with_reducible assumption) | assumption)
                                          obtain ⟨ad942, e942, hx942_0⟩ := Kd.at_int (Kd.R_reads' HO_13.out).2.2 x15_3 p942 q942
                                          cases e942
                                          replace p942 := eq_true p942
                                          replace q942 := eq_true q942
                                          go_wp2
                                          go_ret
                                          exact ⟨by first | rfl | (simp [errW_none, errW_some] <;> rfl) | (simp [*, errW_none, errW_some] <;> rfl), by repeat (first | (with_reducible first | exact HB.out | apply below_alloc | apply pw_below_drewN | apply below_drew1) | exact HB.out)⟩
                                      · rw [if_neg c42] at H
                                        exact absurd H (by simp)
                                    · rw [if_neg c41] at H
                                      have c41b0 : ((rd t932 x15_3) == 1) = false := beq_eq_false_iff_ne.mpr c41
                                      have c41b1 : ((rd t932 x15_3) != 1) = true := bne_iff_ne.mpr c41
                                      by_cases c46 : x15_3 < (t936.length : Int)
                                      · rw [if_pos c46] at H
                                        have c46b0 : decide (x15_3 < (t936.length : Int)) = true := decide_eq_true c46
                                        clear c46
                                        by_cases c47 : (rd t936 x15_3) = x16_36
                                        · rw [if_pos c47] at H
                                          have c47b0 : ((rd t936 x15_3) == x16_36) = true := beq_iff_eq.mpr c47
                                          have c47b1 : ((rd t936 x15_3) != x16_36) = false := bne_eq_false_iff_eq.mpr c47
                                          clear c47
                                          have H' := Aside0.mk H
                                          clear H
                                          have p941 : 0 ≤ (x15_3 : Int) := of_decide_eq_true (by first | (with_reducible assumption) | assumption)
                                          have q941 : x15_3 < (t932.length : Int) := of_decide_eq_true (by first | (with_reducible assumption) | assumption)
                                          obtain ⟨ad941, e941, hx941_0⟩ := Kd.at_int (Kd.R_reads' HO_11.out).2.2 x15_3 p941 q941
                                          cases e941
                                          replace p941 := eq_true p941
                                          replace q941 := eq_true q941
                                          obtain ⟨Ao48, co48, eo48⟩ := Kd.R_slice HO_13.out
                                          subst eo48
                                          have p943 : 0 ≤ (x15_3 : Int) := of_decide_eq_true (by first | (with_reducible assumption) | assumption)
                                          have q943 : x15_3 < (t936.length : Int) := of_decide_eq_true (by first | (with_reducible assumption) | assumption)
                                          obtain ⟨ad943, e943, hx943_0⟩ := Kd.at_int (Kd.R_reads' HO_13.out).2.2 x15_3 p943 q943
                                          cases e943
                                          replace p943 := eq_true p943
                                          replace q943 := eq_true q943
                                          go_wp2
                                          go_roundg kj36
                                          case measure => have := HJ2.out; have := HJ8.out; have := HK3.out; have := HJ30.out; have := HJ36.out; omega
                                          case rel => exact ⟨(wrap64 (x15_3 + 1)), (by first | rfl | (simp; done) | (simp [*]; done)), H', ⟨by have := HJ2.out; have := HJ8.out; have := HK3.out; have := HJ30.out; have := HJ36.out; omega⟩, ⟨by (with_reducible repeat (first | apply Kd.R_alloc | apply Kd.R_drewN | apply Kd.R_drew)); exact HO_9.out⟩, ⟨by (with_reducible repeat (first | apply Kd.R_alloc | apply Kd.R_drewN | apply Kd.R_drew)); exact HO_11.out⟩, ⟨by (with_reducible repeat (first | apply Kd.R_alloc | apply Kd.R_drewN | apply Kd.R_drew)); exact HO_13.out⟩, ⟨by repeat (first | (with_reducible first | exact HB.out | apply below_alloc | apply pw_below_drewN | apply below_drew1) | exact HB.out)⟩⟩
                                        · rw [if_neg c47] at H
                                          have c47b0 : ((rd t936 x15_3) == x16_36) = false := beq_eq_false_iff_ne.mpr c47
                                          have c47b1 : ((rd t936 x15_3) != x16_36) = true := bne_iff_ne.mpr c47
                                          obtain rfl := Option.some.inj H
                                          have p941 : 0 ≤ (x15_3 : Int) := of_decide_eq_true (by first | (with_reducible assumption) | assumption)
                                          have q941 : x15_3 < (t932.length : Int) := of_decide_eq_true (by first | (with_reducible assumption) | assumption)
                                          obtain ⟨ad941, e941, hx941_0⟩ := Kd.at_int (Kd.R_reads' HO_11.out).2.2 x15_3 p941 q941
                                          cases e941
                                          replace p941 := eq_true p941
                                          replace q941 := eq_true q941
                                          obtain ⟨Ao49, co49, eo49⟩ := Kd.R_slice HO_13.out
                                          subst eo49
                                          have p943 : 0 ≤ (x15_3 : Int) := of_decide_eq_true (by first | (with_reducible assumption) | assumption)
                                          have q943 : x15_3 < (t936.length : Int) := of_decide_eq_true (by first | (with_reducible assumption) | assumption)
                                          obtain ⟨ad943, e943, hx943_0⟩ := Kd.at_int (Kd.R_reads' HO_13.out).2.2 x15_3 p943 q943
                                          cases e943
                                          replace p943 := eq_true p943
                                          replace q943 := eq_true q943
                                          go_wp2
                                          go_ret
                                          exact ⟨by first | rfl | (simp [errW_none, errW_some] <;> rfl) | (simp [*, errW_none, errW_some] <;> rfl), by repeat (first | (with_reducible first | exact HB.out | apply below_alloc | apply pw_below_drewN | apply below_drew1) | exact HB.out)⟩
                                      · rw [if_neg c46] at H
                                        exact absurd H (by simp)
                                  · rw [if_neg c40] at H
                                    exact absurd H (by simp)
                                · rw [if_neg c39] at H
                                  exact absurd H (by simp)
                          · rw [if_neg c36] at H
                            exact absurd H (by simp)
                        · rw [if_neg c35] at H
                          exact absurd H (by simp)
                      · replace c34 := Bool.eq_false_iff.mpr c34
                        subst c34
                        have H1 : (some t937) = some r := by rw [if_neg (show ¬ (false = true) by decide)] at H; exact H
                        clear H
                        have H := H1
                        clear H1
                        obtain rfl := Option.some.inj H
                        go_wp2
                        go_ret
                        exact ⟨by first | rfl | (simp [errW_none, errW_some] <;> rfl) | (simp [*, errW_none, errW_some] <;> rfl), by repeat (first | (with_reducible first | exact HB.out | apply below_alloc | apply pw_below_drewN | apply below_drew1) | exact HB.out)⟩
/-- THE ONE PURE STATEMENT of laws_FnTypeSum: yours. -/
def laws_FnTypeSum.Pure : Prop := ∀ (l0 : List Int) (l1 : List Int), l0.length ≤ maxLen → l0.length * 1 ≤ 140737488351232 → (∀ x ∈ l0, (Lit.int .u8 x).wf = true) → l1.length ≤ maxLen → l1.length * 1 ≤ 140737488351232 → (∀ x ∈ l1, (Lit.int .u8 x).wf = true) → ∃ k, laws_FnTypeSum.f k l0 l1 = some true
theorem laws_FnTypeSum.walk (P : laws_FnTypeSum.Pure) (a0 : Option Addr) (len0 cap0 : Nat) (z0 : List Int) (a1 : Option Addr) (len1 cap1 : Nat) (z1 : List Int) (w : World) (w0 : (a0 = none ∧ len0 = 0 ∧ cap0 = 0 ∧ z0 = []) ∨ ∃ x, a0 = some x ∧ len0 ≤ cap0 ∧ cap0 ≤ maxLen ∧ z0.length = cap0 ∧ (∀ i, i < z0.length → w.cell? (x.add i) = some (.int .u8 (z0.getD i 0))) ∧ ∀ n ∈ z0, (Lit.int .u8 n).wf = true) (y0 : len0 * 1 ≤ 140737488351232) (w1 : (a1 = none ∧ len1 = 0 ∧ cap1 = 0 ∧ z1 = []) ∨ ∃ x, a1 = some x ∧ len1 ≤ cap1 ∧ cap1 ≤ maxLen ∧ z1.length = cap1 ∧ (∀ i, i < z1.length → w.cell? (x.add i) = some (.int .u8 (z1.getD i 0))) ∧ ∀ n ∈ z1, (Lit.int .u8 n).wf = true) (y1 : len1 * 1 ≤ 140737488351232) :
    Calls Twin.prog 14 #[.slice a0 len0 cap0, .slice a1 len1 cap1] w fun e w' => e = .returned (.bool true) ∧ Below w.heap.size w w' := by
  obtain ⟨l0, rfl, hr0, hm0, hw0, hc0⟩ := ReadsInt.ofRowC w0
  obtain ⟨l1, rfl, hr1, hm1, hw1, hc1⟩ := ReadsInt.ofRowC w1
  obtain ⟨k, h⟩ := P l0 l1 hm0 y0 hw0 hm1 y1 hw1
  refine (laws_FnTypeSum.calls k _ _ l0 _ _ l1 true w (Kd.C_of_reads (d := (0 : Int)) (h1 := fun _ => rfl) hr0) hc0 (Kd.C_of_reads (d := (0 : Int)) (h1 := fun _ => rfl) hr1) hc1 h).mono ?_
  rintro e w' ⟨rfl, hd⟩
  exact ⟨rfl, hd⟩
end Go.Proofs.Ytcdnmnipaaooiaa.P
end

section
namespace Go.Proofs.Ytcdnmnipaaooiaa.P
open Go.RowKit Go.Proofs.Ytcdnmnipaaooiaa.Num
/-- The value of a polynomial, over the whole numbers. -/
def ev : List Int → Int → Int
  | [], _ => 0
  | c :: l, x => c + x * ev l x
def cof (l : List Int) (j : Nat) : Int := l.getD j 0
/-- Coefficient j of the product. -/
def S : List Int → List Int → Nat → Int
  | [], _, _ => 0
  | x :: a, b, j => x * cof b j + match j with | 0 => 0 | j + 1 => S a b j
/-- What is left of a polynomial, one root taken out. -/
def quo (r : Int) : List Int → List Int
  | [] => []
  | [_] => []
  | _ :: c :: l => ev (c :: l) r :: quo r (c :: l)
/-- How many of the numbers from s on, d of them, p holds of. -/
def cntN (p : Nat → Bool) : Nat → Nat → Nat
  | _, 0 => 0
  | s, d + 1 => (if p s then 1 else 0) + cntN p (s + 1) d
/-- The roots among the numbers of the field. -/
def roots (l : List Int) (d : Nat) : Nat := cntN (fun i => decide (ev l (i : Int) % 31 = 0)) 0 d
end Go.Proofs.Ytcdnmnipaaooiaa.P
end

section
namespace Go.Proofs.Ytcdnmnipaaooiaa.P
open Go.RowKit Go.Proofs.Ytcdnmnipaaooiaa.Num Go.Proofs.YtcdnmnipaaooiaaW.PrintWords
/-- What an Ev gives at one number of rounds, and from there on. -/
theorem Ev.at_ {α : Type} {g : Nat → Option α} {r : α} (h : Ev g r) : ∃ K, ∀ k, K ≤ k → g k = some r := h
theorem rd_nat (l : List Int) (i : Nat) : rd l (i : Int) = l.getD i 0 := rfl
theorem rd_lt {l : List Int} {i : Nat} (h : i < l.length) : rd l (i : Int) = l[i] := by simp [rd_nat, List.getD_eq_getElem?_getD, List.getElem?_eq_getElem h]
/-- Two lists of one length are the same from i on. -/
theorem drop_eq {a b : List Int} {i : Nat} (ha : i < a.length) (hb : i < b.length) : a.drop i = b.drop i ↔ a[i] = b[i] ∧ a.drop (i + 1) = b.drop (i + 1) := by
  rw [List.drop_eq_getElem_cons ha, List.drop_eq_getElem_cons hb, List.cons.injEq]
theorem loInts_loop (a b : List Int) (hl : a.length = b.length) (hm : a.length < 1099511627776) (d : Nat) : ∀ i : Nat, i + d = a.length → Ev (fun k => laws_loInts.l0 k a b (i : Int)) (decide (a.drop i = b.drop i)) := by
  induction d with
  | zero =>
    intro i hi
    refine ⟨1, fun k hk => ?_⟩
    obtain ⟨k, rfl⟩ : ∃ m, k = m + 1 := ⟨k - 1, by omega⟩
    simp only [laws_loInts.l0]
    rw [if_neg (by omega), List.drop_of_length_le (by omega), List.drop_of_length_le (by omega)]
    simp
  | succ d ih =>
    intro i hi
    have hia : i < a.length := by omega
    have hib : i < b.length := by omega
    obtain ⟨K, h⟩ := ih (i + 1) (by omega)
    refine ⟨K + 1, fun k hk => ?_⟩
    obtain ⟨k, rfl⟩ : ∃ m, k = m + 1 := ⟨k - 1, by omega⟩
    simp only [laws_loInts.l0]
    rw [if_pos (by omega), if_pos (by omega), if_pos (by omega), rd_lt hia, rd_lt hib, w64 (by omega)]
    by_cases e : a[i] = b[i]
    · rw [if_pos e]
      refine (h k (by omega)).trans ?_
      simp [drop_eq hia hib, e]
    · rw [if_neg e]
      simp [drop_eq hia hib, e]
theorem loInts_ev (a b : List Int) (hm : a.length < 1099511627776) : Ev (fun k => laws_loInts.f k a b) (decide (a = b)) := by
  unfold laws_loInts.f
  by_cases hl : a.length = b.length
  · obtain ⟨K, h⟩ := loInts_loop a b hl hm a.length 0 (by omega)
    exact ⟨K, fun k hk => by dsimp only; rw [if_pos (by omega)]; exact h k hk⟩
  · exact ⟨0, fun k _ => by dsimp only; rw [if_neg (by omega)]; simp; intro e; exact hl (by rw [e])⟩
end Go.Proofs.Ytcdnmnipaaooiaa.P
end

section
namespace Go.Proofs.Ytcdnmnipaaooiaa.P
open Go.RowKit Go.Proofs.Ytcdnmnipaaooiaa.Num Go.Proofs.YtcdnmnipaaooiaaW.PrintWords
set_option linter.unusedSimpArgs false
def kindI (k : Int) : Bool := decide (1 ≤ k ∧ k ≤ 3)
theorem sKind (a : Int) : spec_l11Kind.f a = some (kindI a) := by
  unfold spec_l11Kind.f spec_l6In.f kindI
  by_cases h : a ≥ 1
  · rw [if_pos h]; simp [h]
  · rw [if_neg h]; simp; omega
theorem kindI_iff {a : Int} : kindI a = true ↔ a = 1 ∨ a = 2 ∨ a = 3 := by unfold kindI; simp; omega
/-- The lists of a kind, in the order of their values. -/
def encs (a : Int) : List (List Int) := if a = 1 then [[0], [1]] else if a = 2 then [[1, 0, 0, 0], [0, 1, 0, 0], [0, 0, 1, 0], [0, 0, 0, 1]] else if a = 3 then [[0, 0, 0], [1, 0, 0], [0, 1, 0], [1, 1, 0], [0, 0, 1], [1, 0, 1], [0, 1, 1], [1, 1, 1]] else []
theorem encs_few (a : Int) : (encs a).length ≤ 8 := by unfold encs; (repeat' split) <;> simp
def mostI (a : Int) : Int := (encs a).length - 1
theorem encI_no {a v : Int} (h : kindI a = false) : encI a v = none := by
  have : ¬ (a = 1 ∨ a = 2 ∨ a = 3) := fun h' => by rw [kindI_iff.2 h'] at h; cases h
  unfold encI; rw [if_neg (by omega), if_neg (by omega), if_neg (by omega)]
theorem encI_out {a v : Int} (h : ¬ (0 ≤ v ∧ v ≤ mostI a)) : encI a v = none := by
  cases hk : kindI a
  · exact encI_no hk
  · rcases kindI_iff.1 hk with rfl | rfl | rfl
    · have : mostI 1 = 1 := rfl
      unfold encI; rw [if_neg (by omega), if_neg (by omega), if_neg (by omega)]
    · have : mostI 2 = 3 := rfl
      unfold encI; rw [if_neg (by omega), if_neg (by omega), if_neg (by omega)]
    · have : mostI 3 = 7 := rfl
      unfold encI; rw [if_neg (by omega), if_neg (by omega), if_neg (by omega)]
theorem small_cases {v n : Int} (h : 0 ≤ v ∧ v ≤ n) (hn : n ≤ 7) : v = 0 ∨ v = 1 ∨ v = 2 ∨ v = 3 ∨ v = 4 ∨ v = 5 ∨ v = 6 ∨ v = 7 := by omega
theorem sMost {a : Int} (h : kindI a = true) : spec_l11Most.f a = some (mostI a) := by
  rcases kindI_iff.1 h with rfl | rfl | rfl <;> rfl
theorem sIn (a b c : Int) : spec_l6In.f a b c = some (decide (b ≤ a ∧ a ≤ c)) := by
  unfold spec_l6In.f
  by_cases h : a ≥ b
  · rw [if_pos h]; simp [h]
  · rw [if_neg h]; simp; omega
theorem sMake {a v : Int} (h : kindI a = true) (hv : 0 ≤ v ∧ v ≤ mostI a) : ∃ l, encI a v = some l ∧ Ev (fun k => spec_l11Make.f k a v) l := by
  have hm : mostI a ≤ 7 := by have := encs_few a; unfold mostI; omega
  have hc := small_cases hv hm
  suffices ∃ l, encI a v = some l ∧ spec_l11Make.f 20 a v = some l by
    obtain ⟨l, h1, h2⟩ := this
    exact ⟨l, h1, 20, fun k hk => at_rounds (g := fun k => spec_l11Make.f k a v) (spec_l11Make.mono a v) hk h2⟩
  rcases kindI_iff.1 h with rfl | rfl | rfl <;> rcases hc with rfl | rfl | rfl | rfl | rfl | rfl | rfl | rfl <;> first | exact absurd hv (by decide) | exact ⟨_, rfl, by decide +kernel⟩
theorem sTypeMake (a v : Int) : Ev (fun k => spec_TypeMake.f k a v) (encR a v) := by
  unfold spec_TypeMake.f
  cases hk : kindI a
  · exact ⟨0, fun k _ => by dsimp only; rw [sKind, hk, encR_none (encI_no hk)]; rfl⟩
  · by_cases hv : 0 ≤ v ∧ v ≤ mostI a
    · obtain ⟨l, h1, K, h2⟩ := sMake hk hv
      refine ⟨K, fun k h => ?_⟩
      dsimp only
      rw [sKind, hk, sMost hk]
      simp only [Option.bind_some, if_true]
      rw [sIn, decide_eq_true hv]
      simp only [Option.bind_some, if_true]
      have := h2 k h
      dsimp only at this
      rw [this, encR_some h1]; rfl
    · refine ⟨0, fun k h => ?_⟩
      dsimp only
      rw [sKind, hk, sMost hk]
      simp only [Option.bind_some, if_true]
      rw [sIn, decide_eq_false hv, encR_none (encI_out hv)]; rfl
/-- The first place of l in L, counted from v; if it stands there. -/
def find (l : List Int) : List (List Int) → Int → Int × Bool
  | [], _ => (0, false)
  | c :: L, v => if c = l then (v, true) else find l L (v + 1)
end Go.Proofs.Ytcdnmnipaaooiaa.P
end

section
namespace Go.Proofs.Ytcdnmnipaaooiaa.P
open Go.RowKit Go.Proofs.Ytcdnmnipaaooiaa.Num Go.Proofs.YtcdnmnipaaooiaaW.PrintWords
/-- A code's bytes. -/
def Bytes (l : List Int) : Prop := ∀ x ∈ l, 0 ≤ x ∧ x ≤ 255
theorem bytes_of {l : List Int} (h : ∀ x ∈ l, (Lit.int .u8 x).wf = true) : Bytes l := fun x hx => bounds_u8 (h x hx)
theorem Bytes.take {l : List Int} (h : Bytes l) (n : Nat) : Bytes (l.take n) := fun x hx => h x (List.mem_of_mem_take hx)
theorem Bytes.rd {l : List Int} (h : Bytes l) (i : Int) : 0 ≤ rd l i ∧ rd l i ≤ 255 := by
  unfold Go.Proofs.YtcdnmnipaaooiaaW.PrintWords.rd
  rw [List.getD_eq_getElem?_getD]
  cases e : l[i.toNat]? with
  | none => simp
  | some x => exact h x (List.mem_of_getElem? e)
/-- The reader, behind its opening: it has not read much. -/
structure Rd (l : List Int) (p : Int) : Prop where
  bytes : Bytes l
  len : l.length ≤ 2000
  lo : 0 ≤ p
  hi : p ≤ 1000000
theorem open_ev {l : List Int} (h : Bytes l) : ∃ b, spec_l6Open.f l = some (b, 0) ∧ Bytes b ∧ b.length ≤ 2000 := by
  unfold spec_l6Open.f
  by_cases hl : (l.length : Int) > 2000
  · rw [if_pos hl, if_pos (by omega)]
    exact ⟨_, rfl, h.take _, by simp; omega⟩
  · rw [if_neg hl]
    exact ⟨_, rfl, h, by omega⟩
theorem pick_ev {l : List Int} {p n : Int} (h : Rd l p) (hn : 1 ≤ n ∧ n ≤ 1000000) :
    ∃ v, (∀ k, 1 ≤ k → spec_l6Rd_pick.f k l p n = some (v, p + 1)) ∧ 0 ≤ v ∧ v < n := by
  obtain ⟨hb, hl, h0, h1⟩ := h
  unfold spec_l6Rd_pick.f
  rw [w64 (n := p + 1) (by omega)]
  simp only [show ¬ n < 1 by omega, if_false]
  by_cases e : l.length = 0
  · refine ⟨0, fun k hk => ?_, by omega, by omega⟩
    obtain ⟨k, rfl⟩ : ∃ m, k = m + 1 := ⟨k - 1, by omega⟩
    simp [spec_l6Rd_pick.j0, e]
  · have e' : ((l.length : Int) == 0) = false := by rw [beq_eq_false_iff_ne]; omega
    rw [e']
    have w1 : wrap64 (p + 1 - 1) = p := by rw [w64 (by omega)]; omega
    by_cases hp : p < (l.length : Int)
    · have hr := hb.rd p
      refine ⟨rd l p % n, fun k hk => ?_, Int.emod_nonneg _ (by omega), Int.emod_lt_of_pos _ (by omega)⟩
      obtain ⟨k, rfl⟩ : ∃ m, k = m + 1 := ⟨k - 1, by omega⟩
      simp only [spec_l6Rd_pick.j0, Bool.false_eq_true, if_false]
      rw [w1, if_pos hp, if_pos h0, if_neg (by omega), w64 (n := rd l p) (by omega), tmod_pos (by omega)]
    · have q1 : Int.tmod p (l.length : Int) = p % (l.length : Int) := tmod_pos h0
      have q2 : wrap64 (wrap64 (p * 7) + 3) = p * 7 + 3 := by rw [w64 (n := p * 7) (by omega), w64 (by omega)]
      have q3 : Int.tmod (p * 7 + 3) (l.length : Int) = (p * 7 + 3) % (l.length : Int) := tmod_pos (by omega)
      have b1 := Int.emod_nonneg p (b := (l.length : Int)) (by omega)
      have b2 := Int.emod_lt_of_pos p (b := (l.length : Int)) (by omega)
      have b3 := Int.emod_nonneg (p * 7 + 3) (b := (l.length : Int)) (by omega)
      have b4 := Int.emod_lt_of_pos (p * 7 + 3) (b := (l.length : Int)) (by omega)
      have r1 := hb.rd (p % (l.length : Int))
      have r2 := hb.rd ((p * 7 + 3) % (l.length : Int))
      have d1 : Int.tdiv p (l.length : Int) = p / (l.length : Int) := Int.tdiv_eq_ediv_of_nonneg h0
      have d2 : 0 ≤ p / (l.length : Int) := Int.ediv_nonneg h0 (by omega)
      have d3 : p / (l.length : Int) ≤ p := Int.ediv_le_self _ h0
      obtain ⟨X, hX⟩ : ∃ X, rd l (p % (l.length : Int)) * 131 + rd l ((p * 7 + 3) % (l.length : Int)) * 1117 + p * 29 + p / (l.length : Int) * 53 = X := ⟨_, rfl⟩
      have hx0 : 0 ≤ X ∧ X ≤ 1000000000 := by omega
      have hxx : wrap64 (wrap64 (wrap64 (wrap64 (wrap64 (rd l (p % (l.length : Int))) * 131) + wrap64 (wrap64 (rd l ((p * 7 + 3) % (l.length : Int))) * 1117)) + wrap64 (p * 29)) + wrap64 (wrap64 (p / (l.length : Int)) * 53)) = X := by
        rw [w64 (n := rd l (p % (l.length : Int))) (by omega), w64 (n := rd l ((p * 7 + 3) % (l.length : Int))) (by omega), w64 (n := rd l (p % (l.length : Int)) * 131) (by omega), w64 (n := rd l ((p * 7 + 3) % (l.length : Int)) * 1117) (by omega), w64 (n := p * 29) (by omega), w64 (n := p / (l.length : Int)) (by omega), w64 (n := p / (l.length : Int) * 53) (by omega), w64 (n := rd l (p % (l.length : Int)) * 131 + _) (by omega), w64 (n := rd l (p % (l.length : Int)) * 131 + _ + _) (by omega), w64 (by omega)]
        exact hX
      have hd : wrap64 (Int.tdiv X 64) = X / 64 := by rw [Int.tdiv_eq_ediv_of_nonneg hx0.1, w64 (by omega)]
      have hxr := xor_nonneg (x := X) (y := X / 64) (by omega) (by omega)
      refine ⟨bits .xor .i64 X (X / 64) % n, fun k hk => ?_, Int.emod_nonneg _ (by omega), Int.emod_lt_of_pos _ (by omega)⟩
      obtain ⟨k, rfl⟩ : ∃ m, k = m + 1 := ⟨k - 1, by omega⟩
      simp only [spec_l6Rd_pick.j0, Bool.false_eq_true, if_false]
      rw [w1, if_neg hp, if_neg (by omega), q1, q2, q3, d1, if_pos b1, if_pos b2, if_pos b3, if_pos b4, if_neg (by omega), hxx, hd, tmod_pos hxr]
theorem Rd.next {l : List Int} {p : Int} (h : Rd l p) (hp : p < 1000000) : Rd l (p + 1) := ⟨h.bytes, h.len, by have := h.lo; omega, by omega⟩
end Go.Proofs.Ytcdnmnipaaooiaa.P
end

section
namespace Go.Proofs.Ytcdnmnipaaooiaa.P
open Go.RowKit Go.Proofs.Ytcdnmnipaaooiaa.Num Go.Proofs.YtcdnmnipaaooiaaW.PrintWords
set_option linter.unusedSimpArgs false
theorem kind_ev {l : List Int} {p : Int} (h : Rd l p) (hp : p ≤ 900000) : ∃ v q, (∀ k, 1 ≤ k → spec_l91Kind.f k l p = some (v, q)) ∧ 0 ≤ v ∧ v ≤ 4 ∧ p ≤ q ∧ q ≤ p + 2 := by
  obtain ⟨v1, e1, a1, b1⟩ := pick_ev h (n := 60) (by omega)
  have h1 := h.next (by omega)
  obtain ⟨v2, e2, a2, b2⟩ := pick_ev h1 (n := 2) (by omega)
  obtain ⟨v3, e3, a3, b3⟩ := pick_ev h1 (n := 3) (by omega)
  by_cases c : v1 = 0
  · refine ⟨rd [0, 4] v2, p + 1 + 1, fun k hk => by unfold spec_l91Kind.f; rw [e1 k hk]; simp only [Option.bind_some]; rw [if_pos c, e2 k hk]; simp [a2, show v2 < 2 from b2], ?_, ?_, by omega, by omega⟩
    all_goals (obtain rfl | rfl : v2 = 0 ∨ v2 = 1 := by omega) <;> simp [Go.Proofs.YtcdnmnipaaooiaaW.PrintWords.rd]
  · exact ⟨1 + v3, p + 1 + 1, fun k hk => by unfold spec_l91Kind.f; rw [e1 k hk]; simp only [Option.bind_some]; rw [if_neg c, e3 k hk]; simp only [Option.bind_some]; rw [w64 (by omega)], by omega, by omega, by omega, by omega⟩
theorem kind_small {v : Int} (h : 0 ≤ v ∧ v < 3) : kindI (1 + v) = true ∧ 0 ≤ mostI (1 + v) ∧ mostI (1 + v) ≤ 7 := by
  obtain rfl | rfl | rfl : v = 0 ∨ v = 1 ∨ v = 2 := by omega
  all_goals decide
theorem val_ev {l : List Int} {p : Int} (h : Rd l p) (hp : p ≤ 800000) : ∃ a v q, (∀ k, 1 ≤ k → spec_l91Val.f k l p = some (a, v, q)) ∧ 0 ≤ a ∧ a ≤ 4 ∧ -1 ≤ v ∧ v ≤ 10 := by
  obtain ⟨v1, e1, a1, b1⟩ := pick_ev h (n := 3) (by omega)
  obtain ⟨hk, m0, m1⟩ := kind_small ⟨a1, b1⟩
  have h1 := h.next (by omega)
  obtain ⟨v2, e2, a2, b2⟩ := pick_ev h1 (n := mostI (1 + v1) + 1) (by omega)
  have h2 := h1.next (by omega)
  obtain ⟨v3, e3, a3, b3⟩ := pick_ev h2 (n := 30) (by omega)
  have h3 := h2.next (by omega)
  by_cases c : v3 = 0
  · obtain ⟨a, q, e4, a4, b4, q1, q2⟩ := kind_ev h3 (by omega)
    have h4 : Rd l q := ⟨h.bytes, h.len, by have := h.lo; omega, by omega⟩
    obtain ⟨v5, e5, a5, b5⟩ := pick_ev h4 (n := 10) (by omega)
    refine ⟨a, v5 - 1, q + 1, fun k hk' => ?_, a4, b4, by omega, by omega⟩
    unfold spec_l91Val.f
    rw [e1 k hk']; simp only [Option.bind_some]
    rw [w64 (n := 1 + v1) (by omega), sMost hk]; simp only [Option.bind_some]
    rw [w64 (n := mostI (1 + v1) + 1) (by omega), e2 k hk']; simp only [Option.bind_some]
    rw [e3 k hk']; simp only [Option.bind_some]
    rw [if_pos c, e4 k hk']; simp only [Option.bind_some]
    rw [e5 k hk']; simp only [Option.bind_some]
    rw [w64 (by omega)]
  · refine ⟨1 + v1, v2, p + 1 + 1 + 1, fun k hk' => ?_, by omega, by omega, by omega, by omega⟩
    unfold spec_l91Val.f
    rw [e1 k hk']; simp only [Option.bind_some]
    rw [w64 (n := 1 + v1) (by omega), sMost hk]; simp only [Option.bind_some]
    rw [w64 (n := mostI (1 + v1) + 1) (by omega), e2 k hk']; simp only [Option.bind_some]
    rw [e3 k hk']; simp only [Option.bind_some]
    rw [if_neg c]
theorem drawTypeMake_ev {l : List Int} (h : Bytes l) : ∃ a v, (∀ k, 1 ≤ k → spec_DrawTypeMake.f k l = some (a, v)) ∧ 0 ≤ a ∧ a ≤ 4 ∧ -1 ≤ v ∧ v ≤ 10 := by
  obtain ⟨c, ho, hb, hl⟩ := open_ev h
  obtain ⟨a, v, q, e, a1, a2, v1, v2⟩ := val_ev (l := c) (p := 0) ⟨hb, hl, by omega, by omega⟩ (by omega)
  exact ⟨a, v, fun k hk => by unfold spec_DrawTypeMake.f; rw [ho]; simp only [Option.bind_some]; rw [e k hk]; rfl, a1, a2, v1, v2⟩
end Go.Proofs.Ytcdnmnipaaooiaa.P
end

section
namespace Go.Proofs.Ytcdnmnipaaooiaa.P
open Go.RowKit Go.Proofs.Ytcdnmnipaaooiaa.Num Go.Proofs.YtcdnmnipaaooiaaW.PrintWords
theorem iShareSum (a b : List Int) : impl_ShareSum.f a b = some (share 47 a b) := rfl
end Go.Proofs.Ytcdnmnipaaooiaa.P
end

section
namespace Go.Proofs.Ytcdnmnipaaooiaa.Pure
open Go.RowKit Go.Proofs.Ytcdnmnipaaooiaa.P Go.Proofs.Ytcdnmnipaaooiaa.Num Go.Proofs.YtcdnmnipaaooiaaW.PrintWords Go.Proofs.YtcdnmnipaaooiaaW.PrintLast
set_option linter.unusedSimpArgs false
set_option linter.unusedVariables false
theorem told {a v u : Int} {r : List Int} (h : encI a v = some r) (hu : u = 0 ∨ u = 1) : ∃ s, encI a u = some s ∧ r.length ≤ 4 ∧ ∀ k, 20 ≤ k → laws_FnTypeSum.l0 k r s (share 47 r s).1 (share 47 r s).2 0 = some true := by
  have hk : kindI a = true := by
    cases hk : kindI a with
    | true => rfl
    | false => rw [encI_no hk] at h; cases h
  have hv : 0 ≤ v ∧ v ≤ mostI a := Classical.byContradiction fun h1 => by rw [encI_out h1] at h; cases h
  have hm : mostI a ≤ 7 := by have := encs_few a; unfold mostI; omega
  have hc := small_cases (v := v) ⟨hv.1, Int.le_refl _⟩ (by omega)
  rcases kindI_iff.1 hk with rfl | rfl | rfl <;> rcases hu with rfl | rfl <;> rcases hc with rfl | rfl | rfl | rfl | rfl | rfl | rfl | rfl <;>
    first
    | exact absurd hv (by decide)
    | (obtain rfl := Option.some.inj h; exact ⟨_, rfl, by decide, fun k hk => at_rounds (g := fun k => laws_FnTypeSum.l0 k _ _ _ _ 0) (fun k => (laws_FnTypeSum.mono_l k).2.2.1 _ _ _ _ _) hk (by decide +kernel)⟩)
theorem FnTypeSum : laws_FnTypeSum.Pure := by
  intro l m _ _ hb _ _ hm
  unfold laws_FnTypeSum.f
  by_cases h : (l.length : Int) > 1048576
  · exact ⟨1, by rw [if_pos h]; rfl⟩
  by_cases h' : (m.length : Int) > 1048576
  · exact ⟨1, by rw [if_neg h, decide_eq_true h']; rfl⟩
  obtain ⟨a, v, e1, a1, a2, v1, v2⟩ := drawTypeMake_ev (bytes_of hb)
  obtain ⟨K2, e2⟩ := sTypeMake a v
  dsimp only at e2
  cases q : encI a v with
  | none =>
    obtain ⟨K3, e3⟩ := loInts_ev [] [] (by simp)
    dsimp only at e3
    rw [encR_none q] at e2
    refine ⟨K2 + K3 + 5, ?_⟩
    rw [if_neg h, decide_eq_false h']
    simp only [laws_FnTypeSum.j0, Bool.false_eq_true, if_false]
    rw [e1 _ (by omega)]
    simp only [Option.bind_some, impl_TypeMake.f]
    rw [e2 _ (by omega), encR_none q]
    simp only [Option.bind_some, bne_self_eq_false, Bool.false_eq_true, if_false]
    rw [e3 _ (by omega)]
    simp only [Option.bind_some, decide_true, if_true, laws_FnTypeSum.j1, Bool.not_false, beq_self_eq_true]
    rw [e3 _ (by omega)]
    simp
  | some r =>
    obtain ⟨s, hs, hr, ht⟩ := told q (u := (m.length : Int) % 2) (by omega)
    obtain ⟨K3, e3⟩ := loInts_ev r r (by omega)
    dsimp only at e3
    rw [encR_some q] at e2
    refine ⟨K2 + K3 + 30, ?_⟩
    rw [if_neg h, decide_eq_false h']
    simp only [laws_FnTypeSum.j0, Bool.false_eq_true, if_false]
    rw [e1 _ (by omega)]
    simp only [Option.bind_some, impl_TypeMake.f]
    rw [e2 _ (by omega), encR_some q]
    simp only [Option.bind_some, bne_self_eq_false, Bool.false_eq_true, if_false]
    rw [e3 _ (by omega)]
    simp only [Option.bind_some, decide_true, if_true, laws_FnTypeSum.j1, Bool.not_true, Bool.false_eq_true, if_false]
    simp only [impl_TypeMake.f]
    rw [encR_some hs]
    simp only [Option.bind_some]
    rw [iShareSum]
    simp only [Option.bind_some]
    exact ht _ (by omega)
end Go.Proofs.Ytcdnmnipaaooiaa.Pure
end

section
namespace Go.Proofs.YtcdnmnipaaooiaaW.PrintWords
open Go.ChangeShapes Go.WideShapes
/-- A row's slice of whole numbers is no longer than its weight allows. -/
theorem sized_ints {H : Type} {enc : TypeId × Value → H} {P : Program} {W : World} {base : Nat} {spare : Nat → Bool} {held : Bool} {t e : TypeId} {k : IntKind} {a : Option Addr} {len cap : Nat} {d : DataW H} {ps : List MemPlace} {ts : List TypeId} {ds : List (DataW H)} {j : Nat}
    (hsz : (DataW.weightsEach P ts ds).all (· ≤ reachBytes) = true) (ht : ts[j]? = some t) (hd : ds[j]? = some d) (hu : P.underlying t = some (.slice e)) (he : P.underlying e = some (.int k)) (hc : P.cellsOf e = 1) {B : Nat} (hB : P.bytesOf e = B)
    (h : DataW.Trod enc P W base spare held t (.slice a len cap) d ps) : len * B ≤ 140737488351232 := by
  obtain ⟨fuel, hf⟩ := h
  rcases open_ints hu he hc hf with ⟨hcs, _⟩ | ⟨x, l, c, zs, hcs, _, hl, _, hz, hx, _, _⟩
  · simp [Value.cells] at hcs
    obtain ⟨rfl, rfl, rfl⟩ := hcs
    simp
  · simp [Value.cells] at hcs
    obtain ⟨rfl, rfl, rfl⟩ := hcs
    obtain ⟨hx, _⟩ := Prod.mk.inj hx
    subst hx
    have z := sized_slice hsz ht hd hu
    rw [hB] at z
    have hl2 : len ≤ zs.length := by
      rw [hz]
      split
      · exact hl
      · exact Nat.le_refl _
    have h1 : (lits (H := H) k (zs.take len)).length + (lits (H := H) k (zs.drop len)).length = zs.length := by
      simp [lits]
      omega
    rw [h1] at z
    exact Nat.le_trans (Nat.mul_le_mul_right _ hl2) z
end Go.Proofs.YtcdnmnipaaooiaaW.PrintWords
end
