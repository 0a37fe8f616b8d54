/- Contracts of the functions that ask a measurement type through an interface: how many numbers it has, its values, what a value's numbers are, whether there is such a type, whether it asks for one of them. Conditions: none. -/
import Derived.WalkKit
import Derived.Deep.RegionWith
import Derived.KernelRfl
import Derived.Test.YtnkdgonekadibaaWWords
import Derived.Test.YtnkdgonekadibaaWLast
import Derived.Test.YtnkdgonekadibaaProg
namespace Go.Proofs.Ytnkdgonekadibaa.P
open Go.RowKit Go.Proofs.YtnkdgonekadibaaW.PrintWords
set_option linter.unusedVariables false
set_option linter.unusedSimpArgs false

theorem handT_measureOf1 (w : World) : Calls Try.prog 39 #[.int .i64 1] w fun e w' => e = .returned (.iface 64 (.agg #[])) ∧ w = w' := by
  go_enter Try.func39, Try.ntmps39
  go_wp2
  go_ret
  exact ⟨rfl, rfl⟩
theorem handT_measureOf2 (w : World) : Calls Try.prog 39 #[.int .i64 2] w fun e w' => e = .returned (.iface 65 (.agg #[])) ∧ w = w' := by
  go_enter Try.func39, Try.ntmps39
  go_wp2
  go_ret
  exact ⟨rfl, rfl⟩
theorem handT_measureOf3 (w : World) : Calls Try.prog 39 #[.int .i64 3] w fun e w' => e = .returned (.iface 66 (.agg #[])) ∧ w = w' := by
  go_enter Try.func39, Try.ntmps39
  go_wp2
  go_ret
  exact ⟨rfl, rfl⟩
theorem handT_measureOf (k : Int) (w : World) (h1 : (k == 1) = false) (h2 : (k == 2) = false) (h3 : (k == 3) = false) : Calls Try.prog 39 #[.int .i64 k] w fun e w' => e = .returned .nilIface ∧ w = w' := by
  go_enter Try.func39, Try.ntmps39
  go_wp2
  go_ret
  exact ⟨rfl, rfl⟩

theorem handT_size1 (w : World) : Calls Try.prog 84 #[.agg #[]] w fun e w' => e = .returned (.int .i64 1) ∧ w' = w.alloc (.cells #[] 64) := by
  go_enter Try.func84, Try.ntmps84
  go_wp2
  go_ret
  exact ⟨rfl, rfl⟩
theorem handT_TypeLen1 (w : World) : Calls Try.prog 16 #[.int .i64 1] w fun e w' => e = .returned (.int .i64 1) ∧ w' = w.alloc (.cells #[] 64) := by
  have hm : ∀ W : World, (method 194 64 (.agg #[]) "loop.example/scrutineer/impl.size").run Try.prog W = .ok (84, .agg #[]) W := fun _ => by kernel_rfl
  go_enter Try.func16, Try.ntmps16
  go_wp2_with (first | (go_at_call 39; refine (handT_measureOf1 _).mono ?_; rintro e w' ⟨rfl, rfl⟩) | (go_at_call 84; refine (handT_size1 _).mono ?_; rintro e w' ⟨rfl, rfl⟩))
  go_ret
  exact ⟨rfl, rfl⟩
theorem handT_size2 (w : World) : Calls Try.prog 87 #[.agg #[]] w fun e w' => e = .returned (.int .i64 4) ∧ w' = w.alloc (.cells #[] 65) := by
  go_enter Try.func87, Try.ntmps87
  go_wp2
  go_ret
  exact ⟨rfl, rfl⟩
theorem handT_TypeLen2 (w : World) : Calls Try.prog 16 #[.int .i64 2] w fun e w' => e = .returned (.int .i64 4) ∧ w' = w.alloc (.cells #[] 65) := by
  have hm : ∀ W : World, (method 194 65 (.agg #[]) "loop.example/scrutineer/impl.size").run Try.prog W = .ok (87, .agg #[]) W := fun _ => by kernel_rfl
  go_enter Try.func16, Try.ntmps16
  go_wp2_with (first | (go_at_call 39; refine (handT_measureOf2 _).mono ?_; rintro e w' ⟨rfl, rfl⟩) | (go_at_call 87; refine (handT_size2 _).mono ?_; rintro e w' ⟨rfl, rfl⟩))
  go_ret
  exact ⟨rfl, rfl⟩
theorem handT_size3 (w : World) : Calls Try.prog 90 #[.agg #[]] w fun e w' => e = .returned (.int .i64 3) ∧ w' = w.alloc (.cells #[] 66) := by
  go_enter Try.func90, Try.ntmps90
  go_wp2
  go_ret
  exact ⟨rfl, rfl⟩
theorem handT_TypeLen3 (w : World) : Calls Try.prog 16 #[.int .i64 3] w fun e w' => e = .returned (.int .i64 3) ∧ w' = w.alloc (.cells #[] 66) := by
  have hm : ∀ W : World, (method 194 66 (.agg #[]) "loop.example/scrutineer/impl.size").run Try.prog W = .ok (90, .agg #[]) W := fun _ => by kernel_rfl
  go_enter Try.func16, Try.ntmps16
  go_wp2_with (first | (go_at_call 39; refine (handT_measureOf3 _).mono ?_; rintro e w' ⟨rfl, rfl⟩) | (go_at_call 90; refine (handT_size3 _).mono ?_; rintro e w' ⟨rfl, rfl⟩))
  go_ret
  exact ⟨rfl, rfl⟩

theorem handT_TypeLen0 (k : Int) (w : World) (h1 : (k == 1) = false) (h2 : (k == 2) = false) (h3 : (k == 3) = false) : Calls Try.prog 16 #[.int .i64 k] w fun e w' => e = .returned (.int .i64 0) ∧ w = w' := by
  have H1 := Aside0.mk h1
  have H2 := Aside0.mk h2
  have H3 := Aside0.mk h3
  clear h1 h2 h3
  go_enter Try.func16, Try.ntmps16
  go_wp2_with (go_at_call 39; refine (handT_measureOf _ _ H1.out H2.out H3.out).mono ?_; rintro e w' ⟨rfl, rfl⟩)
  go_ret
  exact ⟨rfl, rfl⟩

def lenI (k : Int) : Int := if k = 1 then 1 else if k = 2 then 4 else if k = 3 then 3 else 0
def impl_TypeLen.f (a0 : Int) : Option Int := some (lenI a0)
theorem impl_TypeLen.calls (a0 : Int) (r : Int) (w : World) (h : impl_TypeLen.f a0 = some r) :
    Calls Try.prog 16 #[.int .i64 a0] w fun e w' => e = .returned (.int .i64 r) ∧ Below w.heap.size w w' := by
  obtain rfl := Option.some.inj h
  by_cases h1 : a0 = 1
  · subst h1; exact (handT_TypeLen1 w).mono fun e w' ⟨he, hw⟩ => ⟨he, by rw [hw]; exact (Below.refl _ _).alloc (Nat.le_refl _) _⟩
  by_cases h2 : a0 = 2
  · subst h2; exact (handT_TypeLen2 w).mono fun e w' ⟨he, hw⟩ => ⟨he, by rw [hw]; exact (Below.refl _ _).alloc (Nat.le_refl _) _⟩
  by_cases h3 : a0 = 3
  · subst h3; exact (handT_TypeLen3 w).mono fun e w' ⟨he, hw⟩ => ⟨he, by rw [hw]; exact (Below.refl _ _).alloc (Nat.le_refl _) _⟩
  · refine (handT_TypeLen0 a0 w (by simpa using h1) (by simpa using h2) (by simpa using h3)).mono fun e w' ⟨he, hw⟩ => ⟨by rw [he]; simp [lenI, h1, h2, h3], by rw [← hw]; exact Below.refl _ _⟩

theorem handT_kindOk0 (k : Int) (w : World) (h1 : (k == 1) = false) (h2 : (k == 2) = false) (h3 : (k == 3) = false) : Calls Try.prog 41 #[.int .i64 k] w fun e w' => e = .returned (.bool false) ∧ w = w' := by
  have H1 := Aside0.mk h1
  have H2 := Aside0.mk h2
  have H3 := Aside0.mk h3
  clear h1 h2 h3
  go_enter Try.func41, Try.ntmps41
  go_wp2_with (go_at_call 39; refine (handT_measureOf _ _ H1.out H2.out H3.out).mono ?_; rintro e w' ⟨rfl, rfl⟩)
  go_ret
  exact ⟨rfl, rfl⟩
theorem handT_kindOk1 (w : World) : Calls Try.prog 41 #[.int .i64 1] w fun e w' => e = .returned (.bool true) ∧ w = w' := by
  go_enter Try.func41, Try.ntmps41
  go_wp2_with (go_at_call 39; refine (handT_measureOf1 _).mono ?_; rintro e w' ⟨rfl, rfl⟩)
  go_ret
  exact ⟨rfl, rfl⟩
theorem handT_kindOk2 (w : World) : Calls Try.prog 41 #[.int .i64 2] w fun e w' => e = .returned (.bool true) ∧ w = w' := by
  go_enter Try.func41, Try.ntmps41
  go_wp2_with (go_at_call 39; refine (handT_measureOf2 _).mono ?_; rintro e w' ⟨rfl, rfl⟩)
  go_ret
  exact ⟨rfl, rfl⟩
theorem handT_kindOk3 (w : World) : Calls Try.prog 41 #[.int .i64 3] w fun e w' => e = .returned (.bool true) ∧ w = w' := by
  go_enter Try.func41, Try.ntmps41
  go_wp2_with (go_at_call 39; refine (handT_measureOf3 _).mono ?_; rintro e w' ⟨rfl, rfl⟩)
  go_ret
  exact ⟨rfl, rfl⟩
def kindI (k : Int) : Bool := decide (1 ≤ k ∧ k ≤ 3)
def impl_kindOk.f (a0 : Int) : Option Bool := some (kindI a0)
theorem impl_kindOk.calls (a0 : Int) (r : Bool) (w : World) (h : impl_kindOk.f a0 = some r) :
    Calls Try.prog 41 #[.int .i64 a0] w fun e w' => e = .returned (.bool r) ∧ Below w.heap.size w w' := by
  obtain rfl := Option.some.inj h
  by_cases h1 : a0 = 1
  · subst h1; exact (handT_kindOk1 w).mono fun e w' ⟨he, hw⟩ => ⟨he, by rw [← hw]; exact Below.refl _ _⟩
  by_cases h2 : a0 = 2
  · subst h2; exact (handT_kindOk2 w).mono fun e w' ⟨he, hw⟩ => ⟨he, by rw [← hw]; exact Below.refl _ _⟩
  by_cases h3 : a0 = 3
  · subst h3; exact (handT_kindOk3 w).mono fun e w' ⟨he, hw⟩ => ⟨he, by rw [← hw]; exact Below.refl _ _⟩
  · refine (handT_kindOk0 a0 w (by simpa using h1) (by simpa using h2) (by simpa using h3)).mono fun e w' ⟨he, hw⟩ => ⟨by rw [he, kindI, decide_eq_false (by omega)], by rw [← hw]; exact Below.refl _ _⟩


def inB (b c a : Int) : Bool := decide (b ≤ a ∧ a ≤ c)
theorem handT_within (a b c : Int) (w : World) : Calls Try.prog 45 #[.int .i64 a, .int .i64 b, .int .i64 c] w fun e w' => e = .returned (.bool (inB b c a)) ∧ w = w' := by
  by_cases h : b ≤ a
  · go_enter Try.func45, Try.ntmps45
    go_wp2
    go_ret
    exact ⟨by simp [inB, h], rfl⟩
  · go_enter Try.func45, Try.ntmps45
    go_wp2
    go_ret
    exact ⟨by simp [inB]; omega, rfl⟩

theorem handT_row (W : World) (base : Nat) (xs : List Int) (hb : base ≤ W.heap.size) (hm : xs.length ≤ 20) : Kd.R (Kd.int .i64) 3 (W.alloc (.cells (xs.map (Value.int .i64)).toArray 3)) base (fun _ => True) (.slice (some ⟨W.heap.size, 0, none⟩) xs.length xs.length) xs :=
  Kd.R_of_own (own_lit W base 3 .i64 xs hb (by omega)) (fun _ _ => trivial)

theorem handT_TypeMake0 (k v : Int) (w : World) (h1 : (k == 1) = false) (h2 : (k == 2) = false) (h3 : (k == 3) = false) : Calls Try.prog 20 #[.int .i64 k, .int .i64 v] w fun e w' => e = .returned (.tuple #[.slice none 0 0, .bool false]) ∧ w = w' := by
  have H1 := Aside0.mk h1
  have H2 := Aside0.mk h2
  have H3 := Aside0.mk h3
  clear h1 h2 h3
  go_enter Try.func20, Try.ntmps20
  go_wp2_with (go_at_call 39; refine (handT_measureOf _ _ H1.out H2.out H3.out).mono ?_; rintro e w' ⟨rfl, rfl⟩)
  go_ret2
  exact ⟨rfl, rfl⟩
theorem handT_values1 (w : World) : Calls Try.prog 85 #[.agg #[]] w fun e w' => e = .returned (.int .i64 2) ∧ w' = w.alloc (.cells #[] 64) := by
  go_enter Try.func85, Try.ntmps85
  go_wp2
  go_ret
  exact ⟨rfl, rfl⟩
theorem handT_TypeMake1_no (v : Int) (w : World) (h : inB 0 1 v = false) : Calls Try.prog 20 #[.int .i64 1, .int .i64 v] w fun e w' => e = .returned (.tuple #[.slice none 0 0, .bool false]) ∧ Below w.heap.size w w' := by
  have hm : ∀ W : World, (method 194 64 (.agg #[]) "loop.example/scrutineer/impl.values").run Try.prog W = .ok (85, .agg #[]) W := fun _ => by kernel_rfl
  go_enter Try.func20, Try.ntmps20
  go_wp2_with (first | (go_at_call 39; refine (handT_measureOf1 _).mono ?_; rintro e w' ⟨rfl, rfl⟩) | (go_at_call 85; refine (handT_values1 _).mono ?_; rintro e w' ⟨rfl, rfl⟩) | (go_at_call 45; refine (handT_within _ _ _ _).mono ?_; rintro e w' ⟨rfl, rfl⟩))
  go_ret2
  exact ⟨rfl, (Below.refl _ _).alloc (Nat.le_refl _) _⟩
theorem handT_encode1_0 (w : World) : Calls Try.prog 83 #[.agg #[], .int .i64 0] w fun e w' => e = .returned (.slice (some ⟨w.heap.size + 1, 0, none⟩) 1 1) ∧ w' = (w.alloc (.cells #[] 64)).alloc (.cells #[.int .i64 0] 3) := by
  go_enter Try.func83, Try.ntmps83
  go_wp2
  go_ret
  exact ⟨rfl, rfl⟩
theorem handT_TypeMake1_0 (w : World) : Calls Try.prog 20 #[.int .i64 1, .int .i64 0] w fun e w' => ∃ v0_ : Value, e = .returned (.tuple #[v0_, .bool true]) ∧ Kd.R (Kd.int .i64) 3 w' w.heap.size (fun _ => True) v0_ [0] ∧ Below w.heap.size w w' := by
  have hm : ∀ W : World, (method 194 64 (.agg #[]) "loop.example/scrutineer/impl.values").run Try.prog W = .ok (85, .agg #[]) W := fun _ => by kernel_rfl
  have he : ∀ W : World, (method 194 64 (.agg #[]) "loop.example/scrutineer/impl.encode").run Try.prog W = .ok (83, .agg #[]) W := fun _ => by kernel_rfl
  have h : inB 0 1 0 = true := rfl
  have hrow := Aside0.mk (handT_row ((w.alloc (.cells #[] 64)).alloc (.cells #[] 64)) w.heap.size [0] (by simp; omega) (by simp))
  go_enter Try.func20, Try.ntmps20
  go_wp2_with (first | (go_at_call 39; refine (handT_measureOf1 _).mono ?_; rintro e w' ⟨rfl, rfl⟩) | (go_at_call 85; refine (handT_values1 _).mono ?_; rintro e w' ⟨rfl, rfl⟩) | (go_at_call 45; refine (handT_within _ _ _ _).mono ?_; rintro e w' ⟨rfl, rfl⟩) | (go_at_call 83; refine (handT_encode1_0 _).mono ?_; rintro e w' ⟨rfl, rfl⟩))
  go_ret2
  exact ⟨_, rfl, by simpa using hrow.out, (((Below.refl _ _).alloc (Nat.le_refl _) _).alloc (by simp) _).alloc (by simp; omega) _⟩
theorem handT_encode1_1 (w : World) : Calls Try.prog 83 #[.agg #[], .int .i64 1] w fun e w' => e = .returned (.slice (some ⟨w.heap.size + 1, 0, none⟩) 1 1) ∧ w' = (w.alloc (.cells #[] 64)).alloc (.cells #[.int .i64 1] 3) := by
  go_enter Try.func83, Try.ntmps83
  go_wp2
  go_ret
  exact ⟨rfl, rfl⟩
theorem handT_TypeMake1_1 (w : World) : Calls Try.prog 20 #[.int .i64 1, .int .i64 1] w fun e w' => ∃ v0_ : Value, e = .returned (.tuple #[v0_, .bool true]) ∧ Kd.R (Kd.int .i64) 3 w' w.heap.size (fun _ => True) v0_ [1] ∧ Below w.heap.size w w' := by
  have hm : ∀ W : World, (method 194 64 (.agg #[]) "loop.example/scrutineer/impl.values").run Try.prog W = .ok (85, .agg #[]) W := fun _ => by kernel_rfl
  have he : ∀ W : World, (method 194 64 (.agg #[]) "loop.example/scrutineer/impl.encode").run Try.prog W = .ok (83, .agg #[]) W := fun _ => by kernel_rfl
  have h : inB 0 1 1 = true := rfl
  have hrow := Aside0.mk (handT_row ((w.alloc (.cells #[] 64)).alloc (.cells #[] 64)) w.heap.size [1] (by simp; omega) (by simp))
  go_enter Try.func20, Try.ntmps20
  go_wp2_with (first | (go_at_call 39; refine (handT_measureOf1 _).mono ?_; rintro e w' ⟨rfl, rfl⟩) | (go_at_call 85; refine (handT_values1 _).mono ?_; rintro e w' ⟨rfl, rfl⟩) | (go_at_call 45; refine (handT_within _ _ _ _).mono ?_; rintro e w' ⟨rfl, rfl⟩) | (go_at_call 83; refine (handT_encode1_1 _).mono ?_; rintro e w' ⟨rfl, rfl⟩))
  go_ret2
  exact ⟨_, rfl, by simpa using hrow.out, (((Below.refl _ _).alloc (Nat.le_refl _) _).alloc (by simp) _).alloc (by simp; omega) _⟩
theorem handT_values2 (w : World) : Calls Try.prog 88 #[.agg #[]] w fun e w' => e = .returned (.int .i64 4) ∧ w' = w.alloc (.cells #[] 65) := by
  go_enter Try.func88, Try.ntmps88
  go_wp2
  go_ret
  exact ⟨rfl, rfl⟩
theorem handT_TypeMake2_no (v : Int) (w : World) (h : inB 0 3 v = false) : Calls Try.prog 20 #[.int .i64 2, .int .i64 v] w fun e w' => e = .returned (.tuple #[.slice none 0 0, .bool false]) ∧ Below w.heap.size w w' := by
  have hm : ∀ W : World, (method 194 65 (.agg #[]) "loop.example/scrutineer/impl.values").run Try.prog W = .ok (88, .agg #[]) W := fun _ => by kernel_rfl
  go_enter Try.func20, Try.ntmps20
  go_wp2_with (first | (go_at_call 39; refine (handT_measureOf2 _).mono ?_; rintro e w' ⟨rfl, rfl⟩) | (go_at_call 88; refine (handT_values2 _).mono ?_; rintro e w' ⟨rfl, rfl⟩) | (go_at_call 45; refine (handT_within _ _ _ _).mono ?_; rintro e w' ⟨rfl, rfl⟩))
  go_ret2
  exact ⟨rfl, (Below.refl _ _).alloc (Nat.le_refl _) _⟩
theorem handT_encode2_0 (w : World) : Calls Try.prog 86 #[.agg #[], .int .i64 0] w fun e w' => e = .returned (.slice (some ⟨w.heap.size + 1, 0, none⟩) 4 4) ∧ w' = (w.alloc (.cells #[] 65)).alloc (.cells #[.int .i64 1, .int .i64 0, .int .i64 0, .int .i64 0] 3) := by
  have hmk : ∀ W : World, (Instr.makeSlice 24 (.int .i64 4) (.int .i64 4)).run Try.prog W = .ok (.slice (some ⟨W.heap.size, 0, none⟩) 4 4) (W.alloc (.cells #[.int .i64 0, .int .i64 0, .int .i64 0, .int .i64 0] 3)) := fun _ => by kernel_rfl
  go_enter Try.func86, Try.ntmps86
  go_wp2
  go_ret
  exact ⟨rfl, rfl⟩
theorem handT_TypeMake2_0 (w : World) : Calls Try.prog 20 #[.int .i64 2, .int .i64 0] w fun e w' => ∃ v0_ : Value, e = .returned (.tuple #[v0_, .bool true]) ∧ Kd.R (Kd.int .i64) 3 w' w.heap.size (fun _ => True) v0_ [1, 0, 0, 0] ∧ Below w.heap.size w w' := by
  have hm : ∀ W : World, (method 194 65 (.agg #[]) "loop.example/scrutineer/impl.values").run Try.prog W = .ok (88, .agg #[]) W := fun _ => by kernel_rfl
  have he : ∀ W : World, (method 194 65 (.agg #[]) "loop.example/scrutineer/impl.encode").run Try.prog W = .ok (86, .agg #[]) W := fun _ => by kernel_rfl
  have h : inB 0 3 0 = true := rfl
  have hrow := Aside0.mk (handT_row ((w.alloc (.cells #[] 65)).alloc (.cells #[] 65)) w.heap.size [1, 0, 0, 0] (by simp; omega) (by simp))
  go_enter Try.func20, Try.ntmps20
  go_wp2_with (first | (go_at_call 39; refine (handT_measureOf2 _).mono ?_; rintro e w' ⟨rfl, rfl⟩) | (go_at_call 88; refine (handT_values2 _).mono ?_; rintro e w' ⟨rfl, rfl⟩) | (go_at_call 45; refine (handT_within _ _ _ _).mono ?_; rintro e w' ⟨rfl, rfl⟩) | (go_at_call 86; refine (handT_encode2_0 _).mono ?_; rintro e w' ⟨rfl, rfl⟩))
  go_ret2
  exact ⟨_, rfl, by simpa using hrow.out, (((Below.refl _ _).alloc (Nat.le_refl _) _).alloc (by simp) _).alloc (by simp; omega) _⟩
theorem handT_encode2_1 (w : World) : Calls Try.prog 86 #[.agg #[], .int .i64 1] w fun e w' => e = .returned (.slice (some ⟨w.heap.size + 1, 0, none⟩) 4 4) ∧ w' = (w.alloc (.cells #[] 65)).alloc (.cells #[.int .i64 0, .int .i64 1, .int .i64 0, .int .i64 0] 3) := by
  have hmk : ∀ W : World, (Instr.makeSlice 24 (.int .i64 4) (.int .i64 4)).run Try.prog W = .ok (.slice (some ⟨W.heap.size, 0, none⟩) 4 4) (W.alloc (.cells #[.int .i64 0, .int .i64 0, .int .i64 0, .int .i64 0] 3)) := fun _ => by kernel_rfl
  go_enter Try.func86, Try.ntmps86
  go_wp2
  go_ret
  exact ⟨rfl, rfl⟩
theorem handT_TypeMake2_1 (w : World) : Calls Try.prog 20 #[.int .i64 2, .int .i64 1] w fun e w' => ∃ v0_ : Value, e = .returned (.tuple #[v0_, .bool true]) ∧ Kd.R (Kd.int .i64) 3 w' w.heap.size (fun _ => True) v0_ [0, 1, 0, 0] ∧ Below w.heap.size w w' := by
  have hm : ∀ W : World, (method 194 65 (.agg #[]) "loop.example/scrutineer/impl.values").run Try.prog W = .ok (88, .agg #[]) W := fun _ => by kernel_rfl
  have he : ∀ W : World, (method 194 65 (.agg #[]) "loop.example/scrutineer/impl.encode").run Try.prog W = .ok (86, .agg #[]) W := fun _ => by kernel_rfl
  have h : inB 0 3 1 = true := rfl
  have hrow := Aside0.mk (handT_row ((w.alloc (.cells #[] 65)).alloc (.cells #[] 65)) w.heap.size [0, 1, 0, 0] (by simp; omega) (by simp))
  go_enter Try.func20, Try.ntmps20
  go_wp2_with (first | (go_at_call 39; refine (handT_measureOf2 _).mono ?_; rintro e w' ⟨rfl, rfl⟩) | (go_at_call 88; refine (handT_values2 _).mono ?_; rintro e w' ⟨rfl, rfl⟩) | (go_at_call 45; refine (handT_within _ _ _ _).mono ?_; rintro e w' ⟨rfl, rfl⟩) | (go_at_call 86; refine (handT_encode2_1 _).mono ?_; rintro e w' ⟨rfl, rfl⟩))
  go_ret2
  exact ⟨_, rfl, by simpa using hrow.out, (((Below.refl _ _).alloc (Nat.le_refl _) _).alloc (by simp) _).alloc (by simp; omega) _⟩
theorem handT_encode2_2 (w : World) : Calls Try.prog 86 #[.agg #[], .int .i64 2] w fun e w' => e = .returned (.slice (some ⟨w.heap.size + 1, 0, none⟩) 4 4) ∧ w' = (w.alloc (.cells #[] 65)).alloc (.cells #[.int .i64 0, .int .i64 0, .int .i64 1, .int .i64 0] 3) := by
  have hmk : ∀ W : World, (Instr.makeSlice 24 (.int .i64 4) (.int .i64 4)).run Try.prog W = .ok (.slice (some ⟨W.heap.size, 0, none⟩) 4 4) (W.alloc (.cells #[.int .i64 0, .int .i64 0, .int .i64 0, .int .i64 0] 3)) := fun _ => by kernel_rfl
  go_enter Try.func86, Try.ntmps86
  go_wp2
  go_ret
  exact ⟨rfl, rfl⟩
theorem handT_TypeMake2_2 (w : World) : Calls Try.prog 20 #[.int .i64 2, .int .i64 2] w fun e w' => ∃ v0_ : Value, e = .returned (.tuple #[v0_, .bool true]) ∧ Kd.R (Kd.int .i64) 3 w' w.heap.size (fun _ => True) v0_ [0, 0, 1, 0] ∧ Below w.heap.size w w' := by
  have hm : ∀ W : World, (method 194 65 (.agg #[]) "loop.example/scrutineer/impl.values").run Try.prog W = .ok (88, .agg #[]) W := fun _ => by kernel_rfl
  have he : ∀ W : World, (method 194 65 (.agg #[]) "loop.example/scrutineer/impl.encode").run Try.prog W = .ok (86, .agg #[]) W := fun _ => by kernel_rfl
  have h : inB 0 3 2 = true := rfl
  have hrow := Aside0.mk (handT_row ((w.alloc (.cells #[] 65)).alloc (.cells #[] 65)) w.heap.size [0, 0, 1, 0] (by simp; omega) (by simp))
  go_enter Try.func20, Try.ntmps20
  go_wp2_with (first | (go_at_call 39; refine (handT_measureOf2 _).mono ?_; rintro e w' ⟨rfl, rfl⟩) | (go_at_call 88; refine (handT_values2 _).mono ?_; rintro e w' ⟨rfl, rfl⟩) | (go_at_call 45; refine (handT_within _ _ _ _).mono ?_; rintro e w' ⟨rfl, rfl⟩) | (go_at_call 86; refine (handT_encode2_2 _).mono ?_; rintro e w' ⟨rfl, rfl⟩))
  go_ret2
  exact ⟨_, rfl, by simpa using hrow.out, (((Below.refl _ _).alloc (Nat.le_refl _) _).alloc (by simp) _).alloc (by simp; omega) _⟩
theorem handT_encode2_3 (w : World) : Calls Try.prog 86 #[.agg #[], .int .i64 3] w fun e w' => e = .returned (.slice (some ⟨w.heap.size + 1, 0, none⟩) 4 4) ∧ w' = (w.alloc (.cells #[] 65)).alloc (.cells #[.int .i64 0, .int .i64 0, .int .i64 0, .int .i64 1] 3) := by
  have hmk : ∀ W : World, (Instr.makeSlice 24 (.int .i64 4) (.int .i64 4)).run Try.prog W = .ok (.slice (some ⟨W.heap.size, 0, none⟩) 4 4) (W.alloc (.cells #[.int .i64 0, .int .i64 0, .int .i64 0, .int .i64 0] 3)) := fun _ => by kernel_rfl
  go_enter Try.func86, Try.ntmps86
  go_wp2
  go_ret
  exact ⟨rfl, rfl⟩
theorem handT_TypeMake2_3 (w : World) : Calls Try.prog 20 #[.int .i64 2, .int .i64 3] w fun e w' => ∃ v0_ : Value, e = .returned (.tuple #[v0_, .bool true]) ∧ Kd.R (Kd.int .i64) 3 w' w.heap.size (fun _ => True) v0_ [0, 0, 0, 1] ∧ Below w.heap.size w w' := by
  have hm : ∀ W : World, (method 194 65 (.agg #[]) "loop.example/scrutineer/impl.values").run Try.prog W = .ok (88, .agg #[]) W := fun _ => by kernel_rfl
  have he : ∀ W : World, (method 194 65 (.agg #[]) "loop.example/scrutineer/impl.encode").run Try.prog W = .ok (86, .agg #[]) W := fun _ => by kernel_rfl
  have h : inB 0 3 3 = true := rfl
  have hrow := Aside0.mk (handT_row ((w.alloc (.cells #[] 65)).alloc (.cells #[] 65)) w.heap.size [0, 0, 0, 1] (by simp; omega) (by simp))
  go_enter Try.func20, Try.ntmps20
  go_wp2_with (first | (go_at_call 39; refine (handT_measureOf2 _).mono ?_; rintro e w' ⟨rfl, rfl⟩) | (go_at_call 88; refine (handT_values2 _).mono ?_; rintro e w' ⟨rfl, rfl⟩) | (go_at_call 45; refine (handT_within _ _ _ _).mono ?_; rintro e w' ⟨rfl, rfl⟩) | (go_at_call 86; refine (handT_encode2_3 _).mono ?_; rintro e w' ⟨rfl, rfl⟩))
  go_ret2
  exact ⟨_, rfl, by simpa using hrow.out, (((Below.refl _ _).alloc (Nat.le_refl _) _).alloc (by simp) _).alloc (by simp; omega) _⟩
theorem handT_values3 (w : World) : Calls Try.prog 91 #[.agg #[]] w fun e w' => e = .returned (.int .i64 8) ∧ w' = w.alloc (.cells #[] 66) := by
  go_enter Try.func91, Try.ntmps91
  go_wp2
  go_ret
  exact ⟨rfl, rfl⟩
theorem handT_TypeMake3_no (v : Int) (w : World) (h : inB 0 7 v = false) : Calls Try.prog 20 #[.int .i64 3, .int .i64 v] w fun e w' => e = .returned (.tuple #[.slice none 0 0, .bool false]) ∧ Below w.heap.size w w' := by
  have hm : ∀ W : World, (method 194 66 (.agg #[]) "loop.example/scrutineer/impl.values").run Try.prog W = .ok (91, .agg #[]) W := fun _ => by kernel_rfl
  go_enter Try.func20, Try.ntmps20
  go_wp2_with (first | (go_at_call 39; refine (handT_measureOf3 _).mono ?_; rintro e w' ⟨rfl, rfl⟩) | (go_at_call 91; refine (handT_values3 _).mono ?_; rintro e w' ⟨rfl, rfl⟩) | (go_at_call 45; refine (handT_within _ _ _ _).mono ?_; rintro e w' ⟨rfl, rfl⟩))
  go_ret2
  exact ⟨rfl, (Below.refl _ _).alloc (Nat.le_refl _) _⟩
theorem handT_encode3_0 (w : World) : Calls Try.prog 89 #[.agg #[], .int .i64 0] w fun e w' => e = .returned (.slice (some ⟨w.heap.size + 1, 0, none⟩) 3 3) ∧ w' = (w.alloc (.cells #[] 66)).alloc (.cells #[.int .i64 0, .int .i64 0, .int .i64 0] 3) := by
  go_enter Try.func89, Try.ntmps89
  go_wp2
  go_ret
  exact ⟨rfl, rfl⟩
theorem handT_TypeMake3_0 (w : World) : Calls Try.prog 20 #[.int .i64 3, .int .i64 0] w fun e w' => ∃ v0_ : Value, e = .returned (.tuple #[v0_, .bool true]) ∧ Kd.R (Kd.int .i64) 3 w' w.heap.size (fun _ => True) v0_ [0, 0, 0] ∧ Below w.heap.size w w' := by
  have hm : ∀ W : World, (method 194 66 (.agg #[]) "loop.example/scrutineer/impl.values").run Try.prog W = .ok (91, .agg #[]) W := fun _ => by kernel_rfl
  have he : ∀ W : World, (method 194 66 (.agg #[]) "loop.example/scrutineer/impl.encode").run Try.prog W = .ok (89, .agg #[]) W := fun _ => by kernel_rfl
  have h : inB 0 7 0 = true := rfl
  have hrow := Aside0.mk (handT_row ((w.alloc (.cells #[] 66)).alloc (.cells #[] 66)) w.heap.size [0, 0, 0] (by simp; omega) (by simp))
  go_enter Try.func20, Try.ntmps20
  go_wp2_with (first | (go_at_call 39; refine (handT_measureOf3 _).mono ?_; rintro e w' ⟨rfl, rfl⟩) | (go_at_call 91; refine (handT_values3 _).mono ?_; rintro e w' ⟨rfl, rfl⟩) | (go_at_call 45; refine (handT_within _ _ _ _).mono ?_; rintro e w' ⟨rfl, rfl⟩) | (go_at_call 89; refine (handT_encode3_0 _).mono ?_; rintro e w' ⟨rfl, rfl⟩))
  go_ret2
  exact ⟨_, rfl, by simpa using hrow.out, (((Below.refl _ _).alloc (Nat.le_refl _) _).alloc (by simp) _).alloc (by simp; omega) _⟩
theorem handT_encode3_1 (w : World) : Calls Try.prog 89 #[.agg #[], .int .i64 1] w fun e w' => e = .returned (.slice (some ⟨w.heap.size + 1, 0, none⟩) 3 3) ∧ w' = (w.alloc (.cells #[] 66)).alloc (.cells #[.int .i64 1, .int .i64 0, .int .i64 0] 3) := by
  go_enter Try.func89, Try.ntmps89
  go_wp2
  go_ret
  exact ⟨rfl, rfl⟩
theorem handT_TypeMake3_1 (w : World) : Calls Try.prog 20 #[.int .i64 3, .int .i64 1] w fun e w' => ∃ v0_ : Value, e = .returned (.tuple #[v0_, .bool true]) ∧ Kd.R (Kd.int .i64) 3 w' w.heap.size (fun _ => True) v0_ [1, 0, 0] ∧ Below w.heap.size w w' := by
  have hm : ∀ W : World, (method 194 66 (.agg #[]) "loop.example/scrutineer/impl.values").run Try.prog W = .ok (91, .agg #[]) W := fun _ => by kernel_rfl
  have he : ∀ W : World, (method 194 66 (.agg #[]) "loop.example/scrutineer/impl.encode").run Try.prog W = .ok (89, .agg #[]) W := fun _ => by kernel_rfl
  have h : inB 0 7 1 = true := rfl
  have hrow := Aside0.mk (handT_row ((w.alloc (.cells #[] 66)).alloc (.cells #[] 66)) w.heap.size [1, 0, 0] (by simp; omega) (by simp))
  go_enter Try.func20, Try.ntmps20
  go_wp2_with (first | (go_at_call 39; refine (handT_measureOf3 _).mono ?_; rintro e w' ⟨rfl, rfl⟩) | (go_at_call 91; refine (handT_values3 _).mono ?_; rintro e w' ⟨rfl, rfl⟩) | (go_at_call 45; refine (handT_within _ _ _ _).mono ?_; rintro e w' ⟨rfl, rfl⟩) | (go_at_call 89; refine (handT_encode3_1 _).mono ?_; rintro e w' ⟨rfl, rfl⟩))
  go_ret2
  exact ⟨_, rfl, by simpa using hrow.out, (((Below.refl _ _).alloc (Nat.le_refl _) _).alloc (by simp) _).alloc (by simp; omega) _⟩
theorem handT_encode3_2 (w : World) : Calls Try.prog 89 #[.agg #[], .int .i64 2] w fun e w' => e = .returned (.slice (some ⟨w.heap.size + 1, 0, none⟩) 3 3) ∧ w' = (w.alloc (.cells #[] 66)).alloc (.cells #[.int .i64 0, .int .i64 1, .int .i64 0] 3) := by
  go_enter Try.func89, Try.ntmps89
  go_wp2
  go_ret
  exact ⟨rfl, rfl⟩
theorem handT_TypeMake3_2 (w : World) : Calls Try.prog 20 #[.int .i64 3, .int .i64 2] w fun e w' => ∃ v0_ : Value, e = .returned (.tuple #[v0_, .bool true]) ∧ Kd.R (Kd.int .i64) 3 w' w.heap.size (fun _ => True) v0_ [0, 1, 0] ∧ Below w.heap.size w w' := by
  have hm : ∀ W : World, (method 194 66 (.agg #[]) "loop.example/scrutineer/impl.values").run Try.prog W = .ok (91, .agg #[]) W := fun _ => by kernel_rfl
  have he : ∀ W : World, (method 194 66 (.agg #[]) "loop.example/scrutineer/impl.encode").run Try.prog W = .ok (89, .agg #[]) W := fun _ => by kernel_rfl
  have h : inB 0 7 2 = true := rfl
  have hrow := Aside0.mk (handT_row ((w.alloc (.cells #[] 66)).alloc (.cells #[] 66)) w.heap.size [0, 1, 0] (by simp; omega) (by simp))
  go_enter Try.func20, Try.ntmps20
  go_wp2_with (first | (go_at_call 39; refine (handT_measureOf3 _).mono ?_; rintro e w' ⟨rfl, rfl⟩) | (go_at_call 91; refine (handT_values3 _).mono ?_; rintro e w' ⟨rfl, rfl⟩) | (go_at_call 45; refine (handT_within _ _ _ _).mono ?_; rintro e w' ⟨rfl, rfl⟩) | (go_at_call 89; refine (handT_encode3_2 _).mono ?_; rintro e w' ⟨rfl, rfl⟩))
  go_ret2
  exact ⟨_, rfl, by simpa using hrow.out, (((Below.refl _ _).alloc (Nat.le_refl _) _).alloc (by simp) _).alloc (by simp; omega) _⟩
theorem handT_encode3_3 (w : World) : Calls Try.prog 89 #[.agg #[], .int .i64 3] w fun e w' => e = .returned (.slice (some ⟨w.heap.size + 1, 0, none⟩) 3 3) ∧ w' = (w.alloc (.cells #[] 66)).alloc (.cells #[.int .i64 1, .int .i64 1, .int .i64 0] 3) := by
  go_enter Try.func89, Try.ntmps89
  go_wp2
  go_ret
  exact ⟨rfl, rfl⟩
theorem handT_TypeMake3_3 (w : World) : Calls Try.prog 20 #[.int .i64 3, .int .i64 3] w fun e w' => ∃ v0_ : Value, e = .returned (.tuple #[v0_, .bool true]) ∧ Kd.R (Kd.int .i64) 3 w' w.heap.size (fun _ => True) v0_ [1, 1, 0] ∧ Below w.heap.size w w' := by
  have hm : ∀ W : World, (method 194 66 (.agg #[]) "loop.example/scrutineer/impl.values").run Try.prog W = .ok (91, .agg #[]) W := fun _ => by kernel_rfl
  have he : ∀ W : World, (method 194 66 (.agg #[]) "loop.example/scrutineer/impl.encode").run Try.prog W = .ok (89, .agg #[]) W := fun _ => by kernel_rfl
  have h : inB 0 7 3 = true := rfl
  have hrow := Aside0.mk (handT_row ((w.alloc (.cells #[] 66)).alloc (.cells #[] 66)) w.heap.size [1, 1, 0] (by simp; omega) (by simp))
  go_enter Try.func20, Try.ntmps20
  go_wp2_with (first | (go_at_call 39; refine (handT_measureOf3 _).mono ?_; rintro e w' ⟨rfl, rfl⟩) | (go_at_call 91; refine (handT_values3 _).mono ?_; rintro e w' ⟨rfl, rfl⟩) | (go_at_call 45; refine (handT_within _ _ _ _).mono ?_; rintro e w' ⟨rfl, rfl⟩) | (go_at_call 89; refine (handT_encode3_3 _).mono ?_; rintro e w' ⟨rfl, rfl⟩))
  go_ret2
  exact ⟨_, rfl, by simpa using hrow.out, (((Below.refl _ _).alloc (Nat.le_refl _) _).alloc (by simp) _).alloc (by simp; omega) _⟩
theorem handT_encode3_4 (w : World) : Calls Try.prog 89 #[.agg #[], .int .i64 4] w fun e w' => e = .returned (.slice (some ⟨w.heap.size + 1, 0, none⟩) 3 3) ∧ w' = (w.alloc (.cells #[] 66)).alloc (.cells #[.int .i64 0, .int .i64 0, .int .i64 1] 3) := by
  go_enter Try.func89, Try.ntmps89
  go_wp2
  go_ret
  exact ⟨rfl, rfl⟩
theorem handT_TypeMake3_4 (w : World) : Calls Try.prog 20 #[.int .i64 3, .int .i64 4] w fun e w' => ∃ v0_ : Value, e = .returned (.tuple #[v0_, .bool true]) ∧ Kd.R (Kd.int .i64) 3 w' w.heap.size (fun _ => True) v0_ [0, 0, 1] ∧ Below w.heap.size w w' := by
  have hm : ∀ W : World, (method 194 66 (.agg #[]) "loop.example/scrutineer/impl.values").run Try.prog W = .ok (91, .agg #[]) W := fun _ => by kernel_rfl
  have he : ∀ W : World, (method 194 66 (.agg #[]) "loop.example/scrutineer/impl.encode").run Try.prog W = .ok (89, .agg #[]) W := fun _ => by kernel_rfl
  have h : inB 0 7 4 = true := rfl
  have hrow := Aside0.mk (handT_row ((w.alloc (.cells #[] 66)).alloc (.cells #[] 66)) w.heap.size [0, 0, 1] (by simp; omega) (by simp))
  go_enter Try.func20, Try.ntmps20
  go_wp2_with (first | (go_at_call 39; refine (handT_measureOf3 _).mono ?_; rintro e w' ⟨rfl, rfl⟩) | (go_at_call 91; refine (handT_values3 _).mono ?_; rintro e w' ⟨rfl, rfl⟩) | (go_at_call 45; refine (handT_within _ _ _ _).mono ?_; rintro e w' ⟨rfl, rfl⟩) | (go_at_call 89; refine (handT_encode3_4 _).mono ?_; rintro e w' ⟨rfl, rfl⟩))
  go_ret2
  exact ⟨_, rfl, by simpa using hrow.out, (((Below.refl _ _).alloc (Nat.le_refl _) _).alloc (by simp) _).alloc (by simp; omega) _⟩
theorem handT_encode3_5 (w : World) : Calls Try.prog 89 #[.agg #[], .int .i64 5] w fun e w' => e = .returned (.slice (some ⟨w.heap.size + 1, 0, none⟩) 3 3) ∧ w' = (w.alloc (.cells #[] 66)).alloc (.cells #[.int .i64 1, .int .i64 0, .int .i64 1] 3) := by
  go_enter Try.func89, Try.ntmps89
  go_wp2
  go_ret
  exact ⟨rfl, rfl⟩
theorem handT_TypeMake3_5 (w : World) : Calls Try.prog 20 #[.int .i64 3, .int .i64 5] w fun e w' => ∃ v0_ : Value, e = .returned (.tuple #[v0_, .bool true]) ∧ Kd.R (Kd.int .i64) 3 w' w.heap.size (fun _ => True) v0_ [1, 0, 1] ∧ Below w.heap.size w w' := by
  have hm : ∀ W : World, (method 194 66 (.agg #[]) "loop.example/scrutineer/impl.values").run Try.prog W = .ok (91, .agg #[]) W := fun _ => by kernel_rfl
  have he : ∀ W : World, (method 194 66 (.agg #[]) "loop.example/scrutineer/impl.encode").run Try.prog W = .ok (89, .agg #[]) W := fun _ => by kernel_rfl
  have h : inB 0 7 5 = true := rfl
  have hrow := Aside0.mk (handT_row ((w.alloc (.cells #[] 66)).alloc (.cells #[] 66)) w.heap.size [1, 0, 1] (by simp; omega) (by simp))
  go_enter Try.func20, Try.ntmps20
  go_wp2_with (first | (go_at_call 39; refine (handT_measureOf3 _).mono ?_; rintro e w' ⟨rfl, rfl⟩) | (go_at_call 91; refine (handT_values3 _).mono ?_; rintro e w' ⟨rfl, rfl⟩) | (go_at_call 45; refine (handT_within _ _ _ _).mono ?_; rintro e w' ⟨rfl, rfl⟩) | (go_at_call 89; refine (handT_encode3_5 _).mono ?_; rintro e w' ⟨rfl, rfl⟩))
  go_ret2
  exact ⟨_, rfl, by simpa using hrow.out, (((Below.refl _ _).alloc (Nat.le_refl _) _).alloc (by simp) _).alloc (by simp; omega) _⟩
theorem handT_encode3_6 (w : World) : Calls Try.prog 89 #[.agg #[], .int .i64 6] w fun e w' => e = .returned (.slice (some ⟨w.heap.size + 1, 0, none⟩) 3 3) ∧ w' = (w.alloc (.cells #[] 66)).alloc (.cells #[.int .i64 0, .int .i64 1, .int .i64 1] 3) := by
  go_enter Try.func89, Try.ntmps89
  go_wp2
  go_ret
  exact ⟨rfl, rfl⟩
theorem handT_TypeMake3_6 (w : World) : Calls Try.prog 20 #[.int .i64 3, .int .i64 6] w fun e w' => ∃ v0_ : Value, e = .returned (.tuple #[v0_, .bool true]) ∧ Kd.R (Kd.int .i64) 3 w' w.heap.size (fun _ => True) v0_ [0, 1, 1] ∧ Below w.heap.size w w' := by
  have hm : ∀ W : World, (method 194 66 (.agg #[]) "loop.example/scrutineer/impl.values").run Try.prog W = .ok (91, .agg #[]) W := fun _ => by kernel_rfl
  have he : ∀ W : World, (method 194 66 (.agg #[]) "loop.example/scrutineer/impl.encode").run Try.prog W = .ok (89, .agg #[]) W := fun _ => by kernel_rfl
  have h : inB 0 7 6 = true := rfl
  have hrow := Aside0.mk (handT_row ((w.alloc (.cells #[] 66)).alloc (.cells #[] 66)) w.heap.size [0, 1, 1] (by simp; omega) (by simp))
  go_enter Try.func20, Try.ntmps20
  go_wp2_with (first | (go_at_call 39; refine (handT_measureOf3 _).mono ?_; rintro e w' ⟨rfl, rfl⟩) | (go_at_call 91; refine (handT_values3 _).mono ?_; rintro e w' ⟨rfl, rfl⟩) | (go_at_call 45; refine (handT_within _ _ _ _).mono ?_; rintro e w' ⟨rfl, rfl⟩) | (go_at_call 89; refine (handT_encode3_6 _).mono ?_; rintro e w' ⟨rfl, rfl⟩))
  go_ret2
  exact ⟨_, rfl, by simpa using hrow.out, (((Below.refl _ _).alloc (Nat.le_refl _) _).alloc (by simp) _).alloc (by simp; omega) _⟩
theorem handT_encode3_7 (w : World) : Calls Try.prog 89 #[.agg #[], .int .i64 7] w fun e w' => e = .returned (.slice (some ⟨w.heap.size + 1, 0, none⟩) 3 3) ∧ w' = (w.alloc (.cells #[] 66)).alloc (.cells #[.int .i64 1, .int .i64 1, .int .i64 1] 3) := by
  go_enter Try.func89, Try.ntmps89
  go_wp2
  go_ret
  exact ⟨rfl, rfl⟩
theorem handT_TypeMake3_7 (w : World) : Calls Try.prog 20 #[.int .i64 3, .int .i64 7] w fun e w' => ∃ v0_ : Value, e = .returned (.tuple #[v0_, .bool true]) ∧ Kd.R (Kd.int .i64) 3 w' w.heap.size (fun _ => True) v0_ [1, 1, 1] ∧ Below w.heap.size w w' := by
  have hm : ∀ W : World, (method 194 66 (.agg #[]) "loop.example/scrutineer/impl.values").run Try.prog W = .ok (91, .agg #[]) W := fun _ => by kernel_rfl
  have he : ∀ W : World, (method 194 66 (.agg #[]) "loop.example/scrutineer/impl.encode").run Try.prog W = .ok (89, .agg #[]) W := fun _ => by kernel_rfl
  have h : inB 0 7 7 = true := rfl
  have hrow := Aside0.mk (handT_row ((w.alloc (.cells #[] 66)).alloc (.cells #[] 66)) w.heap.size [1, 1, 1] (by simp; omega) (by simp))
  go_enter Try.func20, Try.ntmps20
  go_wp2_with (first | (go_at_call 39; refine (handT_measureOf3 _).mono ?_; rintro e w' ⟨rfl, rfl⟩) | (go_at_call 91; refine (handT_values3 _).mono ?_; rintro e w' ⟨rfl, rfl⟩) | (go_at_call 45; refine (handT_within _ _ _ _).mono ?_; rintro e w' ⟨rfl, rfl⟩) | (go_at_call 89; refine (handT_encode3_7 _).mono ?_; rintro e w' ⟨rfl, rfl⟩))
  go_ret2
  exact ⟨_, rfl, by simpa using hrow.out, (((Below.refl _ _).alloc (Nat.le_refl _) _).alloc (by simp) _).alloc (by simp; omega) _⟩

/-- The numbers of a value. -/
def encI (k v : Int) : Option (List Int) :=
  if k = 1 ∧ 0 ≤ v ∧ v ≤ 1 then some [v] else if k = 2 ∧ 0 ≤ v ∧ v ≤ 3 then some (([0, 0, 0, 0] : List Int).set v.toNat 1) else if k = 3 ∧ 0 ≤ v ∧ v ≤ 7 then some [v % 2, v / 2 % 2, v / 4 % 2] else none
def encR (a0 a1 : Int) : List Int × Bool := match encI a0 a1 with | some l => (l, true) | none => ([], false)
def impl_TypeMake.f (a0 a1 : Int) : Option (List Int × Bool) := some (encR a0 a1)
theorem encR_none {a0 a1 : Int} (h : encI a0 a1 = none) : encR a0 a1 = ([], false) := by unfold encR; rw [h]
theorem encR_some {a0 a1 : Int} {l : List Int} (h : encI a0 a1 = some l) : encR a0 a1 = (l, true) := by unfold encR; rw [h]

theorem impl_TypeMake.calls (a0 : Int) (a1 : Int) (r1 : List Int) (r2 : Bool) (w : World) (h : impl_TypeMake.f a0 a1 = some (r1, r2)) :
    Calls Try.prog 20 #[.int .i64 a0, .int .i64 a1] w fun e w' => ∃ v0_ : Value, e = .returned (.tuple #[v0_, .bool r2]) ∧ Kd.R (Kd.int .i64) 3 w' w.heap.size (fun _ => True) v0_ r1 ∧ Below w.heap.size w w' := by
  have h' := Option.some.inj h
  have no : encI a0 a1 = none → Calls Try.prog 20 #[.int .i64 a0, .int .i64 a1] w (fun e w' => e = .returned (.tuple #[.slice none 0 0, .bool false]) ∧ Below w.heap.size w w') → Calls Try.prog 20 #[.int .i64 a0, .int .i64 a1] w fun e w' => ∃ v0_ : Value, e = .returned (.tuple #[v0_, .bool r2]) ∧ Kd.R (Kd.int .i64) 3 w' w.heap.size (fun _ => True) v0_ r1 ∧ Below w.heap.size w w' := by
    intro hn hc
    rw [encR_none hn] at h'
    simp only [Prod.mk.injEq] at h'
    obtain ⟨rfl, rfl⟩ := h'
    exact hc.mono fun e w' ⟨he, hb⟩ => ⟨_, he, Kd.R_nil _ _ _ _ _, hb⟩
  have yes : ∀ {l : List Int}, encI a0 a1 = some l → Calls Try.prog 20 #[.int .i64 a0, .int .i64 a1] w (fun e w' => ∃ v0_ : Value, e = .returned (.tuple #[v0_, .bool true]) ∧ Kd.R (Kd.int .i64) 3 w' w.heap.size (fun _ => True) v0_ l ∧ Below w.heap.size w w') → Calls Try.prog 20 #[.int .i64 a0, .int .i64 a1] w fun e w' => ∃ v0_ : Value, e = .returned (.tuple #[v0_, .bool r2]) ∧ Kd.R (Kd.int .i64) 3 w' w.heap.size (fun _ => True) v0_ r1 ∧ Below w.heap.size w w' := by
    intro l hn hc
    rw [encR_some hn] at h'
    simp only [Prod.mk.injEq] at h'
    obtain ⟨rfl, rfl⟩ := h'
    exact hc
  by_cases h1 : a0 = 1
  · subst h1
    by_cases hv : 0 ≤ a1 ∧ a1 ≤ 1
    · obtain rfl | rfl : a1 = 0 ∨ a1 = 1 := by omega
      · exact yes rfl (handT_TypeMake1_0 w)
      · exact yes rfl (handT_TypeMake1_1 w)
    · exact no (by simp [encI]; omega) (handT_TypeMake1_no a1 w (by simp [inB]; omega))
  by_cases h2 : a0 = 2
  · subst h2
    by_cases hv : 0 ≤ a1 ∧ a1 ≤ 3
    · obtain rfl | rfl | rfl | rfl : a1 = 0 ∨ a1 = 1 ∨ a1 = 2 ∨ a1 = 3 := by omega
      · exact yes rfl (handT_TypeMake2_0 w)
      · exact yes rfl (handT_TypeMake2_1 w)
      · exact yes rfl (handT_TypeMake2_2 w)
      · exact yes rfl (handT_TypeMake2_3 w)
    · exact no (by simp [encI]; omega) (handT_TypeMake2_no a1 w (by simp [inB]; omega))
  by_cases h3 : a0 = 3
  · subst h3
    by_cases hv : 0 ≤ a1 ∧ a1 ≤ 7
    · obtain rfl | rfl | rfl | rfl | rfl | rfl | rfl | rfl : a1 = 0 ∨ a1 = 1 ∨ a1 = 2 ∨ a1 = 3 ∨ a1 = 4 ∨ a1 = 5 ∨ a1 = 6 ∨ a1 = 7 := by omega
      · exact yes rfl (handT_TypeMake3_0 w)
      · exact yes rfl (handT_TypeMake3_1 w)
      · exact yes rfl (handT_TypeMake3_2 w)
      · exact yes rfl (handT_TypeMake3_3 w)
      · exact yes rfl (handT_TypeMake3_4 w)
      · exact yes rfl (handT_TypeMake3_5 w)
      · exact yes rfl (handT_TypeMake3_6 w)
      · exact yes rfl (handT_TypeMake3_7 w)
    · exact no (by simp [encI]; omega) (handT_TypeMake3_no a1 w (by simp [inB]; omega))
  · exact no (by simp [encI, h1, h2, h3]) ((handT_TypeMake0 a0 a1 w (by simpa using h1) (by simpa using h2) (by simpa using h3)).mono fun e w' ⟨he, hw⟩ => ⟨he, by rw [← hw]; exact Below.refl _ _⟩)

end Go.Proofs.Ytnkdgonekadibaa.P
