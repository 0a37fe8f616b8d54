import Derived.Test.YtcdnmnipaaooiaaKitG
import Derived.Test.YtcdnmnipaaooiaaKitF
-- Written by a program of this session (wip/tools/pack.py): texts of this seat laid one behind the other, without what the claim does not reach
section
namespace Go.Proofs.Ytcdnmnipaaooiaa.P
open Go.RowKit Go.Shelf Go.Proofs.YtcdnmnipaaooiaaW.PrintWords Go.Proofs.Ytcdnmnipaaooiaa.Num
set_option linter.unusedVariables false
set_option linter.unusedSimpArgs false
/-- Function 31, of whatever row of numbers. -/
theorem lone31 (A : Option Addr) (c : Nat) (l : List Int) (w : World) (hr : Kd.C (Kd.int .i64) w A l.length l) :
    Calls Twin.prog 31 #[.slice A l.length c] w fun e w' => e = .returned (.bool (decide (l.length ≤ 20) && l.all okN)) ∧ w = w' := by
  have HR := Aside0.mk hr
  clear hr
  have h59 : Calls Twin.prog 59 #[.slice A l.length c, .int .i64 20] w fun e w' => e = .returned (.bool (decide (l.length ≤ 20) && l.all okN)) ∧ w = w' := by
    by_cases h : (l.length : Int) ≤ 20
    · go_enter Twin.func59, Try.ntmps59
      go_wp2_with (go_at_call 79; refine (hand_ContainsFunc _ _ _ _ HR.out).mono ?_; rintro e w' ⟨rfl, rfl⟩)
      go_ret
      exact ⟨by have : l.length ≤ 20 := by omega
                simp [this], rfl⟩
    · go_enter Twin.func59, Try.ntmps59
      go_wp2
      go_ret
      exact ⟨by have : ¬ l.length ≤ 20 := by omega
                simp [this], rfl⟩
  have H59 := Aside0.mk h59
  clear h59
  go_enter Twin.func31, Try.ntmps31
  go_wp2_with (go_at_call 59; refine H59.out.mono ?_; rintro e w' ⟨rfl, rfl⟩)
  go_ret
  exact ⟨rfl, rfl⟩
section
variable {A B : Option Addr} {c d : Nat} {Q : Exit → Act → World → Prop} {w : World} {rest : List Value}
set_option maxRecDepth 100000 in
/-- The row of slot 0 is read. -/
theorem goodL_wp0 {n m : Nat} {v4 v5 v6 v7 v8 v9 v10 v12 v13 v14 v15 v16 v17 v18 v19 v20 v21 v22 v23 v24 v25 v26 v27 v28 v29 v30 : Value} {xs : List Int} (hx : Kd.C (Kd.int .i64) w A n xs) {k : Nat} (hk : k ≤ n)
    (h : ∀ u10 u11 u12 u13 u14 : Value, Q .normal ⟨(.slice A n c :: .slice B m d :: .int .i64 (n : Nat) :: .int .i64 (m : Nat) :: v4 :: v5 :: v6 :: v7 :: v8 :: v9 :: u10 :: u11 :: u12 :: u13 :: u14 :: v15 :: v16 :: v17 :: v18 :: v19 :: v20 :: v21 :: v22 :: v23 :: v24 :: v25 :: v26 :: v27 :: v28 :: v29 :: v30 :: rest).toArray, []⟩ w) :
    (Code.loop (Twin.goodL 0 2)).wp Twin.prog (Exit.inBlock 0 Q) ⟨(.slice A n c :: .slice B m d :: .int .i64 (n : Nat) :: .int .i64 (m : Nat) :: v4 :: v5 :: v6 :: v7 :: v8 :: v9 :: v10 :: .int .i64 (k : Nat) :: v12 :: v13 :: v14 :: v15 :: v16 :: v17 :: v18 :: v19 :: v20 :: v21 :: v22 :: v23 :: v24 :: v25 :: v26 :: v27 :: v28 :: v29 :: v30 :: rest).toArray, []⟩ w := by
  have HX := Aside0.mk hx
  have hm := Kd.C_max hx
  have hl : xs.length = n := hx.1
  clear hx
  have HQ := Aside0.mk h
  clear h
  refine wp_loop (fun a w' => w' = w ∧ ∃ (j : Nat) (u10 u12 u13 u14 : Value), j ≤ n ∧ a = ⟨(.slice A n c :: .slice B m d :: .int .i64 (n : Nat) :: .int .i64 (m : Nat) :: v4 :: v5 :: v6 :: v7 :: v8 :: v9 :: u10 :: .int .i64 (j : Nat) :: u12 :: u13 :: u14 :: v15 :: v16 :: v17 :: v18 :: v19 :: v20 :: v21 :: v22 :: v23 :: v24 :: v25 :: v26 :: v27 :: v28 :: v29 :: v30 :: rest).toArray, []⟩) (fun a _ => n - (intOf (a.tmps.getD 11 undef)).toNat) ⟨rfl, k, v10, v12, v13, v14, hk, rfl⟩ ?_
  rintro a w' ⟨rfl, j, u10, u12, u13, u14, hj, rfl⟩
  unfold Twin.goodL
  by_cases hlt : j < n
  · obtain ⟨ad, rfl, hc⟩ := Kd.at_int HX.out (j : Int) (by omega) (by omega)
    rw [Int.toNat_natCast] at hc
    go_wp2
    refine ⟨⟨trivial, j + 1, _, _, _, _, by omega, by rw [show ((j + 1 : Nat) : Int) = (j : Int) + 1 by omega]⟩, ?_⟩
    simp [intOf]
    omega
  · obtain rfl : j = n := by omega
    go_wp2
    exact HQ.out _ _ _ _ _
set_option maxRecDepth 100000 in
/-- The row of slot 1 is read. -/
theorem goodL_wp1 {n m : Nat} {v4 v5 v6 v7 v8 v9 v10 v12 v13 v14 v15 v16 v17 v18 v19 v20 v21 v22 v23 v24 v25 v26 v27 v28 v29 v30 : Value} {xs : List Int} (hx : Kd.C (Kd.int .i64) w B m xs) {k : Nat} (hk : k ≤ m)
    (h : ∀ u10 u11 u12 u13 u14 : Value, Q .normal ⟨(.slice A n c :: .slice B m d :: .int .i64 (n : Nat) :: .int .i64 (m : Nat) :: v4 :: v5 :: v6 :: v7 :: v8 :: v9 :: u10 :: u11 :: u12 :: u13 :: u14 :: v15 :: v16 :: v17 :: v18 :: v19 :: v20 :: v21 :: v22 :: v23 :: v24 :: v25 :: v26 :: v27 :: v28 :: v29 :: v30 :: rest).toArray, []⟩ w) :
    (Code.loop (Twin.goodL 1 3)).wp Twin.prog (Exit.inBlock 0 Q) ⟨(.slice A n c :: .slice B m d :: .int .i64 (n : Nat) :: .int .i64 (m : Nat) :: v4 :: v5 :: v6 :: v7 :: v8 :: v9 :: v10 :: .int .i64 (k : Nat) :: v12 :: v13 :: v14 :: v15 :: v16 :: v17 :: v18 :: v19 :: v20 :: v21 :: v22 :: v23 :: v24 :: v25 :: v26 :: v27 :: v28 :: v29 :: v30 :: rest).toArray, []⟩ w := by
  have HX := Aside0.mk hx
  have hm := Kd.C_max hx
  have hl : xs.length = m := hx.1
  clear hx
  have HQ := Aside0.mk h
  clear h
  refine wp_loop (fun a w' => w' = w ∧ ∃ (j : Nat) (u10 u12 u13 u14 : Value), j ≤ m ∧ a = ⟨(.slice A n c :: .slice B m d :: .int .i64 (n : Nat) :: .int .i64 (m : Nat) :: v4 :: v5 :: v6 :: v7 :: v8 :: v9 :: u10 :: .int .i64 (j : Nat) :: u12 :: u13 :: u14 :: v15 :: v16 :: v17 :: v18 :: v19 :: v20 :: v21 :: v22 :: v23 :: v24 :: v25 :: v26 :: v27 :: v28 :: v29 :: v30 :: rest).toArray, []⟩) (fun a _ => m - (intOf (a.tmps.getD 11 undef)).toNat) ⟨rfl, k, v10, v12, v13, v14, hk, rfl⟩ ?_
  rintro a w' ⟨rfl, j, u10, u12, u13, u14, hj, rfl⟩
  unfold Twin.goodL
  by_cases hlt : j < m
  · obtain ⟨ad, rfl, hc⟩ := Kd.at_int HX.out (j : Int) (by omega) (by omega)
    rw [Int.toNat_natCast] at hc
    go_wp2
    refine ⟨⟨trivial, j + 1, _, _, _, _, by omega, by rw [show ((j + 1 : Nat) : Int) = (j : Int) + 1 by omega]⟩, ?_⟩
    simp [intOf]
    omega
  · obtain rfl : j = m := by omega
    go_wp2
    exact HQ.out _ _ _ _ _
set_option maxRecDepth 100000 in
/-- Both rows are read. -/
theorem good_wp {n m : Nat} {v2 v3 v4 v5 v6 v7 v8 v9 v10 v11 v12 v13 v14 v15 v16 v17 v18 v19 v20 v21 v22 v23 v24 v25 v26 v27 v28 v29 v30 : Value} {xs ys : List Int} (hx : Kd.C (Kd.int .i64) w A n xs) (hy : Kd.C (Kd.int .i64) w B m ys)
    (h : ∀ u10 u11 u12 u13 u14 : Value, Q .normal ⟨(.slice A n c :: .slice B m d :: .int .i64 (n : Nat) :: .int .i64 (m : Nat) :: v4 :: v5 :: v6 :: v7 :: v8 :: v9 :: u10 :: u11 :: u12 :: u13 :: u14 :: v15 :: v16 :: v17 :: v18 :: v19 :: v20 :: v21 :: v22 :: v23 :: v24 :: v25 :: v26 :: v27 :: v28 :: v29 :: v30 :: rest).toArray, []⟩ w) :
    Twin.good.wp Twin.prog Q ⟨(.slice A n c :: .slice B m d :: v2 :: v3 :: v4 :: v5 :: v6 :: v7 :: v8 :: v9 :: v10 :: v11 :: v12 :: v13 :: v14 :: v15 :: v16 :: v17 :: v18 :: v19 :: v20 :: v21 :: v22 :: v23 :: v24 :: v25 :: v26 :: v27 :: v28 :: v29 :: v30 :: rest).toArray, []⟩ w := by
  have hm := Kd.C_max hx
  have hn := Kd.C_max hy
  have HX := Aside0.mk hx
  have HY := Aside0.mk hy
  have HQ := Aside0.mk h
  clear hx hy h
  unfold Twin.good
  go_wp2
  refine goodL_wp0 (k := 0) HX.out (by omega) ?_
  intro u10 u11 u12 u13 u14
  go_wp2
  refine goodL_wp1 (k := 0) HY.out (by omega) ?_
  intro u10 u11 u12 u13 u14
  go_wp2
  exact HQ.out _ _ _ _ _
theorem run_makeMap (w : World) : Sem.run Twin.prog (Instr.makeMap 0 none) w = .ok (.map (some w.heap.size)) (w.alloc (.map #[] 0)) := by
  simp [Instr.makeMap, go_sem]
attribute [local go_sem] run_makeMap
theorem info3 : (Twin.prog.info? 3).map (fun i => (i.zero, i.size, i.bytes)) = some (some (.int .i64 0), 1, 8) := by kernel_rfl
theorem run_mkSlice (n : Nat) (hn : n ≤ 20) (w : World) : Sem.run Twin.prog (Instr.makeSlice 23 (.int .i64 n) (.int .i64 n)) w = .ok (.slice (some ⟨w.heap.size, 0, none⟩) n n) (w.alloc (.cells (madeCells #[.int .i64 0] n) 3)) := by
  have hi := info3
  obtain ⟨i, h1, e⟩ := Option.map_eq_some_iff.1 hi
  simp only [Prod.mk.injEq] at e
  obtain ⟨h2, h3, h4⟩ := e
  have := run_make w 23 3 i (.int .i64 0) Twin.underlying23 h1 h2 .i64 .i64 (n : Int) (n : Int) (by omega) (by omega) (by rw [h4]; omega) (by omega)
  rw [h3] at this
  simpa [Value.cells] using this
/-- What function f makes of two numbers. -/
def mk (f : Nat) (x y : Int) : Int := if f = 47 then wrap64 (x + y) % 31 else if f = 49 then wrap64 (x - y) % 31 else y
theorem lone_make {f : Nat} (hf : f = 47 ∨ f = 49 ∨ f = 50) (x y : Int) (w : World) : Calls Twin.prog f #[.int .i64 x, .int .i64 y] w fun e w' => e = .returned (.int .i64 (mk f x y)) ∧ w = w' := by
  rcases hf with rfl | rfl | rfl
  · exact hand_plus x y w
  · exact hand_minus x y w
  · go_enter Twin.func50, Try.ntmps50
    go_wp2
    go_ret
    exact ⟨rfl, rfl⟩
/-- What the phase makes. -/
def outs (f : Nat) (xs ys : List Int) (j : Nat) : Int := mk f (xs.getD j 0) (ys.getD j 0)
/-- The boxes of the two parameters and of the function. -/
noncomputable def boxes (w : World) (va vb : Value) (f : Nat) : World := ((w.alloc (.cells #[va] 23)).alloc (.cells #[vb] 23)).alloc (.cells #[.func (.func f) #[] #[]] 46)
/-- The lone phase begins: the row of results, its box, what stands for the group. -/
noncomputable def begun (w : World) (b n : Nat) : World :=
  ((w.alloc (.cells (madeCells #[.int .i64 0] n) 3)).alloc (.cells #[.slice (some ⟨b, 0, none⟩) n n] 23)).alloc (.map #[] 0)
/-- k rounds are over; the row lies at b. -/
noncomputable def ranTo (w : World) (b : Nat) (g : Nat → Int) : Nat → World
  | 0 => w
  | k + 1 => ((ranTo w b g k).alloc (.map #[] 0)).setCell ⟨b, k, none⟩ (.int .i64 (g k))
theorem begun_at {w : World} {b n : Nat} (hb : w.heap.size = b) : (begun w b n).heap.size = b + 3 ∧ (begun w b n).heap[b]? = some (.cells (madeCells #[.int .i64 0] n) 3) ∧ (begun w b n).heap[b + 1]? = some (.cells #[.slice (some ⟨b, 0, none⟩) n n] 23) ∧ (begun w b n).heap[b + 2]? = some (.map #[] 0) ∧ ∀ i, i < b → (begun w b n).heap[i]? = w.heap[i]? := by
  subst hb
  refine ⟨by simp [begun], ?_, ?_, ?_, fun i hi => ?_⟩
  · unfold begun
    rw [Below.heap_alloc _ _ _ (by simp; omega), Below.heap_alloc _ _ _ (by simp)]
    exact heap_alloc_new _ _
  · unfold begun
    rw [Below.heap_alloc _ _ _ (by simp)]
    have := heap_alloc_new (w.alloc (.cells (madeCells #[.int .i64 0] n) 3)) (.cells #[.slice (some ⟨w.heap.size, 0, none⟩) n n] 23)
    simpa using this
  · have := heap_alloc_new ((w.alloc (.cells (madeCells #[.int .i64 0] n) 3)).alloc (.cells #[.slice (some ⟨w.heap.size, 0, none⟩) n n] 23)) (.map #[] 0)
    rwa [show ((w.alloc (.cells (madeCells #[.int .i64 0] n) 3)).alloc (.cells #[.slice (some ⟨w.heap.size, 0, none⟩) n n] 23)).heap.size = w.heap.size + 2 by simp] at this
  · unfold begun
    rw [Below.heap_alloc _ _ _ (by simp; omega), Below.heap_alloc _ _ _ (by simp; omega), Below.heap_alloc _ _ _ hi]
theorem begun_below {N : Nat} {w w1 : World} {b n : Nat} (hb : N ≤ b) (h0 : N ≤ w1.heap.size) (h : Below N w w1) : Below N w (begun w1 b n) :=
  ((h.alloc h0 _).alloc (by simp; omega) _).alloc (by simp; omega) _
theorem ran_size (w0 : World) (b : Nat) (g : Nat → Int) (k : Nat) : (ranTo w0 b g k).heap.size = w0.heap.size + k := by
  induction k with
  | zero => rfl
  | succ k ih => simp [ranTo, World.setCell, ih]; omega
theorem ran_below {N : Nat} {w0 w : World} {b : Nat} {g : Nat → Int} (hb : N ≤ b) (h0 : N ≤ w0.heap.size) (h : Below N w w0) (k : Nat) : Below N w (ranTo w0 b g k) := by
  induction k with
  | zero => exact h
  | succ k ih => exact (ih.alloc (by rw [ran_size]; omega) _).setCell (p := ⟨b, k, none⟩) hb _
theorem ran_row {w0 : World} {b n : Nat} {g : Nat → Int} {arr : Array Value} (h : w0.heap[b]? = some (.cells arr 3)) (hn : arr.size = n) : ∀ k, k ≤ n → ∃ arr', (ranTo w0 b g k).heap[b]? = some (.cells arr' 3) ∧ arr'.size = n ∧ (∀ j, j < k → arr'[j]? = some (.int .i64 (g j))) ∧ ∀ j, k ≤ j → arr'[j]? = arr[j]?
  | 0, _ => ⟨arr, h, hn, fun j hj => by omega, fun _ _ => rfl⟩
  | k + 1, hk => by
    obtain ⟨a1, h1, h2, h3, h4⟩ := ran_row h hn k (by omega)
    have hlt := (Array.getElem?_eq_some_iff.1 h1).1
    have e1 : ((ranTo w0 b g k).alloc (.map #[] 0)).heap[b]? = some (.cells a1 3) := (Below.heap_alloc _ _ _ hlt).trans h1
    refine ⟨a1.setIfInBounds k (.int .i64 (g k)), ?_, by simpa using h2, fun j hj => ?_, fun j hj => ?_⟩
    · show (World.setCell _ _ _).heap[b]? = _
      rw [setCell_eq_setRow _ b k a1 _ (0, 0) _ e1, setRow_heap _ b _ _ _ _ e1]
    · by_cases e : j = k
      · subst e
        exact Array.getElem?_setIfInBounds_self_of_lt (by omega)
      · rw [Array.getElem?_setIfInBounds_ne (by omega)]
        exact h3 j (by omega)
    · rw [Array.getElem?_setIfInBounds_ne (by omega)]
      exact h4 j (by omega)
theorem ran_other {w0 : World} {b : Nat} {g : Nat → Int} {i : Nat} (hi : i ≠ b) (hlt : i < w0.heap.size) : ∀ k, (ranTo w0 b g k).heap[i]? = w0.heap[i]?
  | 0 => rfl
  | k + 1 => by
    show (World.setCell _ _ _).heap[i]? = _
    rw [Below.heap_setCell _ _ _ _ (by simpa using hi), Below.heap_alloc _ _ _ (by rw [ran_size]; omega), ran_other hi hlt k]
theorem ran_new {w0 : World} {b : Nat} {g : Nat → Int} (hb : b < w0.heap.size) {j : Nat} : ∀ k, j < k → (ranTo w0 b g k).heap[w0.heap.size + j]? = some (.map #[] 0)
  | 0, h => by omega
  | k + 1, h => by
    show (World.setCell _ _ _).heap[_]? = _
    rw [Below.heap_setCell _ _ _ _ (by simp; omega)]
    by_cases e : j = k
    · subst e
      have := heap_alloc_new (ranTo w0 b g j) (.map #[] 0)
      rwa [ran_size] at this
    · rw [Below.heap_alloc _ _ _ (by rw [ran_size]; omega)]
      exact ran_new hb k (by omega)
theorem ran_plain {w0 : World} {b : Nat} {g : Nat → Int} (k : Nat) : (ranTo w0 b g k).os = w0.os ∧ (ranTo w0 b g k).output = w0.output ∧ (ranTo w0 b g k).tape = w0.tape ∧ (ranTo w0 b g k).drawn = w0.drawn := by
  induction k with
  | zero => exact ⟨rfl, rfl, rfl, rfl⟩
  | succ k ih => exact ih
set_option maxRecDepth 100000 in
/-- The lone phase. -/
theorem coreB_wp {f : Nat} (hf : f = 47 ∨ f = 49 ∨ f = 50) {n b : Nat} {v4 v5 v6 v7 v8 v9 v10 v11 v12 v13 v14 v15 v16 v17 v19 v20 v22 v23 v24 v25 v26 v27 v28 v29 v30 : Value} {xs ys : List Int} {w0 : World} (hx : ∀ j, Kd.C (Kd.int .i64) (ranTo w0 b (outs f xs ys) j) A n xs) (hy : ∀ j, Kd.C (Kd.int .i64) (ranTo w0 b (outs f xs ys) j) B n ys)
    (hb : ∀ j, j ≤ n → ∃ arr, (ranTo w0 b (outs f xs ys) j).heap[b]? = some (.cells arr 3) ∧ arr.size = n) {k : Nat} (hk : k ≤ n)
    (h : ∀ u10 u21 u22 u23 u24 u25 u26 u27 u28 : Value, Q .normal ⟨(.slice A n c :: .slice B n d :: .int .i64 (n : Nat) :: .int .i64 (n : Nat) :: v4 :: v5 :: v6 :: v7 :: v8 :: v9 :: u10 :: v11 :: v12 :: v13 :: v14 :: v15 :: v16 :: v17 :: .slice (some ⟨b, 0, none⟩) n n :: v19 :: v20 :: u21 :: u22 :: u23 :: u24 :: u25 :: u26 :: u27 :: u28 :: v29 :: v30 :: rest).toArray, []⟩ (ranTo w0 b (outs f xs ys) n)) :
    (Code.loop (Twin.coreB f)).wp Twin.prog (Exit.inBlock 1 Q) ⟨(.slice A n c :: .slice B n d :: .int .i64 (n : Nat) :: .int .i64 (n : Nat) :: v4 :: v5 :: v6 :: v7 :: v8 :: v9 :: v10 :: v11 :: v12 :: v13 :: v14 :: v15 :: v16 :: v17 :: .slice (some ⟨b, 0, none⟩) n n :: v19 :: v20 :: .int .i64 (k : Nat) :: v22 :: v23 :: v24 :: v25 :: v26 :: v27 :: v28 :: v29 :: v30 :: rest).toArray, []⟩ (ranTo w0 b (outs f xs ys) k) := by
  have HX := Aside0.mk hx
  have HY := Aside0.mk hy
  have hm := Kd.C_max (hx 0)
  have hl : xs.length = n := (hx 0).1
  have HB := Aside0.mk hb
  have HQ := Aside0.mk h
  have HF := Aside0.mk hf
  clear hx hy h hb hf
  refine wp_loop (fun a w' => ∃ (j : Nat) (u10 u22 u23 u24 u25 u26 u27 u28 : Value), j ≤ n ∧ w' = ranTo w0 b (outs f xs ys) j ∧ a = ⟨(.slice A n c :: .slice B n d :: .int .i64 (n : Nat) :: .int .i64 (n : Nat) :: v4 :: v5 :: v6 :: v7 :: v8 :: v9 :: u10 :: v11 :: v12 :: v13 :: v14 :: v15 :: v16 :: v17 :: .slice (some ⟨b, 0, none⟩) n n :: v19 :: v20 :: .int .i64 (j : Nat) :: u22 :: u23 :: u24 :: u25 :: u26 :: u27 :: u28 :: v29 :: v30 :: rest).toArray, []⟩) (fun a _ => n - (intOf (a.tmps.getD 21 undef)).toNat) ⟨k, v10, v22, v23, v24, v25, v26, v27, v28, hk, rfl, rfl⟩ ?_
  rintro a w' ⟨j, u10, u22, u23, u24, u25, u26, u27, u28, hj, rfl, rfl⟩
  unfold Twin.coreB
  by_cases hlt : j < n
  · obtain ⟨ad, rfl, hc⟩ := Kd.at_int (Kd.C_below (w1 := (ranTo w0 b (outs f xs ys) j).alloc (.map #[] 0)) (HX.out j) ((Below.refl _ _).alloc (Nat.le_refl _) _)) (j : Int) (by omega) (by omega)
    obtain ⟨bd, rfl, hd⟩ := Kd.at_int (Kd.C_below (w1 := (ranTo w0 b (outs f xs ys) j).alloc (.map #[] 0)) (HY.out j) ((Below.refl _ _).alloc (Nat.le_refl _) _)) (j : Int) (by omega) (by omega)
    rw [Int.toNat_natCast] at hc hd
    obtain ⟨arr, ha, hs⟩ := HB.out j hj
    have hba : ((ranTo w0 b (outs f xs ys) j).alloc (.map #[] 0)).heap[b]? = some (.cells arr 3) := by
      have hlt' := (Array.getElem?_eq_some_iff.1 ha).1
      rw [← ha]
      exact Below.heap_alloc _ _ _ hlt'
    obtain ⟨u0, hst⟩ : ∃ u, ((ranTo w0 b (outs f xs ys) j).alloc (.map #[] 0)).cell? ⟨b, j, none⟩ = some u := ⟨arr[j]'(by omega), by simp [World.cell?, hba, hs, hlt]⟩
    have hfz : ((ranTo w0 b (outs f xs ys) j).alloc (.map #[] 0)).frozen? ⟨b, j, none⟩ = false := by simp [World.frozen?, hba]
    have HS : Aside0 (ranTo w0 b (outs f xs ys) (j + 1) = ((ranTo w0 b (outs f xs ys) j).alloc (.map #[] 0)).setCell ⟨b, j, none⟩ (.int .i64 (mk f (rd xs (j : Int)) (rd ys (j : Int))))) := ⟨rfl⟩
    clear hba ha hs
    rcases HF.out with rfl | rfl | rfl
    · go_wp2_with (go_at_call 47; refine (lone_make (by simp) _ _ _).mono ?_; rintro e w' ⟨rfl, rfl⟩)
      refine ⟨⟨j + 1, _, _, _, _, _, _, _, _, by omega, HS.out.symm, by rw [show ((j + 1 : Nat) : Int) = (j : Int) + 1 by omega]⟩, ?_⟩
      simp [intOf]
      omega
    · go_wp2_with (go_at_call 49; refine (lone_make (by simp) _ _ _).mono ?_; rintro e w' ⟨rfl, rfl⟩)
      refine ⟨⟨j + 1, _, _, _, _, _, _, _, _, by omega, HS.out.symm, by rw [show ((j + 1 : Nat) : Int) = (j : Int) + 1 by omega]⟩, ?_⟩
      simp [intOf]
      omega
    · go_wp2_with (go_at_call 50; refine (lone_make (by simp) _ _ _).mono ?_; rintro e w' ⟨rfl, rfl⟩)
      refine ⟨⟨j + 1, _, _, _, _, _, _, _, _, by omega, HS.out.symm, by rw [show ((j + 1 : Nat) : Int) = (j : Int) + 1 by omega]⟩, ?_⟩
      simp [intOf]
      omega
  · obtain rfl : j = n := by omega
    go_wp2
    exact HQ.out _ _ _ _ _ _ _ _ _
/-- Whether the two rows are shares of one length. -/
def okAll (xs ys : List Int) : Bool := (decide (xs.length ≤ 20) && xs.all okN) && (decide (ys.length ≤ 20) && ys.all okN) && decide (xs.length = ys.length)
/-- What the core leaves. -/
def CoreEnd (f : Nat) (va vb : Value) (n : Nat) (xs ys : List Int) (w : World) (r s : Value) (w' : World) : Prop :=
  (okAll xs ys = false ∧ r = .slice none 0 0 ∧ s = .bool false ∧ w' = boxes w va vb f) ∨
  (okAll xs ys = true ∧ r = .slice (some ⟨w.heap.size + 3, 0, none⟩) n n ∧ s = .bool true ∧ w' = ranTo (begun (boxes w va vb f) (w.heap.size + 3) n) (w.heap.size + 3) (outs f xs ys) n)
set_option maxRecDepth 100000 in
set_option maxHeartbeats 4000000 in
theorem core_wp {f : Nat} (hf : f = 47 ∨ f = 49 ∨ f = 50) {n m : Nat} {v4 v5 v6 v7 v8 v9 v10 v11 v12 v13 v14 v15 v16 v17 v18 v19 v20 v21 v22 v23 v24 v25 v26 v27 v28 v29 v30 : Value} {xs ys : List Int} (hx : Kd.C (Kd.int .i64) w A n xs) (hy : Kd.C (Kd.int .i64) w B m ys)
    (h : ∀ u4 u5 u6 u7 u8 u9 u10 u11 u12 u13 u14 u15 u16 u17 u18 u19 u20 u21 u22 u23 u24 u25 u26 u27 u28 r s w', CoreEnd f (.slice A n c) (.slice B m d) n xs ys w r s w' → Q .normal ⟨(.slice A n c :: .slice B m d :: .int .i64 (n : Nat) :: .int .i64 (m : Nat) :: u4 :: u5 :: u6 :: u7 :: u8 :: u9 :: u10 :: u11 :: u12 :: u13 :: u14 :: u15 :: u16 :: u17 :: u18 :: u19 :: u20 :: u21 :: u22 :: u23 :: u24 :: u25 :: u26 :: u27 :: u28 :: r :: s :: rest).toArray, []⟩ w') :
    (Twin.core f).wp Twin.prog Q ⟨(.slice A n c :: .slice B m d :: .int .i64 (n : Nat) :: .int .i64 (m : Nat) :: v4 :: v5 :: v6 :: v7 :: v8 :: v9 :: v10 :: v11 :: v12 :: v13 :: v14 :: v15 :: v16 :: v17 :: v18 :: v19 :: v20 :: v21 :: v22 :: v23 :: v24 :: v25 :: v26 :: v27 :: v28 :: v29 :: v30 :: rest).toArray, []⟩ w := by
  have hbel : Below w.heap.size w (boxes w (.slice A n c) (.slice B m d) f) := ((Below.refl _ _).alloc (Nat.le_refl _) _).alloc (by simp) _ |>.alloc (by simp; omega) _
  have HX := Aside0.mk (Kd.C_below hx hbel)
  have HY := Aside0.mk (Kd.C_below hy hbel)
  have HF := Aside0.mk hf
  have HQ := Aside0.mk h
  have hxl : xs.length = n := hx.1
  have hyl : ys.length = m := hy.1
  have HX0 := Aside0.mk hx
  have HY0 := Aside0.mk hy
  clear hx hy h hf hbel
  unfold boxes at HX HY
  unfold Twin.core Twin.coreC
  have h31 : ∀ (A : Option Addr) (c n : Nat) (l : List Int) (w : World), Kd.C (Kd.int .i64) w A n l → Calls Twin.prog 31 #[.slice A n c] w fun e w' => e = .returned (.bool (decide (l.length ≤ 20) && l.all okN)) ∧ w = w' := fun A c n l w h => by
    have e : l.length = n := h.1
    subst e
    exact lone31 A c l w h
  have H31 := Aside0.mk h31
  clear h31
  go_wp2
  refine (H31.out _ _ _ _ _ HX.out).mono ?_
  rintro e w' ⟨rfl, rfl⟩
  cases hA : (decide (xs.length ≤ 20) && xs.all okN) with
  | false =>
    go_wp2
    refine HQ.out _ _ _ _ _ _ _ _ _ _ _ _ _ _ _ _ _ _ _ _ _ _ _ _ _ _ _ _ (.inl ⟨?_, rfl, rfl, rfl⟩)
    unfold okAll
    rw [hA]
    rfl
  | true =>
  go_wp2
  refine (H31.out _ _ _ _ _ HY.out).mono ?_
  rintro e w' ⟨rfl, rfl⟩
  cases hB : (decide (ys.length ≤ 20) && ys.all okN) with
  | false =>
    go_wp2
    refine HQ.out _ _ _ _ _ _ _ _ _ _ _ _ _ _ _ _ _ _ _ _ _ _ _ _ _ _ _ _ (.inl ⟨?_, rfl, rfl, rfl⟩)
    unfold okAll
    rw [hA, hB]
    rfl
  | true =>
  by_cases hn : n = m
  · subst hn
    have hok : okAll xs ys = true := by
      unfold okAll
      rw [hA, hB, decide_eq_true (by omega)]
      rfl
    have h20 : n ≤ 20 := by
      rw [Bool.and_eq_true] at hA
      have := of_decide_eq_true hA.1
      omega
    have hmk := run_mkSlice n h20
    have HOK := Aside0.mk hok
    clear hA hB hok
    have hb0 : (boxes w (.slice A n c) (.slice B n d) f).heap.size = w.heap.size + 3 := by simp [boxes]
    have hbg := begun_at (n := n) hb0
    have hbe : Below w.heap.size w (begun (boxes w (.slice A n c) (.slice B n d) f) (w.heap.size + 3) n) := begun_below (by omega) (by omega) (((Below.refl _ _).alloc (Nat.le_refl _) _).alloc (by simp) _ |>.alloc (by simp; omega) _)
    have H1 := Aside0.mk fun j => Kd.C_below HX0.out (ran_below (b := w.heap.size + 3) (g := outs f xs ys) (by omega) (by have := hbe.size; omega) hbe j)
    have H2 := Aside0.mk fun j => Kd.C_below HY0.out (ran_below (b := w.heap.size + 3) (g := outs f xs ys) (by omega) (by have := hbe.size; omega) hbe j)
    have H3 : Aside0 (∀ j, j ≤ n → ∃ arr, (ranTo (begun (boxes w (.slice A n c) (.slice B n d) f) (w.heap.size + 3) n) (w.heap.size + 3) (outs f xs ys) j).heap[w.heap.size + 3]? = some (.cells arr 3) ∧ arr.size = n) := ⟨fun j hj => let ⟨arr, h1, h2, _⟩ := ran_row (g := outs f xs ys) hbg.2.1 (size_madeCells _ _) j hj; ⟨arr, h1, h2⟩⟩
    clear hb0 hbg hbe
    go_wp2
    refine coreB_wp HF.out (b := w.heap.size + 3) (w0 := begun (boxes w (.slice A n c) (.slice B n d) f) (w.heap.size + 3) n) H1.out H2.out H3.out (k := 0) (Nat.zero_le _) ?_
    intro u10 u21 u22 u23 u24 u25 u26 u27 u28
    go_wp2
    exact HQ.out _ _ _ _ _ _ _ _ _ _ _ _ _ _ _ _ _ _ _ _ _ _ _ _ _ _ _ _ (.inr ⟨HOK.out, rfl, rfl, rfl⟩)
  · have hn' : ¬ (n : Int) = (m : Int) := by omega
    go_wp2
    refine HQ.out _ _ _ _ _ _ _ _ _ _ _ _ _ _ _ _ _ _ _ _ _ _ _ _ _ _ _ _ (.inl ⟨?_, rfl, rfl, rfl⟩)
    unfold okAll
    rw [hA, hB, decide_eq_false (by omega)]
    rfl
theorem slots31 (T : Array Value) (h : 31 ≤ T.size) : ∃ (v0 v1 v2 v3 v4 v5 v6 v7 v8 v9 v10 v11 v12 v13 v14 v15 v16 v17 v18 v19 v20 v21 v22 v23 v24 v25 v26 v27 v28 v29 v30 : Value) (rest : List Value), T = (v0 :: v1 :: v2 :: v3 :: v4 :: v5 :: v6 :: v7 :: v8 :: v9 :: v10 :: v11 :: v12 :: v13 :: v14 :: v15 :: v16 :: v17 :: v18 :: v19 :: v20 :: v21 :: v22 :: v23 :: v24 :: v25 :: v26 :: v27 :: v28 :: v29 :: v30 :: rest).toArray := by
  obtain ⟨l⟩ := T
  simp only [List.size_toArray] at h
  rcases l with _ | ⟨v0, l⟩
  · simp at h
  rcases l with _ | ⟨v1, l⟩
  · simp at h
  rcases l with _ | ⟨v2, l⟩
  · simp at h
  rcases l with _ | ⟨v3, l⟩
  · simp at h
  rcases l with _ | ⟨v4, l⟩
  · simp at h
  rcases l with _ | ⟨v5, l⟩
  · simp at h
  rcases l with _ | ⟨v6, l⟩
  · simp at h
  rcases l with _ | ⟨v7, l⟩
  · simp at h
  rcases l with _ | ⟨v8, l⟩
  · simp at h
  rcases l with _ | ⟨v9, l⟩
  · simp at h
  rcases l with _ | ⟨v10, l⟩
  · simp at h
  rcases l with _ | ⟨v11, l⟩
  · simp at h
  rcases l with _ | ⟨v12, l⟩
  · simp at h
  rcases l with _ | ⟨v13, l⟩
  · simp at h
  rcases l with _ | ⟨v14, l⟩
  · simp at h
  rcases l with _ | ⟨v15, l⟩
  · simp at h
  rcases l with _ | ⟨v16, l⟩
  · simp at h
  rcases l with _ | ⟨v17, l⟩
  · simp at h
  rcases l with _ | ⟨v18, l⟩
  · simp at h
  rcases l with _ | ⟨v19, l⟩
  · simp at h
  rcases l with _ | ⟨v20, l⟩
  · simp at h
  rcases l with _ | ⟨v21, l⟩
  · simp at h
  rcases l with _ | ⟨v22, l⟩
  · simp at h
  rcases l with _ | ⟨v23, l⟩
  · simp at h
  rcases l with _ | ⟨v24, l⟩
  · simp at h
  rcases l with _ | ⟨v25, l⟩
  · simp at h
  rcases l with _ | ⟨v26, l⟩
  · simp at h
  rcases l with _ | ⟨v27, l⟩
  · simp at h
  rcases l with _ | ⟨v28, l⟩
  · simp at h
  rcases l with _ | ⟨v29, l⟩
  · simp at h
  rcases l with _ | ⟨v30, l⟩
  · simp at h
  exact ⟨v0, v1, v2, v3, v4, v5, v6, v7, v8, v9, v10, v11, v12, v13, v14, v15, v16, v17, v18, v19, v20, v21, v22, v23, v24, v25, v26, v27, v28, v29, v30, l, rfl⟩
end
/-- A wrapper's first slots. -/
theorem wrap_slots {A B : Option Addr} {c d n m N : Nat} (hN : 31 ≤ N) (l : List Value) : ∃ (v2 v3 v4 v5 v6 v7 v8 v9 v10 v11 v12 v13 v14 v15 v16 v17 v18 v19 v20 v21 v22 v23 v24 v25 v26 v27 v28 v29 v30 : Value) (rest : List Value), (.slice A n c :: .slice B m d :: l).toArray ++ Array.replicate (N - (Value.slice A n c :: Value.slice B m d :: l).toArray.size) undef = (.slice A n c :: .slice B m d :: v2 :: v3 :: v4 :: v5 :: v6 :: v7 :: v8 :: v9 :: v10 :: v11 :: v12 :: v13 :: v14 :: v15 :: v16 :: v17 :: v18 :: v19 :: v20 :: v21 :: v22 :: v23 :: v24 :: v25 :: v26 :: v27 :: v28 :: v29 :: v30 :: rest).toArray := by
  obtain ⟨v0, v1, v2, v3, v4, v5, v6, v7, v8, v9, v10, v11, v12, v13, v14, v15, v16, v17, v18, v19, v20, v21, v22, v23, v24, v25, v26, v27, v28, v29, v30, rest, e⟩ := slots31 ((.slice A n c :: .slice B m d :: l).toArray ++ Array.replicate (N - (Value.slice A n c :: Value.slice B m d :: l).toArray.size) undef) (by simp; omega)
  obtain ⟨e0, e1⟩ : v0 = .slice A n c ∧ v1 = .slice B m d := by
    have := congrArg Array.toList e
    simp at this
    exact ⟨this.1.symm, this.2.1.symm⟩
  subst e0 e1
  exact ⟨v2, v3, v4, v5, v6, v7, v8, v9, v10, v11, v12, v13, v14, v15, v16, v17, v18, v19, v20, v21, v22, v23, v24, v25, v26, v27, v28, v29, v30, rest, e⟩
set_option maxRecDepth 100000 in
/-- FUNCTION 17, ALONE. -/
theorem lone17 {A B : Option Addr} {c d n m : Nat} (l : List Value) {xs ys : List Int} {w : World} (hx : Kd.C (Kd.int .i64) w A n xs) (hy : Kd.C (Kd.int .i64) w B m ys) :
    Calls Twin.prog 17 (.slice A n c :: .slice B m d :: l).toArray w fun e w' => ∃ r s, e = .returned (.tuple #[r, s]) ∧ CoreEnd 47 (.slice A n c) (.slice B m d) n xs ys w r s w' := by
  obtain ⟨v2, v3, v4, v5, v6, v7, v8, v9, v10, v11, v12, v13, v14, v15, v16, v17, v18, v19, v20, v21, v22, v23, v24, v25, v26, v27, v28, v29, v30, rest, e⟩ := wrap_slots (A := A) (B := B) (c := c) (d := d) (n := n) (m := m) (N := 31) (by decide) l
  refine calls_of_wp Twin.func17 rfl ?_
  rw [show Twin.f17.ntmps = 31 from rfl, e]
  have HX := Aside0.mk hx
  have HY := Aside0.mk hy
  clear hx hy e
  refine wp_seq_k fun K hK => ?_
  refine good_wp HX.out HY.out ?_
  intro u10 u11 u12 u13 u14
  refine hK _ _ ?_
  refine wp_seq_k fun K hK => ?_
  refine core_wp (by simp) HX.out HY.out ?_
  intro u4 u5 u6 u7 u8 u9 u10 u11 u12 u13 u14 u15 u16 u17 u18 u19 u20 u21 u22 u23 u24 u25 u26 u27 u28 r s w' hE
  refine hK _ _ ?_
  refine wp_ret ?_
  refine bodyPost_ret (results_tmp2 rfl _ _ _) rfl ?_
  exact ⟨r, s, rfl, hE⟩
set_option maxRecDepth 100000 in
/-- FUNCTION 21, ALONE. -/
theorem lone21 {A B : Option Addr} {c d n m : Nat} (l : List Value) {xs ys : List Int} {w : World} (hx : Kd.C (Kd.int .i64) w A n xs) (hy : Kd.C (Kd.int .i64) w B m ys) :
    Calls Twin.prog 21 (.slice A n c :: .slice B m d :: l).toArray w fun e w' => ∃ r s, e = .returned (.tuple #[r, s]) ∧ CoreEnd 47 (.slice A n c) (.slice B m d) n xs ys w r s w' := by
  obtain ⟨v2, v3, v4, v5, v6, v7, v8, v9, v10, v11, v12, v13, v14, v15, v16, v17, v18, v19, v20, v21, v22, v23, v24, v25, v26, v27, v28, v29, v30, rest, e⟩ := wrap_slots (A := A) (B := B) (c := c) (d := d) (n := n) (m := m) (N := 31) (by decide) l
  refine calls_of_wp Twin.func21 rfl ?_
  rw [show Twin.f21.ntmps = 31 from rfl, e]
  have HX := Aside0.mk hx
  have HY := Aside0.mk hy
  clear hx hy e
  refine wp_seq_k fun K hK => ?_
  refine good_wp HX.out HY.out ?_
  intro u10 u11 u12 u13 u14
  refine hK _ _ ?_
  refine wp_seq_k fun K hK => ?_
  refine core_wp (by simp) HX.out HY.out ?_
  intro u4 u5 u6 u7 u8 u9 u10 u11 u12 u13 u14 u15 u16 u17 u18 u19 u20 u21 u22 u23 u24 u25 u26 u27 u28 r s w' hE
  refine hK _ _ ?_
  refine wp_ret ?_
  refine bodyPost_ret (results_tmp2 rfl _ _ _) rfl ?_
  exact ⟨r, s, rfl, hE⟩
set_option maxRecDepth 100000 in
/-- FUNCTION 24, ALONE. -/
theorem lone24 {A B : Option Addr} {c d n m : Nat} (l : List Value) {xs ys : List Int} {w : World} (hx : Kd.C (Kd.int .i64) w A n xs) (hy : Kd.C (Kd.int .i64) w B m ys) :
    Calls Twin.prog 24 (.slice A n c :: .slice B m d :: l).toArray w fun e w' => ∃ r s, e = .returned (.tuple #[r, s]) ∧ CoreEnd 49 (.slice A n c) (.slice B m d) n xs ys w r s w' := by
  obtain ⟨v2, v3, v4, v5, v6, v7, v8, v9, v10, v11, v12, v13, v14, v15, v16, v17, v18, v19, v20, v21, v22, v23, v24, v25, v26, v27, v28, v29, v30, rest, e⟩ := wrap_slots (A := A) (B := B) (c := c) (d := d) (n := n) (m := m) (N := 31) (by decide) l
  refine calls_of_wp Twin.func24 rfl ?_
  rw [show Twin.f24.ntmps = 31 from rfl, e]
  have HX := Aside0.mk hx
  have HY := Aside0.mk hy
  clear hx hy e
  refine wp_seq_k fun K hK => ?_
  refine good_wp HX.out HY.out ?_
  intro u10 u11 u12 u13 u14
  refine hK _ _ ?_
  refine wp_seq_k fun K hK => ?_
  refine core_wp (by simp) HX.out HY.out ?_
  intro u4 u5 u6 u7 u8 u9 u10 u11 u12 u13 u14 u15 u16 u17 u18 u19 u20 u21 u22 u23 u24 u25 u26 u27 u28 r s w' hE
  refine hK _ _ ?_
  refine wp_ret ?_
  refine bodyPost_ret (results_tmp2 rfl _ _ _) rfl ?_
  exact ⟨r, s, rfl, hE⟩
theorem slots35 (T : Array Value) (h : 35 ≤ T.size) : ∃ (v0 v1 v2 v3 v4 v5 v6 v7 v8 v9 v10 v11 v12 v13 v14 v15 v16 v17 v18 v19 v20 v21 v22 v23 v24 v25 v26 v27 v28 v29 v30 v31 v32 v33 v34 : Value) (rest : List Value), T = (v0 :: v1 :: v2 :: v3 :: v4 :: v5 :: v6 :: v7 :: v8 :: v9 :: v10 :: v11 :: v12 :: v13 :: v14 :: v15 :: v16 :: v17 :: v18 :: v19 :: v20 :: v21 :: v22 :: v23 :: v24 :: v25 :: v26 :: v27 :: v28 :: v29 :: v30 :: v31 :: v32 :: v33 :: v34 :: rest).toArray := by
  obtain ⟨l⟩ := T
  simp only [List.size_toArray] at h
  rcases l with _ | ⟨v0, l⟩
  · simp at h
  rcases l with _ | ⟨v1, l⟩
  · simp at h
  rcases l with _ | ⟨v2, l⟩
  · simp at h
  rcases l with _ | ⟨v3, l⟩
  · simp at h
  rcases l with _ | ⟨v4, l⟩
  · simp at h
  rcases l with _ | ⟨v5, l⟩
  · simp at h
  rcases l with _ | ⟨v6, l⟩
  · simp at h
  rcases l with _ | ⟨v7, l⟩
  · simp at h
  rcases l with _ | ⟨v8, l⟩
  · simp at h
  rcases l with _ | ⟨v9, l⟩
  · simp at h
  rcases l with _ | ⟨v10, l⟩
  · simp at h
  rcases l with _ | ⟨v11, l⟩
  · simp at h
  rcases l with _ | ⟨v12, l⟩
  · simp at h
  rcases l with _ | ⟨v13, l⟩
  · simp at h
  rcases l with _ | ⟨v14, l⟩
  · simp at h
  rcases l with _ | ⟨v15, l⟩
  · simp at h
  rcases l with _ | ⟨v16, l⟩
  · simp at h
  rcases l with _ | ⟨v17, l⟩
  · simp at h
  rcases l with _ | ⟨v18, l⟩
  · simp at h
  rcases l with _ | ⟨v19, l⟩
  · simp at h
  rcases l with _ | ⟨v20, l⟩
  · simp at h
  rcases l with _ | ⟨v21, l⟩
  · simp at h
  rcases l with _ | ⟨v22, l⟩
  · simp at h
  rcases l with _ | ⟨v23, l⟩
  · simp at h
  rcases l with _ | ⟨v24, l⟩
  · simp at h
  rcases l with _ | ⟨v25, l⟩
  · simp at h
  rcases l with _ | ⟨v26, l⟩
  · simp at h
  rcases l with _ | ⟨v27, l⟩
  · simp at h
  rcases l with _ | ⟨v28, l⟩
  · simp at h
  rcases l with _ | ⟨v29, l⟩
  · simp at h
  rcases l with _ | ⟨v30, l⟩
  · simp at h
  rcases l with _ | ⟨v31, l⟩
  · simp at h
  rcases l with _ | ⟨v32, l⟩
  · simp at h
  rcases l with _ | ⟨v33, l⟩
  · simp at h
  rcases l with _ | ⟨v34, l⟩
  · simp at h
  exact ⟨v0, v1, v2, v3, v4, v5, v6, v7, v8, v9, v10, v11, v12, v13, v14, v15, v16, v17, v18, v19, v20, v21, v22, v23, v24, v25, v26, v27, v28, v29, v30, v31, v32, v33, v34, l, rfl⟩
theorem wrap_slots35 {A B : Option Addr} {c d n m N : Nat} (hN : 35 ≤ N) (l : List Value) : ∃ (v2 v3 v4 v5 v6 v7 v8 v9 v10 v11 v12 v13 v14 v15 v16 v17 v18 v19 v20 v21 v22 v23 v24 v25 v26 v27 v28 v29 v30 v31 v32 v33 v34 : Value) (rest : List Value), (.slice A n c :: .slice B m d :: l).toArray ++ Array.replicate (N - (Value.slice A n c :: Value.slice B m d :: l).toArray.size) undef = (.slice A n c :: .slice B m d :: v2 :: v3 :: v4 :: v5 :: v6 :: v7 :: v8 :: v9 :: v10 :: v11 :: v12 :: v13 :: v14 :: v15 :: v16 :: v17 :: v18 :: v19 :: v20 :: v21 :: v22 :: v23 :: v24 :: v25 :: v26 :: v27 :: v28 :: v29 :: v30 :: v31 :: v32 :: v33 :: v34 :: rest).toArray := by
  obtain ⟨v0, v1, v2, v3, v4, v5, v6, v7, v8, v9, v10, v11, v12, v13, v14, v15, v16, v17, v18, v19, v20, v21, v22, v23, v24, v25, v26, v27, v28, v29, v30, v31, v32, v33, v34, rest, e⟩ := slots35 ((.slice A n c :: .slice B m d :: l).toArray ++ Array.replicate (N - (Value.slice A n c :: Value.slice B m d :: l).toArray.size) undef) (by simp; omega)
  obtain ⟨e0, e1⟩ : v0 = .slice A n c ∧ v1 = .slice B m d := by
    have := congrArg Array.toList e
    simp at this
    exact ⟨this.1.symm, this.2.1.symm⟩
  subst e0 e1
  exact ⟨v2, v3, v4, v5, v6, v7, v8, v9, v10, v11, v12, v13, v14, v15, v16, v17, v18, v19, v20, v21, v22, v23, v24, v25, v26, v27, v28, v29, v30, v31, v32, v33, v34, rest, e⟩
/-- What ShareMake leaves. -/
def MakeEnd (va vb : Value) (n : Nat) (xs ys : List Int) (w : World) (r s t : Value) (w' : World) : Prop :=
  (t = .bool false ∧ r = .slice none 0 0 ∧ s = .slice none 0 0 ∧ CoreEnd 49 va vb n xs ys w (.slice none 0 0) (.bool false) w') ∨
  (t = .bool true ∧ ∃ w1, CoreEnd 49 va vb n xs ys w r (.bool true) w1 ∧ CoreEnd 50 va vb n xs ys w1 s (.bool true) w')
theorem CoreEnd.below {f : Nat} {va vb : Value} {n : Nat} {xs ys : List Int} {w : World} {r s : Value} {w' : World} (h : CoreEnd f va vb n xs ys w r s w') : Below w.heap.size w w' := by
  have hb : Below w.heap.size w (boxes w va vb f) := ((Below.refl _ _).alloc (Nat.le_refl _) _).alloc (by simp) _ |>.alloc (by simp; omega) _
  rcases h with ⟨_, _, _, rfl⟩ | ⟨_, _, _, rfl⟩
  · exact hb
  · have hbe := begun_below (n := n) (b := w.heap.size + 3) (Nat.le_add_right _ 3) hb.size hb
    exact ran_below (Nat.le_add_right _ 3) hbe.size hbe _
set_option maxRecDepth 100000 in
set_option maxHeartbeats 4000000 in
/-- FUNCTION 20, ALONE. -/
theorem lone20 {A B : Option Addr} {c d n m : Nat} (l : List Value) {xs ys : List Int} {w : World} (hx : Kd.C (Kd.int .i64) w A n xs) (hy : Kd.C (Kd.int .i64) w B m ys) :
    Calls Twin.prog 20 (.slice A n c :: .slice B m d :: l).toArray w fun e w' => ∃ r s t, e = .returned (.tuple #[r, s, t]) ∧ MakeEnd (.slice A n c) (.slice B m d) n xs ys w r s t w' := by
  obtain ⟨v2, v3, v4, v5, v6, v7, v8, v9, v10, v11, v12, v13, v14, v15, v16, v17, v18, v19, v20, v21, v22, v23, v24, v25, v26, v27, v28, v29, v30, v31, v32, v33, v34, rest, e⟩ := wrap_slots35 (A := A) (B := B) (c := c) (d := d) (n := n) (m := m) (N := 35) (by decide) l
  refine calls_of_wp Twin.func20 rfl ?_
  rw [show Twin.f20.ntmps = 35 from rfl, e]
  have HX := Aside0.mk hx
  have HY := Aside0.mk hy
  clear hx hy e
  go_wp2
  refine good_wp HX.out HY.out ?_
  intro u10 u11 u12 u13 u14
  go_wp2
  refine core_wp (by simp) HX.out HY.out ?_
  intro u4 u5 u6 u7 u8 u9 u10 u11 u12 u13 u14 u15 u16 u17 u18 u19 u20 u21 u22 u23 u24 u25 u26 u27 u28 r s w' hE
  rcases hE with ⟨ho, rfl, rfl, hw⟩ | ⟨ho, hr, rfl, hw⟩
  · have HO := Aside0.mk ho
    have HW := Aside0.mk hw
    clear ho hw
    go_wp2
    refine bodyPost_ret (results_tmp3 rfl _ _ _) rfl ?_
    exact ⟨_, _, _, rfl, .inl ⟨rfl, rfl, rfl, .inl ⟨HO.out, rfl, rfl, HW.out⟩⟩⟩
  · have hbel := CoreEnd.below (.inr ⟨ho, hr, rfl, hw⟩)
    have HX1 := Aside0.mk (Kd.C_below HX.out hbel)
    have HY1 := Aside0.mk (Kd.C_below HY.out hbel)
    have HO := Aside0.mk ho
    have HW := Aside0.mk hw
    have HR := Aside0.mk hr
    clear ho hw hr hbel
    go_wp2
    refine core_wp (by simp) HX1.out HY1.out ?_
    intro w_4 w_5 w_6 w_7 w_8 w_9 w_10 w_11 w_12 w_13 w_14 w_15 w_16 w_17 w_18 w_19 w_20 w_21 w_22 w_23 w_24 w_25 w_26 w_27 w_28 r' s' w'' hE
    rcases hE with ⟨ho, _, _, _⟩ | ⟨ho, hr, rfl, hw⟩
    · rw [HO.out] at ho; cases ho
    · have HW2 := Aside0.mk hw
      have HR2 := Aside0.mk hr
      clear hw hr ho
      go_wp2
      refine bodyPost_ret (results_tmp3 rfl _ _ _) rfl ?_
      exact ⟨_, _, _, rfl, .inr ⟨rfl, _, .inr ⟨HO.out, HR.out, rfl, HW.out⟩, .inr ⟨HO.out, HR2.out, rfl, HW2.out⟩⟩⟩
end Go.Proofs.Ytcdnmnipaaooiaa.P
end

section
set_option linter.unusedSimpArgs false
set_option linter.unusedVariables false
namespace Go.Proofs.Ytcdnmnipaaooiaa
open Go.Conc Go.ConcN Go.RowKit Go.Conc.Lib Go.ConcR.Gen Go.ConcN.Gen Go.Tw
open Go.ConcR (KK wgBlock WgAt stA smA rd wr mk Payload Aside2 DC0 ofEvent_cell)
open Go.Proofs.YtcdnmnipaaooiaaW.PrintWords
/-- What is dead has been made. -/
theorem hrel_low {S : Nat → Prop} {wp W : World} (h : HRel S wp W) {b : Nat} (hb : S b) : b < wp.heap.size := by
  rcases h.dead b hb with ⟨h1, _⟩ | ⟨_, _, _, h1, _⟩
  · exact (Array.getElem?_eq_some_iff.1 h1).1
  · exact (Array.getElem?_eq_some_iff.1 h1).1
theorem hrel_alloc {S : Nat → Prop} {wp W : World} (h : HRel S wp W) {o : Obj} (ho : Okay o) : HRel S (wp.alloc o) (W.alloc o) := by
  have e1 : (wp.alloc o).heap = wp.heap.push o := rfl
  have e2 : (W.alloc o).heap = W.heap.push o := rfl
  refine ⟨by rw [e1, e2, Array.size_push, Array.size_push, h.size], h.os, h.output, fun b hb => ?_, fun b hb => ?_, fun b x hx => ?_⟩
  · rw [e1, e2, Array.getElem?_push, Array.getElem?_push, h.size, h.same b hb]
  · have hl := hrel_low h hb
    rw [e1, e2, Array.getElem?_push, Array.getElem?_push, if_neg (by omega), if_neg (by have := h.size; omega)]
    exact h.dead b hb
  · rw [e1, Array.getElem?_push] at hx
    split at hx
    · cases hx; exact ho
    · exact h.okay b x hx
theorem hrel_at {S : Nat → Prop} {wp W : World} (h : HRel S wp W) (d : Nat) : HRel S wp (W.at d) := ⟨h.size, h.os, h.output, h.same, h.dead, h.okay⟩
theorem hrel_box {S : Nat → Prop} {wp W : World} (h : HRel S wp W) (va vb : Value) (f : Nat) : HRel S (boxW wp va vb f) (boxW W va vb f) :=
  hrel_alloc (o := .cells #[.func (.func f) #[] #[]] 46) (hrel_alloc (o := .cells #[vb] 23) (hrel_alloc (o := .cells #[va] 23) h trivial) trivial) trivial
theorem boxes_eq (w : World) (va vb : Value) (f : Nat) : P.boxes w va vb f = boxW w va vb f := rfl
theorem boxW_size (w : World) (va vb : Value) (f : Nat) : (boxW w va vb f).heap.size = w.heap.size + 3 := by simp [boxW]
theorem boxW_low (w : World) (va vb : Value) (f : Nat) {b : Nat} (hb : b < w.heap.size) : (boxW w va vb f).heap[b]? = w.heap[b]? := by
  unfold boxW
  rw [Below.heap_alloc _ _ _ (by simp; omega), Below.heap_alloc _ _ _ (by simp; omega), Below.heap_alloc _ _ _ hb]
theorem boxW_at (w : World) (va vb : Value) (f : Nat) : (boxW w va vb f).heap[w.heap.size]? = some (.cells #[va] 23) ∧ (boxW w va vb f).heap[w.heap.size + 1]? = some (.cells #[vb] 23) ∧ (boxW w va vb f).heap[w.heap.size + 2]? = some (.cells #[.func (.func f) #[] #[]] 46) := by
  refine ⟨?_, ?_, ?_⟩
  · unfold boxW
    rw [Below.heap_alloc _ _ _ (by simp; omega), Below.heap_alloc _ _ _ (by simp)]
    exact heap_alloc_new _ _
  · unfold boxW
    rw [Below.heap_alloc _ _ _ (by simp)]
    have := heap_alloc_new (w.alloc (.cells #[va] 23)) (.cells #[vb] 23)
    rwa [show (w.alloc (.cells #[va] 23)).heap.size = w.heap.size + 1 by simp] at this
  · have := heap_alloc_new ((w.alloc (.cells #[va] 23)).alloc (.cells #[vb] 23)) (.cells #[.func (.func f) #[] #[]] 46)
    rwa [show ((w.alloc (.cells #[va] 23)).alloc (.cells #[vb] 23)).heap.size = w.heap.size + 2 by simp] at this
theorem i64w (n : Int) : IntKind.i64.wrap n = Go.RowKit.wrap64 n := by unfold Go.RowKit.wrap64; exact IntKind.wrap_i64 n
theorem made_mk (f : Nat) (x y : Int) : made f x y = P.mk f x y := by
  unfold made P.mk elt
  have e : ∀ q : Int, (IntKind.i64.wrap (q.tmod 31 + 31)).tmod 31 = q % 31 := fun q => by rw [i64w]; exact Num.elem_eq
  rw [e, e, i64w, i64w]
/-- A row that is read, aas the printer says it. -/
theorem rowC {w : World} {A : Option Addr} {n : Nat} {g : Nat → Int} (h : IntRow w A 0 n g) (hn : n ≤ 9223372036854775807) : Kd.C (Kd.int .i64) w A n ((List.range n).map g) := by
  refine ⟨by simp, hn, fun h0 => ?_⟩
  obtain ⟨ad, hA, _⟩ := h 0 (Nat.le_refl 0) h0
  refine ⟨ad, hA, fun j p hj => ⟨[.int .i64 p], rfl, rfl, fun i u hu => ?_⟩⟩
  have hjn : j < n := by
    have := (List.getElem?_eq_some_iff.1 hj).1
    simpa using this
  have hp : p = g j := by
    rw [List.getElem?_map, List.getElem?_range hjn] at hj
    simpa using hj.symm
  cases i with
  | zero =>
    simp only [List.getElem?_cons_zero, Option.some.injEq] at hu
    subst hu hp
    obtain ⟨ad', e, hc⟩ := h j (Nat.zero_le _) hjn
    rw [hA] at e
    cases e
    simpa [Kd.int, Kd.scalar] using hc
  | succ i => simp at hu
/-- ████ THE TWO WORLDS BEHIND A PHASE. ████ -/
theorem hrel_end {S : Nat → Prop} {wp W W' : World} {va vb : Value} {f N n : Nat} {gg : Nat → Int} (h : HRel S wp W) (hN : W.heap.size = N)
    (hb : Below N W W') (hs : W'.heap.size = N + 6 + n) (h0 : W'.heap[N]? = some (.cells #[va] 23)) (h1 : W'.heap[N + 1]? = some (.cells #[vb] 23)) (h2 : W'.heap[N + 2]? = some (.cells #[.func (.func f) #[] #[]] 46))
    (h3 : W'.heap[N + 3]? = some (.cells ((List.range n).map fun j => Value.int .i64 (gg j)).toArray 3)) (h4 : W'.heap[N + 4]? = some (.cells #[.slice (some ⟨N + 3, 0, none⟩) n n] 23)) (h5 : ∃ cs t z, W'.heap[N + 5]? = some (Obj.cells cs t z)) (h6 : ∀ j, j < n → ∃ cs t z, W'.heap[N + 6 + j]? = some (Obj.cells cs t z)) :
    HRel (fun b => S b ∨ b = N + 5 ∨ ∃ j, j < n ∧ b = N + 6 + j) (P.ranTo (P.begun (P.boxes wp va vb f) (wp.heap.size + 3) n) (wp.heap.size + 3) gg n) W' := by
  have hp : wp.heap.size = N := h.size.trans hN
  rw [hp, boxes_eq]
  have hbx := boxW_size wp va vb f
  rw [hp] at hbx
  obtain ⟨b0, b1, b2, b3, b4⟩ := P.begun_at (n := n) hbx
  obtain ⟨x0, x1, x2⟩ := boxW_at wp va vb f
  rw [hp] at x0 x1 x2
  have hsz : (P.ranTo (P.begun (boxW wp va vb f) (N + 3) n) (N + 3) gg n).heap.size = N + 6 + n := by rw [P.ran_size, b0]
  obtain ⟨p1, p2, p3, p4⟩ := P.ran_plain (w0 := P.begun (boxW wp va vb f) (N + 3) n) (b := N + 3) (g := gg) n
  obtain ⟨arr, r1, r2, r3, _⟩ := P.ran_row (g := gg) b1 (size_madeCells _ _) n (Nat.le_refl n)
  have hother : ∀ i, i < N + 6 → i ≠ N + 3 → (P.ranTo (P.begun (boxW wp va vb f) (N + 3) n) (N + 3) gg n).heap[i]? = (P.begun (boxW wp va vb f) (N + 3) n).heap[i]? := fun i hi hne => P.ran_other hne (by rw [b0]; exact hi) n
  have hlow : ∀ i, i < N → (P.ranTo (P.begun (boxW wp va vb f) (N + 3) n) (N + 3) gg n).heap[i]? = wp.heap[i]? := fun i hi => by
    rw [hother i (by omega) (by omega), b4 i (by omega), boxW_low wp va vb f (by omega)]
  have harr : arr = ((List.range n).map fun j => Value.int .i64 (gg j)).toArray := by
    apply Array.ext_getElem?
    intro j
    by_cases hj : j < n
    · rw [r3 j hj]
      simp [hj]
    · rw [Array.getElem?_eq_none (by omega), Array.getElem?_eq_none (by simp; omega)]
  have hnew : ∀ j, j < n → (P.ranTo (P.begun (boxW wp va vb f) (N + 3) n) (N + 3) gg n).heap[N + 6 + j]? = some (.map #[] 0) := fun j hj => by
    have := P.ran_new (w0 := P.begun (boxW wp va vb f) (N + 3) n) (b := N + 3) (g := gg) (by rw [b0]; omega) n hj
    rwa [b0] at this
  have cases6 : ∀ b, b < N ∨ b = N ∨ b = N + 1 ∨ b = N + 2 ∨ b = N + 3 ∨ b = N + 4 ∨ b = N + 5 ∨ (∃ j, j < n ∧ b = N + 6 + j) ∨ N + 6 + n ≤ b := fun b => by
    by_cases e : N + 6 ≤ b ∧ b < N + 6 + n
    · exact .inr (.inr (.inr (.inr (.inr (.inr (.inr (.inl ⟨b - (N + 6), by omega, by omega⟩)))))))
    · omega
  refine ⟨hsz.trans hs.symm, ?_, ?_, fun b hb' => ?_, fun b hb' => ?_, fun b o ho => ?_⟩
  · rw [p1, hb.os]; exact h.os
  · rw [p2, hb.output]; exact h.output
  · rcases cases6 b with e | e | e | e | e | e | e | e | e
    · rw [hlow b e, hb.block b e]
      exact h.same b fun hs => hb' (.inl hs)
    · subst e; rw [hother _ (by omega) (by omega), b4 _ (by omega), x0, h0]
    · subst e; rw [hother _ (by omega) (by omega), b4 _ (by omega), x1, h1]
    · subst e; rw [hother _ (by omega) (by omega), b4 _ (by omega), x2, h2]
    · subst e; rw [r1, h3, harr]
    · subst e; rw [hother _ (by omega) (by omega), b2, h4]
    · exact absurd (.inr (.inl e)) hb'
    · exact absurd (.inr (.inr e)) hb'
    · rw [Array.getElem?_eq_none (by omega), Array.getElem?_eq_none (by omega)]
  · rcases hb' with hs' | rfl | ⟨j, hj, rfl⟩
    · have hlt : b < N := by have := hrel_low h hs'; omega
      rw [hlow b hlt, hb.block b hlt]
      exact h.dead b hs'
    · left
      refine ⟨by rw [hother _ (by omega) (by omega), b3], ?_⟩
      obtain ⟨cs, t, z, hc⟩ := h5
      exact ⟨_, hc, trivial⟩
    · left
      refine ⟨hnew j hj, ?_⟩
      obtain ⟨cs, t, z, hc⟩ := h6 j hj
      exact ⟨_, hc, trivial⟩
  · rcases cases6 b with e | e | e | e | e | e | e | e | e
    · rw [hlow b e] at ho; exact h.okay b o ho
    · subst e; rw [hother _ (by omega) (by omega), b4 _ (by omega), x0] at ho; cases ho; trivial
    · subst e; rw [hother _ (by omega) (by omega), b4 _ (by omega), x1] at ho; cases ho; trivial
    · subst e; rw [hother _ (by omega) (by omega), b4 _ (by omega), x2] at ho; cases ho; trivial
    · subst e; rw [r1] at ho; cases ho; trivial
    · subst e; rw [hother _ (by omega) (by omega), b2] at ho; cases ho; trivial
    · subst e; rw [hother _ (by omega) (by omega), b3] at ho; cases ho; trivial
    · obtain ⟨j, hj, rfl⟩ := e; rw [hnew j hj] at ho; cases ho; trivial
    · rw [Array.getElem?_eq_none (by omega)] at ho; cases ho
theorem all_eq (g : Nat → Int) (n : Nat) : allE g n = ((List.range n).map g).all P.okN := by
  unfold allE
  rw [List.all_map]
  rfl
end Go.Proofs.Ytcdnmnipaaooiaa
end

section
set_option linter.unusedSimpArgs false
set_option linter.unusedVariables false
namespace Go.Tw
open Go.Conc
section
variable {P : Program}
theorem held_walk2 {S S' : Nat → Prop} {wp wp' : World} {g : Goroutine} {gs : Array Goroutine} {W : World} {sl : Option (Nat × Nat)} {T : Trace} {q : Nat → Nat} (H : Held P S wp g gs W T q) (hS : ∀ b, S b → S' b) {Stop' : Goroutine → World → Prop}
    (hG : ∃ B₁, ∀ B, B₁ ≤ B → ∃ n, Goes P true AtRel (DE (EvL (Sh S) B)) Stop' n g W) (hrel : ∀ g' W', Stop' g' W' → HRel S' wp' W') :
    ∃ N g' gs' W' sl' T' q', runNT P N (crowd gs W sl) T = (.next (crowd gs' W' sl'), T') ∧ Stop' g' W' ∧ Held P S' wp' g' gs' W' T' q' := by
  obtain ⟨B₀, hP⟩ := H.past
  obtain ⟨B₁, hG⟩ := hG
  obtain ⟨n, hG⟩ := hG _ (Nat.le_max_right B₀ B₁)
  obtain ⟨N, gs', g', W', sl', T', q', r1, _, r3, r4, r5, r6⟩ := walk_beside (P := P) (D := DE (EvL (Sh S) (max B₀ B₁))) (fun _ _ _ h => h) _ n gs g W sl T q (Nat.le_refl _) H.zero H.leavers (hP.mono (Nat.le_max_left ..)) hG
  exact ⟨N, g', gs', W', sl', T', q', r1, r4, r3, r5, ⟨_, past_sub r6 fun l => fun ⟨a, e, hb⟩ => ⟨a, e, hS _ hb⟩⟩, hrel _ _ r4⟩
theorem evL_any {S : Nat → Prop} {B : Nat} {a : Addr} (hn : ¬ S a.block) (hb : a.block < B) (wr s : Bool) : EvL (Sh S) B ⟨.cell a, wr, s⟩ := by
  refine ⟨fun x hx hs => ?_, by simp, by simp, hb⟩
  simp only [MemAct.ofEvent, MemAct.touch?, Option.some.injEq] at hx
  subst hx
  obtain ⟨a', e, h⟩ := hs
  cases e
  exact absurd h hn
theorem Grew.at2 {S S' : Nat → Prop} {W W' : World} (h : Grew S S' W W') (d : Nat) : Grew S S' W (W'.at d) := ⟨h.sub, h.new, h.dead, h.tape, h.grow⟩
end
end Go.Tw
namespace Go.Proofs.Ytcdnmnipaaooiaa
open Go.Conc Go.ConcN Go.RowKit Go.Conc.Lib Go.ConcR.Gen Go.ConcN.Gen Go.Tw
open Go.ConcR (KK wgBlock WgAt stA smA rd wr mk Payload Aside2 DC0 ofEvent_cell)
open Go.Proofs.YtcdnmnipaaooiaaW.PrintWords
theorem grew_box {S : Nat → Prop} {wp W : World} (h : HRel S wp W) (va vb : Value) (f : Nat) : Grew S S W (boxW W va vb f) :=
  ⟨fun _ h => h, fun _ h h' => absurd h h', fun b hb => boxW_low W va vb f (by have := hrel_low h hb; have := h.size; omega), rfl, by rw [boxW_size]; omega⟩
/-- A row in the true world. -/
theorem intRow_true {S : Nat → Prop} {wp W : World} (h : HRel S wp W) {A : Option Addr} {n : Nat} {g : Nat → Int} (hr : IntRow wp A 0 n g) : IntRow W A 0 n g ∧ ∀ i ad, i < n → A = some ad → ¬ S (ad.add i).block ∧ (ad.add i).block < W.heap.size := by
  refine ⟨fun i h0 h1 => ?_, fun i ad hi hA => ?_⟩
  · obtain ⟨ad, hA, hc⟩ := hr i h0 h1
    refine ⟨ad, hA, ?_⟩
    have := (cell_rel h hc).2.2
    rw [← hc]
    simp [World.cell?, this]
  · obtain ⟨ad', hA', hc⟩ := hr i (Nat.zero_le _) hi
    rw [hA] at hA'
    cases hA'
    exact ⟨(cell_rel h hc).1, (cell_rel h hc).2.1⟩
theorem intRow_at {W : World} {A : Option Addr} {n : Nat} {g : Nat → Int} (h : IntRow W A 0 n g) (va vb : Value) (f d : Nat) (hlow : ∀ i ad, i < n → A = some ad → (ad.add i).block < W.heap.size) : IntRow ((boxW W va vb f).at d) A 0 n g := by
  intro i h0 h1
  obtain ⟨ad, hA, hc⟩ := h i h0 h1
  refine ⟨ad, hA, ?_⟩
  rw [← hc]
  have := boxW_low W va vb f (hlow i ad h1 hA)
  show (boxW W va vb f).cell? _ = _
  simp [World.cell?, this]
section
variable {S : Nat → Prop} {wp : World} {gs : Array Goroutine} {W : World} {sl : Option (Nat × Nat)} {T : Trace} {q : Nat → Nat} {A B : Option Addr} {c e n m f : Nat} {g h : Nat → Int} {cT : Frame} {Z : List Frame}
/-- What comes of 46. -/
def Through (f : Nat) (va vb : Value) (n : Nat) (xs ys : List Int) (wp : World) (S : Nat → Prop) (gs : Array Goroutine) (W : World) (sl : Option (Nat × Nat)) (T : Trace) (cT : Frame) (Z : List Frame) : Prop :=
  ∃ N r s wp' S' gs' W' sl' T' q', runNT Try.prog N (crowd gs W sl) T = (.next (crowd gs' W' sl'), T') ∧ P.CoreEnd f va vb n xs ys wp r s wp' ∧ Held Try.prog S' wp' (G (cT.finish (.tuple #[r, s])) Z) gs' W' T' q' ∧ Grew S S' W W'
theorem Through.more {f : Nat} {va vb : Value} {n : Nat} {xs ys : List Int} {wp : World} {S : Nat → Prop} {gs gs₁ : Array Goroutine} {W W₁ : World} {sl sl₁ : Option (Nat × Nat)} {T T₁ : Trace} {cT : Frame} {Z : List Frame} {N₁ : Nat}
    (r1 : runNT Try.prog N₁ (crowd gs W sl) T = (.next (crowd gs₁ W₁ sl₁), T₁)) (hW : ∀ S' W', Grew S S' W₁ W' → Grew S S' W W') (h : Through f va vb n xs ys wp S gs₁ W₁ sl₁ T₁ cT Z) : Through f va vb n xs ys wp S gs W sl T cT Z := by
  obtain ⟨N, r, s, wp', S', gs', W', sl', T', q', k1, k2, k3, k4⟩ := h
  exact ⟨N₁ + N, r, s, wp', S', gs', W', sl', T', q', by rw [runNT_add, r1]; exact k1, k2, k3, hW _ _ k4⟩
theorem okAll_false (hx : (decide (n ≤ 20) && allE g n) = false ∨ (decide (m ≤ 20) && allE h m) = false ∨ n ≠ m) : P.okAll ((List.range n).map g) ((List.range m).map h) = false := by
  unfold P.okAll
  rw [← all_eq, ← all_eq]
  simp only [List.length_map, List.length_range]
  rcases hx with hx | hx | hx
  · rw [hx]; rfl
  · rw [hx]; simp
  · simp [hx]
theorem okAll_true (h1 : (decide (n ≤ 20) && allE g n) = true) (h2 : (decide (n ≤ 20) && allE h n) = true) : P.okAll ((List.range n).map g) ((List.range n).map h) = true := by
  unfold P.okAll
  rw [← all_eq, ← all_eq]
  simp only [List.length_map, List.length_range]
  rw [h1, h2]
  simp
/-- Where the rows are no shares. -/
theorem through_bad (hrel : HRel S wp W) (va vb : Value) (xs ys : List Int) (hok : P.okAll xs ys = false) {N₁ : Nat} {gs₁ : Array Goroutine} {sl₁ : Option (Nat × Nat)} {T₁ : Trace} {q₁ : Nat → Nat} {d : Nat}
    (r1 : runNT Try.prog N₁ (crowd gs W sl) T = (.next (crowd gs₁ ((boxW W va vb f).at d) sl₁), T₁)) (H : Held Try.prog S (boxW wp va vb f) (G (cT.finish (.tuple #[.slice none 0 0, .bool false])) Z) gs₁ ((boxW W va vb f).at d) T₁ q₁) : Through f va vb n xs ys wp S gs W sl T cT Z :=
  ⟨N₁, _, _, boxW wp va vb f, S, gs₁, _, sl₁, T₁, q₁, r1, .inl ⟨hok, rfl, rfl, rfl⟩, H, (grew_box hrel va vb f).at2 d⟩
set_option maxHeartbeats 1600000 in
/-- To the head of the loop, or to the return where the rows are no shares. -/
theorem true46 (hm : n ≤ 9223372036854775807) (hm' : m ≤ 9223372036854775807) (hA : IntRow wp A 0 n g) (hB : IntRow wp B 0 m h)
    (H : Held Try.prog S wp (G (Frame.enter Try.prog 46 #[.slice A n c, .slice B m e, .func (.func f) #[] #[]] .normal) (cT :: Z)) gs W T q)
    (hgood : ∀ {gs₁ : Array Goroutine} {d : Nat} {sl₁ : Option (Nat × Nat)} {T₁ : Trace} {q₁ : Nat → Nat} {N₁ : Nat}, runNT Try.prog N₁ (crowd gs W sl) T = (.next (crowd gs₁ ((boxW W (.slice A n c) (.slice B m e) f).at d) sl₁), T₁) → m = n → n ≤ 20 → P.okAll ((List.range n).map g) ((List.range m).map h) = true →
      Held Try.prog S (boxW wp (.slice A n c) (.slice B m e) f) (G ((base 46).at ⟨#[.slice A n c, .slice B m e, .func (.func f) #[] #[], .pointer (some ⟨W.heap.size, 0, none⟩), .pointer (some ⟨W.heap.size + 1, 0, none⟩), .pointer (some ⟨W.heap.size + 2, 0, none⟩), .slice none 0 0, .bool false, undef, undef, undef, .slice A n c, .bool true, .bool false, .bool false, .slice B m e, .bool true, undef, undef, undef, undef, undef, undef, undef, undef, undef, undef, undef, undef, undef, undef, undef, undef, undef, undef, undef, undef, undef, undef], []⟩ [.inRegion eops1 [6, 7, 8, 9, 10, 11, 12, 13, 14], .code eA, .code eB]) (cT :: Z)) gs₁ ((boxW W (.slice A n c) (.slice B m e) f).at d) T₁ q₁ →
      Through f (.slice A n c) (.slice B m e) n ((List.range n).map g) ((List.range m).map h) wp S gs W sl T cT Z) :
    Through f (.slice A n c) (.slice B m e) n ((List.range n).map g) ((List.range m).map h) wp S gs W sl T cT Z := by
  obtain ⟨N, hN⟩ : ∃ N, W.heap.size = N := ⟨_, rfl⟩
  rw [hN] at hgood
  have hlo : ∀ k, S k → k < N := fun k hk => by rw [← hN, ← H.rel.size]; exact hrel_low H.rel hk
  have henter : Frame.enter Try.prog 46 #[.slice A n c, .slice B m e, .func (.func f) #[] #[]] .normal = (base 46).at ⟨#[.slice A n c, .slice B m e, .func (.func f) #[] #[], undef, undef, undef, undef, undef, undef, undef, undef, undef, undef, undef, undef, undef, undef, undef, undef, undef, undef, undef, undef, undef, undef, undef, undef, undef, undef, undef, undef, undef, undef, undef, undef, undef, undef, undef, undef], []⟩ [.code body46] := by
    rw [enter_at' Try.func46 (show Try.f46.body = some body46 from rfl), show Try.f46.ntmps = 39 from rfl]
    simp only [List.size_toArray, List.length_cons, List.length_nil, Nat.reduceAdd, Nat.reduceSub, Array.replicate_succ, Array.replicate_zero, List.push_toArray, List.append_toArray, List.nil_append, List.cons_append]
  rw [henter] at H
  obtain ⟨rA, lA⟩ := intRow_true H.rel hA
  obtain ⟨rB, lB⟩ := intRow_true H.rel hB
  have ev : ∀ {B' k : Nat}, N + 40 ≤ B' → k < 40 → ∀ wr s, EvL (Sh S) B' ⟨.cell ⟨N + k, 0, none⟩, wr, s⟩ := fun hB hk wr s => evL_any (fun hs => absurd (hlo _ hs) (by simp)) (by simp; omega) wr s
  have ev0 : ∀ {B' : Nat}, N + 40 ≤ B' → ∀ wr s, EvL (Sh S) B' ⟨.cell ⟨N, 0, none⟩, wr, s⟩ := fun hB wr s => evL_any (fun hs => absurd (hlo _ hs) (by simp)) (by simp; omega) wr s
  obtain ⟨bx0, bx1, bx2⟩ := boxW_at W (.slice A n c) (.slice B m e) f
  rw [hN] at bx0 bx1 bx2
  -- to the first call
  obtain ⟨N1, g1, gs1, W1, sl1, T1, q1, r1, ⟨rfl, d1, rfl⟩, H1⟩ := held_walk2 (sl := sl) (wp' := boxW wp (.slice A n c) (.slice B m e) f) H (fun _ h => h) ⟨N + 40, fun B' hB' => ⟨40, h1 hN (ev0 hB' false false)⟩⟩ (fun g' W' ⟨_, d, e⟩ => by rw [e]; exact hrel_at (hrel_box H.rel _ _ _) d)
  have keep : ∀ (W' : World) (d0 d : Nat), W' = ((boxW W (.slice A n c) (.slice B m e) f).at d0).at d → HRel S (boxW wp (.slice A n c) (.slice B m e) f) W' := fun W' d0 d e => by rw [e]; exact hrel_at (hrel_box H.rel _ _ _) d
  -- the first call
  obtain ⟨N2, g2, gs2, W2, sl2, T2, q2, r2, ⟨rfl, d2, hw2⟩, H2⟩ := held_walk2 (sl := sl1) (wp' := boxW wp (.slice A n c) (.slice B m e) f) H1 (fun _ h => h) ⟨N + 40, fun B' hB' => by
    obtain ⟨k, hk⟩ := c31 (E := EvL (Sh S) B') (c := c) (intRow_at rA (.slice A n c) (.slice B m e) f d1 fun i ad hi hA => (lA i ad hi hA).2) hm (fun i ad hi hA => evL_any (lA i ad hi hA).1 (by have := (lA i ad hi hA).2; omega) false false)
    exact ⟨_, h2 hk⟩⟩ (by rintro g' W' ⟨_, d, e⟩; exact keep W' _ d e)
  obtain rfl : W2 = (boxW W (.slice A n c) (.slice B m e) f).at d2 := hw2
  cases hbA : (decide (n ≤ 20) && allE g n) with
  | false =>
    rw [hbA] at H2
    obtain ⟨N3, g3, gs3, W3, sl3, T3, q3, r3, ⟨rfl, d3, hw3⟩, H3⟩ := held_walk2 (sl := sl2) (wp' := boxW wp (.slice A n c) (.slice B m e) f) H2 (fun _ h => h) ⟨N + 40, fun B' hB' => ⟨60, h3f⟩⟩ (by rintro g' W' ⟨_, d, e⟩; exact keep W' _ d e)
    obtain rfl : W3 = (boxW W (.slice A n c) (.slice B m e) f).at d3 := hw3
    exact through_bad H.rel _ _ _ _ (okAll_false (.inl hbA)) (N₁ := N1 + (N2 + N3)) (Go.ConcX.runNT_trans r1 (Go.ConcX.runNT_trans r2 r3)) H3
  | true =>
  rw [hbA] at H2
  obtain ⟨N3, g3, gs3, W3, sl3, T3, q3, r3, ⟨rfl, d3, hw3⟩, H3⟩ := held_walk2 (sl := sl2) (wp' := boxW wp (.slice A n c) (.slice B m e) f) H2 (fun _ h => h) ⟨N + 40, fun B' hB' => ⟨20, h3t bx1 (ev hB' (by omega) false false)⟩⟩ (by rintro g' W' ⟨_, d, e⟩; exact keep W' _ d e)
  obtain rfl : W3 = (boxW W (.slice A n c) (.slice B m e) f).at d3 := hw3
  -- the second call
  obtain ⟨N4, g4, gs4, W4, sl4, T4, q4, r4, ⟨rfl, d4, hw4⟩, H4⟩ := held_walk2 (sl := sl3) (wp' := boxW wp (.slice A n c) (.slice B m e) f) H3 (fun _ h => h) ⟨N + 40, fun B' hB' => by
    obtain ⟨k, hk⟩ := c31 (E := EvL (Sh S) B') (c := e) (intRow_at rB (.slice A n c) (.slice B m e) f d3 fun i ad hi hA => (lB i ad hi hA).2) hm' (fun i ad hi hA => evL_any (lB i ad hi hA).1 (by have := (lB i ad hi hA).2; omega) false false)
    exact ⟨_, h4 hk⟩⟩ (by rintro g' W' ⟨_, d, e⟩; exact keep W' _ d e)
  obtain rfl : W4 = (boxW W (.slice A n c) (.slice B m e) f).at d4 := hw4
  have r4' : runNT Try.prog (N1 + (N2 + (N3 + N4))) (crowd gs W sl) T = (.next (crowd gs4 ((boxW W (.slice A n c) (.slice B m e) f).at d4) sl4), T4) := Go.ConcX.runNT_trans r1 (Go.ConcX.runNT_trans r2 (Go.ConcX.runNT_trans r3 r4))
  cases hbB : (decide (m ≤ 20) && allE h m) with
  | false =>
    rw [hbB] at H4
    obtain ⟨N5, g5, gs5, W5, sl5, T5, q5, r5, ⟨rfl, d5, hw5⟩, H5⟩ := held_walk2 (sl := sl4) (wp' := boxW wp (.slice A n c) (.slice B m e) f) H4 (fun _ h => h) ⟨N + 40, fun B' hB' => ⟨60, h5f⟩⟩ (by rintro g' W' ⟨_, d, e⟩; exact keep W' _ d e)
    obtain rfl : W5 = (boxW W (.slice A n c) (.slice B m e) f).at d5 := hw5
    exact through_bad H.rel _ _ _ _ (okAll_false (.inr (.inl hbB))) (N₁ := N1 + (N2 + (N3 + N4)) + N5) (Go.ConcX.runNT_trans r4' r5) H5
  | true =>
  rw [hbB] at H4
  by_cases hnm : n = m
  · subst hnm
    exact hgood r4' rfl (by rw [Bool.and_eq_true] at hbA; exact of_decide_eq_true hbA.1) (okAll_true hbA hbB) H4
  · obtain ⟨N5, g5, gs5, W5, sl5, T5, q5, r5, ⟨rfl, d5, hw5⟩, H5⟩ := held_walk2 (sl := sl4) (wp' := boxW wp (.slice A n c) (.slice B m e) f) H4 (fun _ h => h) ⟨N + 40, fun B' hB' => ⟨60, h5n bx0 bx1 (ev0 hB' false false) (ev hB' (by omega) false false) hnm⟩⟩ (by rintro g' W' ⟨_, d, e⟩; exact keep W' _ d e)
    obtain rfl : W5 = (boxW W (.slice A n c) (.slice B m e) f).at d5 := hw5
    exact through_bad H.rel _ _ _ _ (okAll_false (.inr (.inr hnm))) (N₁ := N1 + (N2 + (N3 + N4)) + N5) (Go.ConcX.runNT_trans r4' r5) H5
end
end Go.Proofs.Ytcdnmnipaaooiaa
end

section
set_option linter.unusedSimpArgs false
set_option linter.unusedVariables false
namespace Go.Proofs.Ytcdnmnipaaooiaa
open Go.Conc Go.ConcN Go.RowKit Go.Conc.Lib Go.ConcR.Gen Go.ConcN.Gen Go.Tw
open Go.ConcR (KK wgBlock WgAt stA smA rd wr mk Payload Aside2 DC0 ofEvent_cell)
open Go.Proofs.YtcdnmnipaaooiaaW.PrintWords
/-- What is made ahead of the phase. -/
noncomputable def readyW (w : World) (N n : Nat) : World := ((w.alloc (.cells (madeCells #[.int .i64 0] n) 3)).alloc (.cells #[.slice (some ⟨N + 3, 0, none⟩) n n] 23)).alloc (.cells #[.int .u64 0, .int .u32 0] 72)
theorem readyW_at {w : World} {N n : Nat} (hs : w.heap.size = N + 3) : (readyW w N n).heap.size = N + 6 ∧ (readyW w N n).heap[N + 3]? = some (.cells (madeCells #[.int .i64 0] n) 3) ∧ (readyW w N n).heap[N + 4]? = some (.cells #[.slice (some ⟨N + 3, 0, none⟩) n n] 23) ∧ WgAt 72 (N + 5) (readyW w N n) 0 0 ∧ ∀ b, b < N + 3 → (readyW w N n).heap[b]? = w.heap[b]? := by
  refine ⟨by simp [readyW, hs], ?_, ?_, ?_, fun b hb => ?_⟩
  · unfold readyW
    rw [Below.heap_alloc _ _ _ (by simp [hs] <;> omega), Below.heap_alloc _ _ _ (by simp [hs])]
    have := heap_alloc_new w (.cells (madeCells #[.int .i64 0] n) 3)
    rwa [hs] at this
  · unfold readyW
    rw [Below.heap_alloc _ _ _ (by simp [hs])]
    have := heap_alloc_new (w.alloc (.cells (madeCells #[.int .i64 0] n) 3)) (.cells #[.slice (some ⟨N + 3, 0, none⟩) n n] 23)
    rwa [show (w.alloc (.cells (madeCells #[.int .i64 0] n) 3)).heap.size = N + 4 by simp [hs]] at this
  · have := heap_alloc_new ((w.alloc (.cells (madeCells #[.int .i64 0] n) 3)).alloc (.cells #[.slice (some ⟨N + 3, 0, none⟩) n n] 23)) (.cells #[.int .u64 0, .int .u32 0] 72)
    rwa [show ((w.alloc (.cells (madeCells #[.int .i64 0] n) 3)).alloc (.cells #[.slice (some ⟨N + 3, 0, none⟩) n n] 23)).heap.size = N + 5 by simp [hs]] at this
  · unfold readyW
    rw [Below.heap_alloc _ _ _ (by simp [hs] <;> omega), Below.heap_alloc _ _ _ (by simp [hs] <;> omega), Below.heap_alloc _ _ _ (by omega)]
theorem hrel_ready {S : Nat → Prop} {wp W : World} (h : HRel S wp W) (N n : Nat) : HRel S (readyW wp N n) (readyW W N n) :=
  hrel_alloc (o := .cells #[.int .u64 0, .int .u32 0] 72) (hrel_alloc (o := .cells #[.slice (some ⟨N + 3, 0, none⟩) n n] 23) (hrel_alloc (o := .cells (madeCells #[.int .i64 0] n) 3) h trivial) trivial) trivial
/-- The last of what was made. -/
noncomputable def startW (w : World) (N n : Nat) : World := ((readyW w N n).alloc (.cells #[.int .i64 0] 3)).setCell (stA (N + 5)) (.int .u64 KK)
theorem startW_at {w : World} {N n : Nat} (hs : w.heap.size = N + 3) : (startW w N n).heap.size = N + 7 ∧ (startW w N n).heap[N + 3]? = some (.cells (madeCells #[.int .i64 0] n) 3) ∧ (startW w N n).heap[N + 4]? = some (.cells #[.slice (some ⟨N + 3, 0, none⟩) n n] 23) ∧ WgAt 72 (N + 5) (startW w N n) KK 0 ∧ (startW w N n).heap[N + 6]? = some (.cells #[.int .i64 0] 3) ∧ ∀ b, b < N + 3 → (startW w N n).heap[b]? = w.heap[b]? := by
  obtain ⟨h1, h2, h3, h4, h5⟩ := readyW_at (n := n) hs
  have lo : ∀ b, b < N + 6 → b ≠ N + 5 → (startW w N n).heap[b]? = (readyW w N n).heap[b]? := fun b hb hne => by
    unfold startW
    rw [Below.heap_setCell _ _ _ _ (by simpa [stA] using hne), Below.heap_alloc _ _ _ (by omega)]
  refine ⟨by simp [startW, World.setCell, h1], (lo _ (by omega) (by omega)).trans h2, (lo _ (by omega) (by omega)).trans h3, ?_, ?_, fun b hb => (lo b (by omega) (by omega)).trans (h5 b hb)⟩
  · have hw : WgAt 72 (N + 5) ((readyW w N n).alloc (.cells #[.int .i64 0] 3)) 0 0 := (Below.heap_alloc _ _ _ (by omega)).trans h4
    exact hw.setSt KK
  · unfold startW
    rw [Below.heap_setCell _ _ _ _ (by simp [stA])]
    have := heap_alloc_new (readyW w N n) (.cells #[.int .i64 0] 3)
    rwa [h1] at this
section
variable {S : Nat → Prop} {wp : World} {gs : Array Goroutine} {W : World} {sl : Option (Nat × Nat)} {T : Trace} {q : Nat → Nat} {A B : Option Addr} {c e n f : Nat} {g h : Nat → Int} {cT : Frame} {Z : List Frame}
/-- What stands behind a phase, of the true world. -/
theorem through_good (hrel : HRel S wp W) (hok : P.okAll ((List.range n).map g) ((List.range n).map h) = true) {N₁ : Nat} {gs₁ : Array Goroutine} {W' : World} {sl₁ : Option (Nat × Nat)} {T₁ : Trace} {q₁ : Nat → Nat} {N : Nat} {va vb : Value} (hN : W.heap.size = N)
    (r1 : runNT Try.prog N₁ (crowd gs W sl) T = (.next (crowd gs₁ W' sl₁), T₁)) (hz : gs₁[0]? = some (G (cT.finish (.tuple #[.slice (some ⟨N + 3, 0, none⟩) n n, .bool true])) Z)) (hL : Leavers Try.prog T₁ gs₁ q₁)
    (hP : ∃ B, Past (Sh fun b => S b ∨ b = N + 5 ∨ ∃ j, j < n ∧ b = N + 6 + j) B T₁)
    (hb : Below N W W') (hs : W'.heap.size = N + 6 + n) (h0 : W'.heap[N]? = some (.cells #[va] 23)) (h1 : W'.heap[N + 1]? = some (.cells #[vb] 23)) (h2 : W'.heap[N + 2]? = some (.cells #[.func (.func f) #[] #[]] 46))
    (h3 : W'.heap[N + 3]? = some (.cells ((List.range n).map fun j => Value.int .i64 (P.outs f ((List.range n).map g) ((List.range n).map h) j)).toArray 3)) (h4 : W'.heap[N + 4]? = some (.cells #[.slice (some ⟨N + 3, 0, none⟩) n n] 23)) (h5 : ∃ cs t z, W'.heap[N + 5]? = some (Obj.cells cs t z)) (h6 : ∀ j, j < n → ∃ cs t z, W'.heap[N + 6 + j]? = some (Obj.cells cs t z)) :
    Through f va vb n ((List.range n).map g) ((List.range n).map h) wp S gs W sl T cT Z := by
  have hp : wp.heap.size = N := hrel.size.trans hN
  refine ⟨N₁, _, _, _, _, gs₁, W', sl₁, T₁, q₁, r1, .inr ⟨hok, rfl, rfl, rfl⟩, ⟨?_, hL, hP, hrel_end hrel hN hb hs h0 h1 h2 h3 h4 h5 h6⟩, ⟨fun b hb => .inl hb, fun b hb' hn => ?_, fun b hb' => hb.block b (by have := hrel_low hrel hb'; omega), hb.tape, by omega⟩⟩
  · rw [hp]; exact hz
  · rcases hb' with hs' | rfl | ⟨j, _, rfl⟩
    · exact absurd hs' hn
    · omega
    · omega
set_option maxHeartbeats 1600000 in
/-- ████ -/
theorem phase46 (hf : IsMake f) (hm : n ≤ 9223372036854775807) (hA : IntRow wp A 0 n g) (hB : IntRow wp B 0 n h) (hrel : HRel S wp W) (h20 : n ≤ 20) (hok : P.okAll ((List.range n).map g) ((List.range n).map h) = true)
    {gs₁ : Array Goroutine} {d : Nat} {sl₁ : Option (Nat × Nat)} {T₁ : Trace} {q₁ : Nat → Nat} {N₁ : Nat} (r1 : runNT Try.prog N₁ (crowd gs W sl) T = (.next (crowd gs₁ ((boxW W (.slice A n c) (.slice B n e) f).at d) sl₁), T₁))
    (H : Held Try.prog S (boxW wp (.slice A n c) (.slice B n e) f) (G ((base 46).at ⟨#[.slice A n c, .slice B n e, .func (.func f) #[] #[], .pointer (some ⟨W.heap.size, 0, none⟩), .pointer (some ⟨W.heap.size + 1, 0, none⟩), .pointer (some ⟨W.heap.size + 2, 0, none⟩), .slice none 0 0, .bool false, undef, undef, undef, .slice A n c, .bool true, .bool false, .bool false, .slice B n e, .bool true, undef, undef, undef, undef, undef, undef, undef, undef, undef, undef, undef, undef, undef, undef, undef, undef, undef, undef, undef, undef, undef, undef], []⟩ [.inRegion eops1 [6, 7, 8, 9, 10, 11, 12, 13, 14], .code eA, .code eB]) (cT :: Z)) gs₁ ((boxW W (.slice A n c) (.slice B n e) f).at d) T₁ q₁) :
    Through f (.slice A n c) (.slice B n e) n ((List.range n).map g) ((List.range n).map h) wp S gs W sl T cT Z := by
  obtain ⟨N, hN⟩ : ∃ N, W.heap.size = N := ⟨_, rfl⟩
  rw [hN] at H
  have hlo : ∀ k, S k → k < N := fun k hk => by rw [← hN, ← hrel.size]; exact hrel_low hrel hk
  obtain ⟨rA, lA⟩ := intRow_true hrel hA
  obtain ⟨rB, lB⟩ := intRow_true hrel hB
  have ev : ∀ {B' k : Nat}, N + 40 ≤ B' → k < 40 → ∀ wr s, EvL (Sh S) B' ⟨.cell ⟨N + k, 0, none⟩, wr, s⟩ := fun hB hk wr s => evL_any (fun hs => absurd (hlo _ hs) (by simp)) (by simp; omega) wr s
  have ev0 : ∀ {B' : Nat}, N + 40 ≤ B' → ∀ wr s, EvL (Sh S) B' ⟨.cell ⟨N, 0, none⟩, wr, s⟩ := fun hB wr s => evL_any (fun hs => absurd (hlo _ hs) (by simp)) (by simp; omega) wr s
  have hbs := boxW_size W (.slice A n c) (.slice B n e) f
  obtain ⟨bx0, bx1, bx2⟩ := boxW_at W (.slice A n c) (.slice B n e) f
  have bxl : ∀ b, b < N → (boxW W (.slice A n c) (.slice B n e) f).heap[b]? = W.heap[b]? := fun b hb => boxW_low W _ _ f (by omega)
  rw [hN] at bx0 bx1 bx2 hbs
  -- to the head of the loop
  obtain ⟨N2, g2, gs2, W2, sl2, T2, q2, r2, ⟨rfl, d2, hw2⟩, H2⟩ := held_walk2 (sl := sl₁) (wp' := readyW (boxW wp (.slice A n c) (.slice B n e) f) N n) H (fun _ h => h) ⟨N + 40, fun B' hB' => ⟨80, h5t h20 hbs bx0 bx1 (ev0 hB' false false) (ev hB' (by omega) false false) (ev hB' (by omega) true false)⟩⟩
    (by rintro g' W' ⟨_, d, e⟩; rw [e]; exact hrel_at (hrel_ready (hrel_at (hrel_box hrel _ _ _) _) N n) d)
  obtain rfl : W2 = (readyW (boxW W (.slice A n c) (.slice B n e) f) N n).at d2 := hw2
  obtain ⟨y1, y2, y3, y4, y5⟩ := readyW_at (n := n) hbs
  rcases Nat.eq_zero_or_pos n with rfl | hn
  · -- no element
    obtain ⟨N3, g3, gs3, W3, sl3, T3, q3, r3, ⟨rfl, d3, hw3⟩, z3, L3, P3⟩ := marked0 (sl := sl2) H2.zero H2.leavers H2.past (Stop' := fun g w' => g = G (cT.finish (.tuple #[.slice (some ⟨N + 3, 0, none⟩) 0 0, .bool true])) Z ∧ ∃ d, w' = ((readyW (boxW W (.slice A 0 c) (.slice B 0 e) f) N 0).at d2).at d) (fun g w hx => by rw [hx.1]; rfl) (fun g w d ⟨hg, d', hw⟩ d'' => ⟨hg, d'', by
        have : w.at d'' = (w.at d).at d'' := rfl
        rw [this, hw]; rfl⟩)
      ⟨N + 40, fun B' hB' => ⟨DE (EvL (Sh S) B'), fun _ _ _ h => h, h7 y4 y3 (ev hB' (by omega) false true) ⟨fun x hx => by simp [MemAct.ofEvent, MemAct.touch?] at hx, by simp, by simp, by show N + 5 < B'; omega⟩ (ev hB' (by omega) false false)⟩⟩
    obtain rfl : W3 = (readyW (boxW W (.slice A 0 c) (.slice B 0 e) f) N 0).at d3 := hw3
    refine through_good (va := .slice A 0 c) (vb := .slice B 0 e) hrel hok hN (Go.ConcX.runNT_trans r1 (Go.ConcX.runNT_trans r2 r3)) z3 L3 (P3.imp fun _ p => past_sub p fun l ⟨a, e, hs⟩ => ⟨a, e, .inl hs⟩) ⟨rfl, rfl, rfl, (by show W.heap.size ≤ (readyW (boxW W (.slice A 0 c) (.slice B 0 e) f) N 0).heap.size; omega), fun b hb => (y5 b (by omega)).trans (bxl b hb)⟩ y1 ((y5 N (by omega)).trans bx0) ((y5 (N + 1) (by omega)).trans bx1) ((y5 (N + 2) (by omega)).trans bx2) (y2.trans (by simp [madeCells])) y3 ⟨_, _, _, y4⟩ (fun j hj => by omega)
  · -- the phase
    obtain ⟨ad, rfl, _⟩ := rA 0 (Nat.le_refl 0) hn
    obtain ⟨bd, rfl, _⟩ := rB 0 (Nat.le_refl 0) hn
    obtain ⟨N3, g3, gs3, W3, sl3, T3, q3, r3, ⟨rfl, d3, hw3⟩, z3, L3, B3, P3⟩ := marked0 (sl := sl2) (W := (readyW (boxW W (.slice (some ad) n c) (.slice (some bd) n e) f) N n).at d2) H2.zero H2.leavers H2.past (fun g w hx => by rw [hx.1]; rfl) (fun g w d ⟨hg, d', hw⟩ d'' => ⟨hg, d'', by
        have : w.at d'' = (w.at d).at d'' := rfl
        rw [this, hw]; rfl⟩)
      ⟨N + 40, fun B' hB' => ⟨_, fun _ _ es h e he => evL_shy (B := B') (by omega) hlo (h e he), @h6 _ _ n c e f N _ _ (shyE S B' N (by omega) hlo) hn y1 y4 (by
        letI := shyE S B' N (by omega) hlo
        refine Go.ConcX.Gen.evS_cell _ _ _ (by simp) (by simp) ⟨by show N + 6 < B'; omega, fun y hy hs => ?_⟩
        simp only [MemAct.touch?, Option.some.injEq] at hy
        subst hy
        obtain ⟨a', e, hb⟩ := hs
        cases e
        exact absurd (hlo _ hb) (by simp))⟩⟩
    obtain rfl : W3 = (startW (boxW W (.slice (some ad) n c) (.slice (some bd) n e) f) N n).at d3 := hw3
    obtain ⟨s1, s2, s3, s4, s5, s6⟩ := startW_at (n := n) hbs
    have a0 := lA 0 ad hn rfl
    have b0 := lB 0 bd hn rfl
    rw [Go.Proofs.Ytcdnmnipaaooiaa.add_block] at a0 b0
    let J : Job := ⟨N, n, f, ad, c, bd, e, g, h, S⟩
    have hJ : J.Sound := ⟨hf, h20, hn, by show ad.block < N; omega, by show bd.block < N; omega, a0.1, b0.1, hlo⟩
    have low : ∀ b, b < N → (startW (boxW W (.slice (some ad) n c) (.slice (some bd) n e) f) N n).heap[b]? = W.heap[b]? := fun b hb => (s6 b (by omega)).trans (bxl b hb)
    have hF : CI J W (J.N + 6 + 0) 1 (some (.int .i64 (0 : Nat))) ((startW (boxW W (.slice (some ad) n c) (.slice (some bd) n e) f) N n).at d3) :=
      ⟨⟨rfl, rfl, rfl, by show W.heap.size ≤ (startW (boxW W (.slice (some ad) n c) (.slice (some bd) n e) f) N n).heap.size; omega, low⟩, Nat.le_refl _, s1, (s6 N (by omega)).trans bx0, (s6 (N + 1) (by omega)).trans bx1, (s6 (N + 2) (by omega)).trans bx2, s3, fun v hv => by cases hv; exact s5, fun k hk hB => absurd hB (by show ¬ k < N + 6 + 0; have : N + 6 ≤ k := hk; omega)⟩
    obtain ⟨N4, gs4, W4, sl4, T4, r4, ⟨vs, hz, hfull, hci, hbx, st, sm, hlive⟩, _, ⟨q4, hL4⟩, B4, hP4⟩ := each_phase (J := J) (W := W) (sl := sl3) hJ (fun j hj => by obtain ⟨ad', e', hc⟩ := rA j (Nat.zero_le _) hj; cases e'; exact hc) (fun j hj => by obtain ⟨ad', e', hc⟩ := rB j (Nat.zero_le _) hj; cases e'; exact hc)
      ⟨rfl, rfl, rfl, rfl, rfl, rfl, rfl, rfl⟩ rfl rfl z3 L3 P3 hF s4 ⟨_, s2, size_madeCells _ _⟩
    have hs4 : W4.heap.size = N + 6 + n := by
      have : (boxed W4 (.tuple vs)).heap.size = N + 6 + n + 1 := hci.size
      have e1 : (boxed W4 (.tuple vs)).heap.size = W4.heap.size + 1 := by simp [boxed]
      omega
    have hlow4 : ∀ b, b < N + 6 + n → W4.heap[b]? = (boxed W4 (.tuple vs)).heap[b]? := fun b hb => by
      show _ = (W4.heap.push _)[b]?
      rw [Array.getElem?_push, if_neg (by omega)]
    have hvs : vs = #[.slice (some ⟨N + 3, 0, none⟩) n n, .bool true] := by
      have hbx' : (boxed W4 (.tuple vs)).heap[N + 6 + n]? = some (.cells #[backE J] 0) := hbx
      have e1 : (boxed W4 (.tuple vs)).heap[N + 6 + n]? = some (.cells #[.tuple vs] 0) := by
        show (W4.heap.push _)[N + 6 + n]? = _
        rw [Array.getElem?_push, if_pos hs4.symm]
        rfl
      rw [e1] at hbx'
      simp only [Option.some.injEq, Obj.cells.injEq, Array.mk.injEq, List.cons.injEq, and_true, backE, Value.tuple.injEq] at hbx'
      exact hbx'
    subst hvs
    refine through_good (va := .slice (some ad) n c) (vb := .slice (some bd) n e) hrel hok hN (Go.ConcX.runNT_trans r1 (Go.ConcX.runNT_trans r2 (Go.ConcX.runNT_trans r3 r4))) hz hL4 ⟨B4, past_sub hP4 fun l hl => ?_⟩ ⟨hci.below.os, hci.below.tape, hci.below.output, by omega, fun b hb => (hlow4 b (by omega)).trans (hci.below.block b hb)⟩ hs4
      ((hlow4 N (by omega)).trans hci.av) ((hlow4 (N + 1) (by omega)).trans hci.bv) ((hlow4 (N + 2) (by omega)).trans hci.mv) ((hlow4 (N + 3) (by omega)).trans ?_) ((hlow4 (N + 4) (by omega)).trans hci.ov) ⟨_, _, _, (hlow4 (N + 5) (by omega)).trans hlive⟩ (fun j hj => ?_)
    · rcases hl with ⟨a, e', hs⟩ | ⟨a, e', hs⟩
      · exact ⟨a, e', .inl hs⟩
      · exact ⟨a, e', .inr (.inl hs)⟩
    · refine hfull.trans ?_
      have : valsE J = (List.range n).map fun j => Value.int .i64 (P.outs f ((List.range n).map g) ((List.range n).map h) j) := by
        refine List.map_congr_left fun j hj => ?_
        have hjn : j < n := List.mem_range.1 hj
        show Value.int .i64 (made f (g j) (h j)) = _
        rw [made_mk, P.outs]
        simp [List.getD_eq_getElem?_getD, hjn]
      rw [this]
      rfl
    · obtain ⟨v, hv⟩ := hci.ii (N + 6 + j) (by show N + 6 ≤ N + 6 + j; omega) (by show N + 6 + j < N + 6 + n; omega)
      exact ⟨_, _, _, (hlow4 (N + 6 + j) (by omega)).trans hv⟩
/-- ████ FUNCTION 46, FROM ITS ENTRY TO BEHIND ITS RETURN. ████ -/
theorem each46 {m : Nat} (hf : IsMake f) (hm : n ≤ 9223372036854775807) (hm' : m ≤ 9223372036854775807) (hA : IntRow wp A 0 n g) (hB : IntRow wp B 0 m h)
    (H : Held Try.prog S wp (G (Frame.enter Try.prog 46 #[.slice A n c, .slice B m e, .func (.func f) #[] #[]] .normal) (cT :: Z)) gs W T q) :
    Through f (.slice A n c) (.slice B m e) n ((List.range n).map g) ((List.range m).map h) wp S gs W sl T cT Z := by
  refine true46 hm hm' hA hB H fun {gs₁ d sl₁ T₁ q₁ N₁} r1 hmn h20 hok H1 => ?_
  subst hmn
  exact phase46 hf hm hA hB H.rel h20 hok r1 H1
end
end Go.Proofs.Ytcdnmnipaaooiaa
end

section
set_option linter.unusedSimpArgs false
set_option linter.unusedVariables false
namespace Go.Proofs.Ytcdnmnipaaooiaa
open Go.Conc Go.RowKit Go.Conc.Lib Go.ConcR.Gen Go.Tw
theorem tslots11 (T : Array Value) (h : 11 ≤ T.size) : ∃ (v0 v1 v2 v3 v4 v5 v6 v7 v8 v9 v10 : Value) (rest : List Value), T = (v0 :: v1 :: v2 :: v3 :: v4 :: v5 :: v6 :: v7 :: v8 :: v9 :: v10 :: rest).toArray := by
  obtain ⟨l⟩ := T
  simp only [List.size_toArray] at h
  rcases l with _ | ⟨v0, l⟩
  · simp at h
  rcases l with _ | ⟨v1, l⟩
  · simp at h
  rcases l with _ | ⟨v2, l⟩
  · simp at h
  rcases l with _ | ⟨v3, l⟩
  · simp at h
  rcases l with _ | ⟨v4, l⟩
  · simp at h
  rcases l with _ | ⟨v5, l⟩
  · simp at h
  rcases l with _ | ⟨v6, l⟩
  · simp at h
  rcases l with _ | ⟨v7, l⟩
  · simp at h
  rcases l with _ | ⟨v8, l⟩
  · simp at h
  rcases l with _ | ⟨v9, l⟩
  · simp at h
  rcases l with _ | ⟨v10, l⟩
  · simp at h
  exact ⟨v0, v1, v2, v3, v4, v5, v6, v7, v8, v9, v10, l, rfl⟩
theorem twrap11 {A B : Option Addr} {c d n m N : Nat} (hN : 11 ≤ N) (l : List Value) : ∃ (v2 v3 v4 v5 v6 v7 v8 v9 v10 : Value) (rest : List Value), (.slice A n c :: .slice B m d :: l).toArray ++ Array.replicate (N - (Value.slice A n c :: Value.slice B m d :: l).toArray.size) undef = (.slice A n c :: .slice B m d :: v2 :: v3 :: v4 :: v5 :: v6 :: v7 :: v8 :: v9 :: v10 :: rest).toArray := by
  obtain ⟨v0, v1, v2, v3, v4, v5, v6, v7, v8, v9, v10, rest, e⟩ := tslots11 ((.slice A n c :: .slice B m d :: l).toArray ++ Array.replicate (N - (Value.slice A n c :: Value.slice B m d :: l).toArray.size) undef) (by simp; omega)
  obtain ⟨e0, e1⟩ : v0 = .slice A n c ∧ v1 = .slice B m d := by
    have := congrArg Array.toList e
    simp at this
    exact ⟨this.1.symm, this.2.1.symm⟩
  subst e0 e1
  exact ⟨v2, v3, v4, v5, v6, v7, v8, v9, v10, rest, e⟩
theorem tslots27 (T : Array Value) (h : 27 ≤ T.size) : ∃ (v0 v1 v2 v3 v4 v5 v6 v7 v8 v9 v10 v11 v12 v13 v14 v15 v16 v17 v18 v19 v20 v21 v22 v23 v24 v25 v26 : Value) (rest : List Value), T = (v0 :: v1 :: v2 :: v3 :: v4 :: v5 :: v6 :: v7 :: v8 :: v9 :: v10 :: v11 :: v12 :: v13 :: v14 :: v15 :: v16 :: v17 :: v18 :: v19 :: v20 :: v21 :: v22 :: v23 :: v24 :: v25 :: v26 :: rest).toArray := by
  obtain ⟨l⟩ := T
  simp only [List.size_toArray] at h
  rcases l with _ | ⟨v0, l⟩
  · simp at h
  rcases l with _ | ⟨v1, l⟩
  · simp at h
  rcases l with _ | ⟨v2, l⟩
  · simp at h
  rcases l with _ | ⟨v3, l⟩
  · simp at h
  rcases l with _ | ⟨v4, l⟩
  · simp at h
  rcases l with _ | ⟨v5, l⟩
  · simp at h
  rcases l with _ | ⟨v6, l⟩
  · simp at h
  rcases l with _ | ⟨v7, l⟩
  · simp at h
  rcases l with _ | ⟨v8, l⟩
  · simp at h
  rcases l with _ | ⟨v9, l⟩
  · simp at h
  rcases l with _ | ⟨v10, l⟩
  · simp at h
  rcases l with _ | ⟨v11, l⟩
  · simp at h
  rcases l with _ | ⟨v12, l⟩
  · simp at h
  rcases l with _ | ⟨v13, l⟩
  · simp at h
  rcases l with _ | ⟨v14, l⟩
  · simp at h
  rcases l with _ | ⟨v15, l⟩
  · simp at h
  rcases l with _ | ⟨v16, l⟩
  · simp at h
  rcases l with _ | ⟨v17, l⟩
  · simp at h
  rcases l with _ | ⟨v18, l⟩
  · simp at h
  rcases l with _ | ⟨v19, l⟩
  · simp at h
  rcases l with _ | ⟨v20, l⟩
  · simp at h
  rcases l with _ | ⟨v21, l⟩
  · simp at h
  rcases l with _ | ⟨v22, l⟩
  · simp at h
  rcases l with _ | ⟨v23, l⟩
  · simp at h
  rcases l with _ | ⟨v24, l⟩
  · simp at h
  rcases l with _ | ⟨v25, l⟩
  · simp at h
  rcases l with _ | ⟨v26, l⟩
  · simp at h
  exact ⟨v0, v1, v2, v3, v4, v5, v6, v7, v8, v9, v10, v11, v12, v13, v14, v15, v16, v17, v18, v19, v20, v21, v22, v23, v24, v25, v26, l, rfl⟩
theorem twrap27 {A B : Option Addr} {c d n m N : Nat} (hN : 27 ≤ N) (l : List Value) : ∃ (v2 v3 v4 v5 v6 v7 v8 v9 v10 v11 v12 v13 v14 v15 v16 v17 v18 v19 v20 v21 v22 v23 v24 v25 v26 : Value) (rest : List Value), (.slice A n c :: .slice B m d :: l).toArray ++ Array.replicate (N - (Value.slice A n c :: Value.slice B m d :: l).toArray.size) undef = (.slice A n c :: .slice B m d :: v2 :: v3 :: v4 :: v5 :: v6 :: v7 :: v8 :: v9 :: v10 :: v11 :: v12 :: v13 :: v14 :: v15 :: v16 :: v17 :: v18 :: v19 :: v20 :: v21 :: v22 :: v23 :: v24 :: v25 :: v26 :: rest).toArray := by
  obtain ⟨v0, v1, v2, v3, v4, v5, v6, v7, v8, v9, v10, v11, v12, v13, v14, v15, v16, v17, v18, v19, v20, v21, v22, v23, v24, v25, v26, rest, e⟩ := tslots27 ((.slice A n c :: .slice B m d :: l).toArray ++ Array.replicate (N - (Value.slice A n c :: Value.slice B m d :: l).toArray.size) undef) (by simp; omega)
  obtain ⟨e0, e1⟩ : v0 = .slice A n c ∧ v1 = .slice B m d := by
    have := congrArg Array.toList e
    simp at this
    exact ⟨this.1.symm, this.2.1.symm⟩
  subst e0 e1
  exact ⟨v2, v3, v4, v5, v6, v7, v8, v9, v10, v11, v12, v13, v14, v15, v16, v17, v18, v19, v20, v21, v22, v23, v24, v25, v26, rest, e⟩
section
variable {E : Event → Prop} {A B : Option Addr} {n m c d : Nat} {cs Z : List Frame} {cT : Frame} {W : World}
noncomputable def ops17 : Array Oper := match Try.f17.body with | some (.seq _ (.seq (.region _ ops _) _)) => ops | _ => #[]
set_option maxRecDepth 100000 in
set_option maxHeartbeats 4000000 in
theorem w1_17 {v2 v3 v4 v5 v6 v7 v8 v9 v10 : Value} {rest : List Value} {code : Code} (hcode : Try.f17.body = some code) :
    Goes Try.prog true AtRel (DE E) (fun g w' => g = G (Frame.enter Try.prog 46 #[.slice A n c, .slice B m d, .func (.func 47) #[] #[]] .normal) ((base 17).at ⟨(.slice A n c :: .slice B m d :: v2 :: v3 :: .slice none 0 0 :: .bool false :: .slice A n c :: .slice B m d :: v8 :: v9 :: v10 :: rest).toArray, []⟩ [.inRegion ops17 [2, 3, 4, 5, 6], .code .ret] :: cs) ∧ ∃ d, w' = W.at d) 20
      (G ((base 17).at ⟨(.slice A n c :: .slice B m d :: v2 :: v3 :: v4 :: v5 :: v6 :: v7 :: v8 :: v9 :: v10 :: rest).toArray, []⟩ [.code code]) cs) W := by
  simp only [Try.f17, Option.some.injEq] at hcode
  simp only [ops17, Try.f17]
  subst hcode
  refine Goes.step rfl (fun _ h₁ => ?_); obtain ⟨d, rfl⟩ := h₁
  try simp only [at_at]
  rw [stepG_seq]; simp only [goes_go]; refine ⟨nil_evs _, ?_⟩
  refine Goes.step rfl (fun _ h₁ => ?_); obtain ⟨d, rfl⟩ := h₁
  try simp only [at_at]
  rw [stepG_region]; simp only [goes_go, List.size_toArray, List.length_cons, List.length_nil, Nat.reduceAdd, Nat.zero_add, List.range, List.range.loop]; refine ⟨nil_evs _, ?_⟩
  refine Goes.step rfl (fun _ h₁ => ?_); obtain ⟨d, rfl⟩ := h₁
  try simp only [at_at]
  refine goes_oper_k rfl rfl (by k_ne) (fun K hK => ?_)
  go_simp
  try simp only [alloc_at, at_heap] at hK ⊢
  refine hK _ _ ⟨?_, ?_⟩
  · intro x hx
    have hm := mem_listed hx
    simp [go_sem] at hm
  clear hK K
  try simp only [alloc_at, at_heap]
  try w_num
  refine Goes.step rfl (fun _ h₁ => ?_); obtain ⟨d, rfl⟩ := h₁
  try simp only [at_at]
  refine goes_oper_k rfl rfl (by k_ne) (fun K hK => ?_)
  go_simp
  try simp only [alloc_at, at_heap] at hK ⊢
  refine hK _ _ ⟨?_, ?_⟩
  · intro x hx
    have hm := mem_listed hx
    simp [go_sem] at hm
  clear hK K
  try simp only [alloc_at, at_heap]
  try w_num
  refine Goes.step rfl (fun _ h₁ => ?_); obtain ⟨d, rfl⟩ := h₁
  try simp only [at_at]
  rw [stepG_region_end]; simp only [goes_go]; refine ⟨nil_evs _, ?_⟩
  refine Goes.step rfl (fun _ h₁ => ?_); obtain ⟨d, rfl⟩ := h₁
  try simp only [at_at]
  rw [stepG_seq]; simp only [goes_go]; refine ⟨nil_evs _, ?_⟩
  refine Goes.step rfl (fun _ h₁ => ?_); obtain ⟨d, rfl⟩ := h₁
  try simp only [at_at]
  rw [stepG_region]; simp only [goes_go, List.size_toArray, List.length_cons, List.length_nil, Nat.reduceAdd, Nat.zero_add, List.range, List.range.loop]; refine ⟨nil_evs _, ?_⟩
  refine Goes.step rfl (fun _ h₁ => ?_); obtain ⟨d, rfl⟩ := h₁
  try simp only [at_at]
  refine goes_oper_k rfl rfl (by k_ne) (fun K hK => ?_)
  go_simp
  try simp only [alloc_at, at_heap] at hK ⊢
  refine hK _ _ ⟨?_, ?_⟩
  · intro x hx
    have hm := mem_listed hx
    simp [go_sem] at hm
  clear hK K
  try simp only [alloc_at, at_heap]
  try w_num
  refine Goes.step rfl (fun _ h₁ => ?_); obtain ⟨d, rfl⟩ := h₁
  try simp only [at_at]
  refine goes_oper_k rfl rfl (by k_ne) (fun K hK => ?_)
  go_simp
  try simp only [alloc_at, at_heap] at hK ⊢
  refine hK _ _ ⟨?_, ?_⟩
  · intro x hx
    have hm := mem_listed hx
    simp [go_sem] at hm
  clear hK K
  try simp only [alloc_at, at_heap]
  try w_num
  refine Goes.step rfl (fun _ h₁ => ?_); obtain ⟨d, rfl⟩ := h₁
  try simp only [at_at]
  refine goes_call rfl rfl (by k_ne) rfl Try.func46 (by kernel_rfl) rfl ⟨nil_evs _, ?_⟩
  walk_nrmf Try.f46
  exact Goes.stop (fun _ h₁ => by obtain ⟨d, rfl⟩ := h₁; exact ⟨by rw [enter_at' Try.func46 (show Try.f46.body = some body46 from rfl), show Try.f46.ntmps = 39 from rfl]; simp only [List.size_toArray, List.length_cons, List.length_nil, Nat.reduceAdd, Nat.reduceSub, Array.replicate_succ, Array.replicate_zero, List.push_toArray, List.append_toArray, List.nil_append, List.cons_append]; rfl, _, rfl⟩)
set_option maxRecDepth 100000 in
set_option maxHeartbeats 4000000 in
theorem w2_17 {v2 v3 v8 v9 v10 r s : Value} {rest : List Value} :
    Goes Try.prog true AtRel (DE E) (fun g w' => g = G (cT.finish (.tuple #[r, s])) Z ∧ ∃ d, w' = W.at d) 20
      (G (((base 17).at ⟨(.slice A n c :: .slice B m d :: v2 :: v3 :: .slice none 0 0 :: .bool false :: .slice A n c :: .slice B m d :: v8 :: v9 :: v10 :: rest).toArray, []⟩ [.inRegion ops17 [2, 3, 4, 5, 6], .code .ret]).finish (.tuple #[r, s])) (cT :: Z)) W := by
  rw [Frame.finish_at]
  simp only [ops17, Try.f17]
  walk_nrm
  refine Goes.step rfl (fun _ h₁ => ?_); obtain ⟨d, rfl⟩ := h₁
  try simp only [at_at]
  refine goes_oper_k rfl rfl (by k_ne) (fun K hK => ?_)
  go_simp
  try simp only [alloc_at, at_heap] at hK ⊢
  refine hK _ _ ⟨?_, ?_⟩
  · intro x hx
    have hm := mem_listed hx
    simp [go_sem] at hm
  clear hK K
  try simp only [alloc_at, at_heap]
  try w_num
  refine Goes.step rfl (fun _ h₁ => ?_); obtain ⟨d, rfl⟩ := h₁
  try simp only [at_at]
  refine goes_oper_k rfl rfl (by k_ne) (fun K hK => ?_)
  go_simp
  try simp only [alloc_at, at_heap] at hK ⊢
  refine hK _ _ ⟨?_, ?_⟩
  · intro x hx
    have hm := mem_listed hx
    simp [go_sem] at hm
  clear hK K
  try simp only [alloc_at, at_heap]
  try w_num
  refine Goes.step rfl (fun _ h₁ => ?_); obtain ⟨d, rfl⟩ := h₁
  try simp only [at_at]
  refine goes_oper_k rfl rfl (by k_ne) (fun K hK => ?_)
  go_simp
  try simp only [alloc_at, at_heap] at hK ⊢
  refine hK _ _ ⟨?_, ?_⟩
  · intro x hx
    have hm := mem_listed hx
    simp [go_sem] at hm
  clear hK K
  try simp only [alloc_at, at_heap]
  try w_num
  refine Goes.step rfl (fun _ h₁ => ?_); obtain ⟨d, rfl⟩ := h₁
  try simp only [at_at]
  refine goes_oper_k rfl rfl (by k_ne) (fun K hK => ?_)
  go_simp
  try simp only [alloc_at, at_heap] at hK ⊢
  refine hK _ _ ⟨?_, ?_⟩
  · intro x hx
    have hm := mem_listed hx
    simp [go_sem] at hm
  clear hK K
  try simp only [alloc_at, at_heap]
  try w_num
  refine Goes.step rfl (fun _ h₁ => ?_); obtain ⟨d, rfl⟩ := h₁
  try simp only [at_at]
  rw [stepG_region_end]; simp only [goes_go]; refine ⟨nil_evs _, ?_⟩
  refine Goes.step rfl (fun _ h₁ => ?_); obtain ⟨d, rfl⟩ := h₁
  try simp only [at_at]
  rw [stepG_ret']; simp only [goes_go]; refine ⟨nil_evs _, ?_⟩
  refine Goes.step rfl (fun _ h₁ => ?_); obtain ⟨d, rfl⟩ := h₁
  try simp only [at_at]
  rw [stepG_leave (b := base 17) rfl rfl Try.func17 (results_tmp2 (t := 4) (u := 5) rfl _ _ _) (events_results_tmp2 (t := 4) (u := 5) rfl _ _)]; simp only [goes_go]; refine ⟨nil_evs _, ?_⟩
  exact Goes.stop (fun _ h₁ => by obtain ⟨d, rfl⟩ := h₁; exact ⟨rfl, _, rfl⟩)
noncomputable def ops21 : Array Oper := match Try.f21.body with | some (.seq _ (.seq (.region _ ops _) _)) => ops | _ => #[]
set_option maxRecDepth 100000 in
set_option maxHeartbeats 4000000 in
theorem w1_21 {v2 v3 v4 v5 v6 v7 v8 v9 v10 : Value} {rest : List Value} {code : Code} (hcode : Try.f21.body = some code) :
    Goes Try.prog true AtRel (DE E) (fun g w' => g = G (Frame.enter Try.prog 46 #[.slice A n c, .slice B m d, .func (.func 47) #[] #[]] .normal) ((base 21).at ⟨(.slice A n c :: .slice B m d :: v2 :: v3 :: .slice none 0 0 :: .bool false :: .slice A n c :: .slice B m d :: v8 :: v9 :: v10 :: rest).toArray, []⟩ [.inRegion ops21 [2, 3, 4, 5, 6], .code .ret] :: cs) ∧ ∃ d, w' = W.at d) 20
      (G ((base 21).at ⟨(.slice A n c :: .slice B m d :: v2 :: v3 :: v4 :: v5 :: v6 :: v7 :: v8 :: v9 :: v10 :: rest).toArray, []⟩ [.code code]) cs) W := by
  simp only [Try.f21, Option.some.injEq] at hcode
  simp only [ops21, Try.f21]
  subst hcode
  refine Goes.step rfl (fun _ h₁ => ?_); obtain ⟨d, rfl⟩ := h₁
  try simp only [at_at]
  rw [stepG_seq]; simp only [goes_go]; refine ⟨nil_evs _, ?_⟩
  refine Goes.step rfl (fun _ h₁ => ?_); obtain ⟨d, rfl⟩ := h₁
  try simp only [at_at]
  rw [stepG_region]; simp only [goes_go, List.size_toArray, List.length_cons, List.length_nil, Nat.reduceAdd, Nat.zero_add, List.range, List.range.loop]; refine ⟨nil_evs _, ?_⟩
  refine Goes.step rfl (fun _ h₁ => ?_); obtain ⟨d, rfl⟩ := h₁
  try simp only [at_at]
  refine goes_oper_k rfl rfl (by k_ne) (fun K hK => ?_)
  go_simp
  try simp only [alloc_at, at_heap] at hK ⊢
  refine hK _ _ ⟨?_, ?_⟩
  · intro x hx
    have hm := mem_listed hx
    simp [go_sem] at hm
  clear hK K
  try simp only [alloc_at, at_heap]
  try w_num
  refine Goes.step rfl (fun _ h₁ => ?_); obtain ⟨d, rfl⟩ := h₁
  try simp only [at_at]
  refine goes_oper_k rfl rfl (by k_ne) (fun K hK => ?_)
  go_simp
  try simp only [alloc_at, at_heap] at hK ⊢
  refine hK _ _ ⟨?_, ?_⟩
  · intro x hx
    have hm := mem_listed hx
    simp [go_sem] at hm
  clear hK K
  try simp only [alloc_at, at_heap]
  try w_num
  refine Goes.step rfl (fun _ h₁ => ?_); obtain ⟨d, rfl⟩ := h₁
  try simp only [at_at]
  rw [stepG_region_end]; simp only [goes_go]; refine ⟨nil_evs _, ?_⟩
  refine Goes.step rfl (fun _ h₁ => ?_); obtain ⟨d, rfl⟩ := h₁
  try simp only [at_at]
  rw [stepG_seq]; simp only [goes_go]; refine ⟨nil_evs _, ?_⟩
  refine Goes.step rfl (fun _ h₁ => ?_); obtain ⟨d, rfl⟩ := h₁
  try simp only [at_at]
  rw [stepG_region]; simp only [goes_go, List.size_toArray, List.length_cons, List.length_nil, Nat.reduceAdd, Nat.zero_add, List.range, List.range.loop]; refine ⟨nil_evs _, ?_⟩
  refine Goes.step rfl (fun _ h₁ => ?_); obtain ⟨d, rfl⟩ := h₁
  try simp only [at_at]
  refine goes_oper_k rfl rfl (by k_ne) (fun K hK => ?_)
  go_simp
  try simp only [alloc_at, at_heap] at hK ⊢
  refine hK _ _ ⟨?_, ?_⟩
  · intro x hx
    have hm := mem_listed hx
    simp [go_sem] at hm
  clear hK K
  try simp only [alloc_at, at_heap]
  try w_num
  refine Goes.step rfl (fun _ h₁ => ?_); obtain ⟨d, rfl⟩ := h₁
  try simp only [at_at]
  refine goes_oper_k rfl rfl (by k_ne) (fun K hK => ?_)
  go_simp
  try simp only [alloc_at, at_heap] at hK ⊢
  refine hK _ _ ⟨?_, ?_⟩
  · intro x hx
    have hm := mem_listed hx
    simp [go_sem] at hm
  clear hK K
  try simp only [alloc_at, at_heap]
  try w_num
  refine Goes.step rfl (fun _ h₁ => ?_); obtain ⟨d, rfl⟩ := h₁
  try simp only [at_at]
  refine goes_call rfl rfl (by k_ne) rfl Try.func46 (by kernel_rfl) rfl ⟨nil_evs _, ?_⟩
  walk_nrmf Try.f46
  exact Goes.stop (fun _ h₁ => by obtain ⟨d, rfl⟩ := h₁; exact ⟨by rw [enter_at' Try.func46 (show Try.f46.body = some body46 from rfl), show Try.f46.ntmps = 39 from rfl]; simp only [List.size_toArray, List.length_cons, List.length_nil, Nat.reduceAdd, Nat.reduceSub, Array.replicate_succ, Array.replicate_zero, List.push_toArray, List.append_toArray, List.nil_append, List.cons_append]; rfl, _, rfl⟩)
set_option maxRecDepth 100000 in
set_option maxHeartbeats 4000000 in
theorem w2_21 {v2 v3 v8 v9 v10 r s : Value} {rest : List Value} :
    Goes Try.prog true AtRel (DE E) (fun g w' => g = G (cT.finish (.tuple #[r, s])) Z ∧ ∃ d, w' = W.at d) 20
      (G (((base 21).at ⟨(.slice A n c :: .slice B m d :: v2 :: v3 :: .slice none 0 0 :: .bool false :: .slice A n c :: .slice B m d :: v8 :: v9 :: v10 :: rest).toArray, []⟩ [.inRegion ops21 [2, 3, 4, 5, 6], .code .ret]).finish (.tuple #[r, s])) (cT :: Z)) W := by
  rw [Frame.finish_at]
  simp only [ops21, Try.f21]
  walk_nrm
  refine Goes.step rfl (fun _ h₁ => ?_); obtain ⟨d, rfl⟩ := h₁
  try simp only [at_at]
  refine goes_oper_k rfl rfl (by k_ne) (fun K hK => ?_)
  go_simp
  try simp only [alloc_at, at_heap] at hK ⊢
  refine hK _ _ ⟨?_, ?_⟩
  · intro x hx
    have hm := mem_listed hx
    simp [go_sem] at hm
  clear hK K
  try simp only [alloc_at, at_heap]
  try w_num
  refine Goes.step rfl (fun _ h₁ => ?_); obtain ⟨d, rfl⟩ := h₁
  try simp only [at_at]
  refine goes_oper_k rfl rfl (by k_ne) (fun K hK => ?_)
  go_simp
  try simp only [alloc_at, at_heap] at hK ⊢
  refine hK _ _ ⟨?_, ?_⟩
  · intro x hx
    have hm := mem_listed hx
    simp [go_sem] at hm
  clear hK K
  try simp only [alloc_at, at_heap]
  try w_num
  refine Goes.step rfl (fun _ h₁ => ?_); obtain ⟨d, rfl⟩ := h₁
  try simp only [at_at]
  refine goes_oper_k rfl rfl (by k_ne) (fun K hK => ?_)
  go_simp
  try simp only [alloc_at, at_heap] at hK ⊢
  refine hK _ _ ⟨?_, ?_⟩
  · intro x hx
    have hm := mem_listed hx
    simp [go_sem] at hm
  clear hK K
  try simp only [alloc_at, at_heap]
  try w_num
  refine Goes.step rfl (fun _ h₁ => ?_); obtain ⟨d, rfl⟩ := h₁
  try simp only [at_at]
  refine goes_oper_k rfl rfl (by k_ne) (fun K hK => ?_)
  go_simp
  try simp only [alloc_at, at_heap] at hK ⊢
  refine hK _ _ ⟨?_, ?_⟩
  · intro x hx
    have hm := mem_listed hx
    simp [go_sem] at hm
  clear hK K
  try simp only [alloc_at, at_heap]
  try w_num
  refine Goes.step rfl (fun _ h₁ => ?_); obtain ⟨d, rfl⟩ := h₁
  try simp only [at_at]
  rw [stepG_region_end]; simp only [goes_go]; refine ⟨nil_evs _, ?_⟩
  refine Goes.step rfl (fun _ h₁ => ?_); obtain ⟨d, rfl⟩ := h₁
  try simp only [at_at]
  rw [stepG_ret']; simp only [goes_go]; refine ⟨nil_evs _, ?_⟩
  refine Goes.step rfl (fun _ h₁ => ?_); obtain ⟨d, rfl⟩ := h₁
  try simp only [at_at]
  rw [stepG_leave (b := base 21) rfl rfl Try.func21 (results_tmp2 (t := 4) (u := 5) rfl _ _ _) (events_results_tmp2 (t := 4) (u := 5) rfl _ _)]; simp only [goes_go]; refine ⟨nil_evs _, ?_⟩
  exact Goes.stop (fun _ h₁ => by obtain ⟨d, rfl⟩ := h₁; exact ⟨rfl, _, rfl⟩)
noncomputable def ops24 : Array Oper := match Try.f24.body with | some (.seq _ (.seq (.region _ ops _) _)) => ops | _ => #[]
set_option maxRecDepth 100000 in
set_option maxHeartbeats 4000000 in
theorem w1_24 {v2 v3 v4 v5 v6 v7 v8 v9 v10 : Value} {rest : List Value} {code : Code} (hcode : Try.f24.body = some code) :
    Goes Try.prog true AtRel (DE E) (fun g w' => g = G (Frame.enter Try.prog 46 #[.slice A n c, .slice B m d, .func (.func 49) #[] #[]] .normal) ((base 24).at ⟨(.slice A n c :: .slice B m d :: v2 :: v3 :: .slice none 0 0 :: .bool false :: .slice A n c :: .slice B m d :: v8 :: v9 :: v10 :: rest).toArray, []⟩ [.inRegion ops24 [2, 3, 4, 5, 6], .code .ret] :: cs) ∧ ∃ d, w' = W.at d) 20
      (G ((base 24).at ⟨(.slice A n c :: .slice B m d :: v2 :: v3 :: v4 :: v5 :: v6 :: v7 :: v8 :: v9 :: v10 :: rest).toArray, []⟩ [.code code]) cs) W := by
  simp only [Try.f24, Option.some.injEq] at hcode
  simp only [ops24, Try.f24]
  subst hcode
  refine Goes.step rfl (fun _ h₁ => ?_); obtain ⟨d, rfl⟩ := h₁
  try simp only [at_at]
  rw [stepG_seq]; simp only [goes_go]; refine ⟨nil_evs _, ?_⟩
  refine Goes.step rfl (fun _ h₁ => ?_); obtain ⟨d, rfl⟩ := h₁
  try simp only [at_at]
  rw [stepG_region]; simp only [goes_go, List.size_toArray, List.length_cons, List.length_nil, Nat.reduceAdd, Nat.zero_add, List.range, List.range.loop]; refine ⟨nil_evs _, ?_⟩
  refine Goes.step rfl (fun _ h₁ => ?_); obtain ⟨d, rfl⟩ := h₁
  try simp only [at_at]
  refine goes_oper_k rfl rfl (by k_ne) (fun K hK => ?_)
  go_simp
  try simp only [alloc_at, at_heap] at hK ⊢
  refine hK _ _ ⟨?_, ?_⟩
  · intro x hx
    have hm := mem_listed hx
    simp [go_sem] at hm
  clear hK K
  try simp only [alloc_at, at_heap]
  try w_num
  refine Goes.step rfl (fun _ h₁ => ?_); obtain ⟨d, rfl⟩ := h₁
  try simp only [at_at]
  refine goes_oper_k rfl rfl (by k_ne) (fun K hK => ?_)
  go_simp
  try simp only [alloc_at, at_heap] at hK ⊢
  refine hK _ _ ⟨?_, ?_⟩
  · intro x hx
    have hm := mem_listed hx
    simp [go_sem] at hm
  clear hK K
  try simp only [alloc_at, at_heap]
  try w_num
  refine Goes.step rfl (fun _ h₁ => ?_); obtain ⟨d, rfl⟩ := h₁
  try simp only [at_at]
  rw [stepG_region_end]; simp only [goes_go]; refine ⟨nil_evs _, ?_⟩
  refine Goes.step rfl (fun _ h₁ => ?_); obtain ⟨d, rfl⟩ := h₁
  try simp only [at_at]
  rw [stepG_seq]; simp only [goes_go]; refine ⟨nil_evs _, ?_⟩
  refine Goes.step rfl (fun _ h₁ => ?_); obtain ⟨d, rfl⟩ := h₁
  try simp only [at_at]
  rw [stepG_region]; simp only [goes_go, List.size_toArray, List.length_cons, List.length_nil, Nat.reduceAdd, Nat.zero_add, List.range, List.range.loop]; refine ⟨nil_evs _, ?_⟩
  refine Goes.step rfl (fun _ h₁ => ?_); obtain ⟨d, rfl⟩ := h₁
  try simp only [at_at]
  refine goes_oper_k rfl rfl (by k_ne) (fun K hK => ?_)
  go_simp
  try simp only [alloc_at, at_heap] at hK ⊢
  refine hK _ _ ⟨?_, ?_⟩
  · intro x hx
    have hm := mem_listed hx
    simp [go_sem] at hm
  clear hK K
  try simp only [alloc_at, at_heap]
  try w_num
  refine Goes.step rfl (fun _ h₁ => ?_); obtain ⟨d, rfl⟩ := h₁
  try simp only [at_at]
  refine goes_oper_k rfl rfl (by k_ne) (fun K hK => ?_)
  go_simp
  try simp only [alloc_at, at_heap] at hK ⊢
  refine hK _ _ ⟨?_, ?_⟩
  · intro x hx
    have hm := mem_listed hx
    simp [go_sem] at hm
  clear hK K
  try simp only [alloc_at, at_heap]
  try w_num
  refine Goes.step rfl (fun _ h₁ => ?_); obtain ⟨d, rfl⟩ := h₁
  try simp only [at_at]
  refine goes_call rfl rfl (by k_ne) rfl Try.func46 (by kernel_rfl) rfl ⟨nil_evs _, ?_⟩
  walk_nrmf Try.f46
  exact Goes.stop (fun _ h₁ => by obtain ⟨d, rfl⟩ := h₁; exact ⟨by rw [enter_at' Try.func46 (show Try.f46.body = some body46 from rfl), show Try.f46.ntmps = 39 from rfl]; simp only [List.size_toArray, List.length_cons, List.length_nil, Nat.reduceAdd, Nat.reduceSub, Array.replicate_succ, Array.replicate_zero, List.push_toArray, List.append_toArray, List.nil_append, List.cons_append]; rfl, _, rfl⟩)
set_option maxRecDepth 100000 in
set_option maxHeartbeats 4000000 in
theorem w2_24 {v2 v3 v8 v9 v10 r s : Value} {rest : List Value} :
    Goes Try.prog true AtRel (DE E) (fun g w' => g = G (cT.finish (.tuple #[r, s])) Z ∧ ∃ d, w' = W.at d) 20
      (G (((base 24).at ⟨(.slice A n c :: .slice B m d :: v2 :: v3 :: .slice none 0 0 :: .bool false :: .slice A n c :: .slice B m d :: v8 :: v9 :: v10 :: rest).toArray, []⟩ [.inRegion ops24 [2, 3, 4, 5, 6], .code .ret]).finish (.tuple #[r, s])) (cT :: Z)) W := by
  rw [Frame.finish_at]
  simp only [ops24, Try.f24]
  walk_nrm
  refine Goes.step rfl (fun _ h₁ => ?_); obtain ⟨d, rfl⟩ := h₁
  try simp only [at_at]
  refine goes_oper_k rfl rfl (by k_ne) (fun K hK => ?_)
  go_simp
  try simp only [alloc_at, at_heap] at hK ⊢
  refine hK _ _ ⟨?_, ?_⟩
  · intro x hx
    have hm := mem_listed hx
    simp [go_sem] at hm
  clear hK K
  try simp only [alloc_at, at_heap]
  try w_num
  refine Goes.step rfl (fun _ h₁ => ?_); obtain ⟨d, rfl⟩ := h₁
  try simp only [at_at]
  refine goes_oper_k rfl rfl (by k_ne) (fun K hK => ?_)
  go_simp
  try simp only [alloc_at, at_heap] at hK ⊢
  refine hK _ _ ⟨?_, ?_⟩
  · intro x hx
    have hm := mem_listed hx
    simp [go_sem] at hm
  clear hK K
  try simp only [alloc_at, at_heap]
  try w_num
  refine Goes.step rfl (fun _ h₁ => ?_); obtain ⟨d, rfl⟩ := h₁
  try simp only [at_at]
  refine goes_oper_k rfl rfl (by k_ne) (fun K hK => ?_)
  go_simp
  try simp only [alloc_at, at_heap] at hK ⊢
  refine hK _ _ ⟨?_, ?_⟩
  · intro x hx
    have hm := mem_listed hx
    simp [go_sem] at hm
  clear hK K
  try simp only [alloc_at, at_heap]
  try w_num
  refine Goes.step rfl (fun _ h₁ => ?_); obtain ⟨d, rfl⟩ := h₁
  try simp only [at_at]
  refine goes_oper_k rfl rfl (by k_ne) (fun K hK => ?_)
  go_simp
  try simp only [alloc_at, at_heap] at hK ⊢
  refine hK _ _ ⟨?_, ?_⟩
  · intro x hx
    have hm := mem_listed hx
    simp [go_sem] at hm
  clear hK K
  try simp only [alloc_at, at_heap]
  try w_num
  refine Goes.step rfl (fun _ h₁ => ?_); obtain ⟨d, rfl⟩ := h₁
  try simp only [at_at]
  rw [stepG_region_end]; simp only [goes_go]; refine ⟨nil_evs _, ?_⟩
  refine Goes.step rfl (fun _ h₁ => ?_); obtain ⟨d, rfl⟩ := h₁
  try simp only [at_at]
  rw [stepG_ret']; simp only [goes_go]; refine ⟨nil_evs _, ?_⟩
  refine Goes.step rfl (fun _ h₁ => ?_); obtain ⟨d, rfl⟩ := h₁
  try simp only [at_at]
  rw [stepG_leave (b := base 24) rfl rfl Try.func24 (results_tmp2 (t := 4) (u := 5) rfl _ _ _) (events_results_tmp2 (t := 4) (u := 5) rfl _ _)]; simp only [goes_go]; refine ⟨nil_evs _, ?_⟩
  exact Goes.stop (fun _ h₁ => by obtain ⟨d, rfl⟩ := h₁; exact ⟨rfl, _, rfl⟩)
theorem events_results_tmp3 {P : Program} {fn : Func} {t u v : Tmp} (h : fn.results = #[.tmp t, .tmp u, .tmp v]) (tmps : Array Value) (w : World) : (results fn tmps).events P w #[] = #[] := by
  simp [results, h, go_sem]
noncomputable def ops20a : Array Oper := match Try.f20.body with | some (.seq _ (.seq (.region _ ops _) _)) => ops | _ => #[]
noncomputable def c20b : Code := match Try.f20.body with | some (.seq _ (.seq _ c)) => c | _ => .skip
noncomputable def ops20d : Array Oper := match c20b with | .seq _ (.seq (.region _ ops _) _) => ops | _ => #[]
noncomputable def c20e : Code := match c20b with | .seq _ (.seq _ c) => c | _ => .skip
set_option maxRecDepth 100000 in
set_option maxHeartbeats 4000000 in
theorem w1_20 {v2 v3 v4 v5 v6 v7 v8 v9 v10 v11 v12 v13 v14 v15 v16 v17 v18 v19 v20 v21 v22 v23 v24 v25 v26 : Value} {rest : List Value} {code : Code} (hcode : Try.f20.body = some code) :
    Goes Try.prog true AtRel (DE E) (fun g w' => g = G (Frame.enter Try.prog 46 #[.slice A n c, .slice B m d, .func (.func 49) #[] #[]] .normal) ((base 20).at ⟨(.slice A n c :: .slice B m d :: v2 :: v3 :: .slice none 0 0 :: .slice none 0 0 :: .bool false :: v7 :: v8 :: v9 :: v10 :: v11 :: .slice A n c :: .slice B m d :: v14 :: v15 :: v16 :: v17 :: v18 :: v19 :: v20 :: v21 :: v22 :: v23 :: v24 :: v25 :: v26 :: rest).toArray, []⟩ [.inRegion ops20a [2, 3, 4, 5, 6, 7], .code c20b] :: cs) ∧ ∃ d, w' = W.at d) 20
      (G ((base 20).at ⟨(.slice A n c :: .slice B m d :: v2 :: v3 :: v4 :: v5 :: v6 :: v7 :: v8 :: v9 :: v10 :: v11 :: v12 :: v13 :: v14 :: v15 :: v16 :: v17 :: v18 :: v19 :: v20 :: v21 :: v22 :: v23 :: v24 :: v25 :: v26 :: rest).toArray, []⟩ [.code code]) cs) W := by
  simp only [Try.f20, Option.some.injEq] at hcode
  simp only [ops20a, c20b, Try.f20]
  subst hcode
  refine Goes.step rfl (fun _ h₁ => ?_); obtain ⟨d, rfl⟩ := h₁
  try simp only [at_at]
  rw [stepG_seq]; simp only [goes_go]; refine ⟨nil_evs _, ?_⟩
  refine Goes.step rfl (fun _ h₁ => ?_); obtain ⟨d, rfl⟩ := h₁
  try simp only [at_at]
  rw [stepG_region]; simp only [goes_go, List.size_toArray, List.length_cons, List.length_nil, Nat.reduceAdd, Nat.zero_add, List.range, List.range.loop]; refine ⟨nil_evs _, ?_⟩
  refine Goes.step rfl (fun _ h₁ => ?_); obtain ⟨d, rfl⟩ := h₁
  try simp only [at_at]
  refine goes_oper_k rfl rfl (by k_ne) (fun K hK => ?_)
  go_simp
  try simp only [alloc_at, at_heap] at hK ⊢
  refine hK _ _ ⟨?_, ?_⟩
  · intro x hx
    have hm := mem_listed hx
    simp [go_sem] at hm
  clear hK K
  try simp only [alloc_at, at_heap]
  try w_num
  refine Goes.step rfl (fun _ h₁ => ?_); obtain ⟨d, rfl⟩ := h₁
  try simp only [at_at]
  refine goes_oper_k rfl rfl (by k_ne) (fun K hK => ?_)
  go_simp
  try simp only [alloc_at, at_heap] at hK ⊢
  refine hK _ _ ⟨?_, ?_⟩
  · intro x hx
    have hm := mem_listed hx
    simp [go_sem] at hm
  clear hK K
  try simp only [alloc_at, at_heap]
  try w_num
  refine Goes.step rfl (fun _ h₁ => ?_); obtain ⟨d, rfl⟩ := h₁
  try simp only [at_at]
  refine goes_oper_k rfl rfl (by k_ne) (fun K hK => ?_)
  go_simp
  try simp only [alloc_at, at_heap] at hK ⊢
  refine hK _ _ ⟨?_, ?_⟩
  · intro x hx
    have hm := mem_listed hx
    simp [go_sem] at hm
  clear hK K
  try simp only [alloc_at, at_heap]
  try w_num
  refine Goes.step rfl (fun _ h₁ => ?_); obtain ⟨d, rfl⟩ := h₁
  try simp only [at_at]
  rw [stepG_region_end]; simp only [goes_go]; refine ⟨nil_evs _, ?_⟩
  refine Goes.step rfl (fun _ h₁ => ?_); obtain ⟨d, rfl⟩ := h₁
  try simp only [at_at]
  rw [stepG_seq]; simp only [goes_go]; refine ⟨nil_evs _, ?_⟩
  refine Goes.step rfl (fun _ h₁ => ?_); obtain ⟨d, rfl⟩ := h₁
  try simp only [at_at]
  rw [stepG_region]; simp only [goes_go, List.size_toArray, List.length_cons, List.length_nil, Nat.reduceAdd, Nat.zero_add, List.range, List.range.loop]; refine ⟨nil_evs _, ?_⟩
  refine Goes.step rfl (fun _ h₁ => ?_); obtain ⟨d, rfl⟩ := h₁
  try simp only [at_at]
  refine goes_oper_k rfl rfl (by k_ne) (fun K hK => ?_)
  go_simp
  try simp only [alloc_at, at_heap] at hK ⊢
  refine hK _ _ ⟨?_, ?_⟩
  · intro x hx
    have hm := mem_listed hx
    simp [go_sem] at hm
  clear hK K
  try simp only [alloc_at, at_heap]
  try w_num
  refine Goes.step rfl (fun _ h₁ => ?_); obtain ⟨d, rfl⟩ := h₁
  try simp only [at_at]
  refine goes_oper_k rfl rfl (by k_ne) (fun K hK => ?_)
  go_simp
  try simp only [alloc_at, at_heap] at hK ⊢
  refine hK _ _ ⟨?_, ?_⟩
  · intro x hx
    have hm := mem_listed hx
    simp [go_sem] at hm
  clear hK K
  try simp only [alloc_at, at_heap]
  try w_num
  refine Goes.step rfl (fun _ h₁ => ?_); obtain ⟨d, rfl⟩ := h₁
  try simp only [at_at]
  refine goes_call rfl rfl (by k_ne) rfl Try.func46 (by kernel_rfl) rfl ⟨nil_evs _, ?_⟩
  walk_nrmf Try.f46
  exact Goes.stop (fun _ h₁ => by obtain ⟨d, rfl⟩ := h₁; exact ⟨by rw [enter_at' Try.func46 (show Try.f46.body = some body46 from rfl), show Try.f46.ntmps = 39 from rfl]; simp only [List.size_toArray, List.length_cons, List.length_nil, Nat.reduceAdd, Nat.reduceSub, Array.replicate_succ, Array.replicate_zero, List.push_toArray, List.append_toArray, List.nil_append, List.cons_append]; rfl, _, rfl⟩)
set_option maxRecDepth 100000 in
set_option maxHeartbeats 4000000 in
theorem w2f_20 {v2 v3 v7 v8 v9 v10 v11 v14 v15 v16 v17 v18 v19 v20 v21 v22 v23 v24 v25 v26 r : Value} {rest : List Value} :
    Goes Try.prog true AtRel (DE E) (fun g w' => g = G (cT.finish (.tuple #[.slice none 0 0, .slice none 0 0, .bool false])) Z ∧ ∃ d, w' = W.at d) 40
      (G (((base 20).at ⟨(.slice A n c :: .slice B m d :: v2 :: v3 :: .slice none 0 0 :: .slice none 0 0 :: .bool false :: v7 :: v8 :: v9 :: v10 :: v11 :: .slice A n c :: .slice B m d :: v14 :: v15 :: v16 :: v17 :: v18 :: v19 :: v20 :: v21 :: v22 :: v23 :: v24 :: v25 :: v26 :: rest).toArray, []⟩ [.inRegion ops20a [2, 3, 4, 5, 6, 7], .code c20b]).finish (.tuple #[r, .bool false])) (cT :: Z)) W := by
  rw [Frame.finish_at]
  simp only [ops20a, c20b, Try.f20]
  walk_nrm
  refine Goes.step rfl (fun _ h₁ => ?_); obtain ⟨d, rfl⟩ := h₁
  try simp only [at_at]
  refine goes_oper_k rfl rfl (by k_ne) (fun K hK => ?_)
  go_simp
  try simp only [alloc_at, at_heap] at hK ⊢
  refine hK _ _ ⟨?_, ?_⟩
  · intro x hx
    have hm := mem_listed hx
    simp [go_sem] at hm
  clear hK K
  try simp only [alloc_at, at_heap]
  try w_num
  refine Goes.step rfl (fun _ h₁ => ?_); obtain ⟨d, rfl⟩ := h₁
  try simp only [at_at]
  refine goes_oper_k rfl rfl (by k_ne) (fun K hK => ?_)
  go_simp
  try simp only [alloc_at, at_heap] at hK ⊢
  refine hK _ _ ⟨?_, ?_⟩
  · intro x hx
    have hm := mem_listed hx
    simp [go_sem] at hm
  clear hK K
  try simp only [alloc_at, at_heap]
  try w_num
  refine Goes.step rfl (fun _ h₁ => ?_); obtain ⟨d, rfl⟩ := h₁
  try simp only [at_at]
  refine goes_oper_k rfl rfl (by k_ne) (fun K hK => ?_)
  go_simp
  try simp only [alloc_at, at_heap] at hK ⊢
  refine hK _ _ ⟨?_, ?_⟩
  · intro x hx
    have hm := mem_listed hx
    simp [go_sem] at hm
  clear hK K
  try simp only [alloc_at, at_heap]
  try w_num
  refine Goes.step rfl (fun _ h₁ => ?_); obtain ⟨d, rfl⟩ := h₁
  try simp only [at_at]
  refine goes_oper_k rfl rfl (by k_ne) (fun K hK => ?_)
  go_simp
  try simp only [alloc_at, at_heap] at hK ⊢
  refine hK _ _ ⟨?_, ?_⟩
  · intro x hx
    have hm := mem_listed hx
    simp [go_sem] at hm
  clear hK K
  try simp only [alloc_at, at_heap]
  try w_num
  refine Goes.step rfl (fun _ h₁ => ?_); obtain ⟨d, rfl⟩ := h₁
  try simp only [at_at]
  refine goes_oper_k rfl rfl (by k_ne) (fun K hK => ?_)
  go_simp
  try simp only [alloc_at, at_heap] at hK ⊢
  refine hK _ _ ⟨?_, ?_⟩
  · intro x hx
    have hm := mem_listed hx
    simp [go_sem] at hm
  clear hK K
  try simp only [alloc_at, at_heap]
  try w_num
  refine Goes.step rfl (fun _ h₁ => ?_); obtain ⟨d, rfl⟩ := h₁
  try simp only [at_at]
  rw [stepG_region_end]; simp only [goes_go]; refine ⟨nil_evs _, ?_⟩
  refine Goes.step rfl (fun _ h₁ => ?_); obtain ⟨d, rfl⟩ := h₁
  try simp only [at_at]
  rw [stepG_seq]; simp only [goes_go]; refine ⟨nil_evs _, ?_⟩
  refine Goes.step rfl (fun _ h₁ => ?_); obtain ⟨d, rfl⟩ := h₁
  try simp only [at_at]
  rw [stepG_seq]; simp only [goes_go]; refine ⟨nil_evs _, ?_⟩
  refine Goes.step rfl (fun _ h₁ => ?_); obtain ⟨d, rfl⟩ := h₁
  try simp only [at_at]
  rw [stepG_region]; simp only [goes_go, List.size_toArray, List.length_cons, List.length_nil, Nat.reduceAdd, Nat.zero_add, List.range, List.range.loop]; refine ⟨nil_evs _, ?_⟩
  refine Goes.step rfl (fun _ h₁ => ?_); obtain ⟨d, rfl⟩ := h₁
  try simp only [at_at]
  refine goes_oper_k rfl rfl (by k_ne) (fun K hK => ?_)
  go_simp
  try simp only [alloc_at, at_heap] at hK ⊢
  refine hK _ _ ⟨?_, ?_⟩
  · intro x hx
    have hm := mem_listed hx
    simp [go_sem] at hm
  clear hK K
  try simp only [alloc_at, at_heap]
  try w_num
  refine Goes.step rfl (fun _ h₁ => ?_); obtain ⟨d, rfl⟩ := h₁
  try simp only [at_at]
  refine goes_oper_k rfl rfl (by k_ne) (fun K hK => ?_)
  go_simp
  try simp only [alloc_at, at_heap] at hK ⊢
  refine hK _ _ ⟨?_, ?_⟩
  · intro x hx
    have hm := mem_listed hx
    simp [go_sem] at hm
  clear hK K
  try simp only [alloc_at, at_heap]
  try w_num
  refine Goes.step rfl (fun _ h₁ => ?_); obtain ⟨d, rfl⟩ := h₁
  try simp only [at_at]
  rw [stepG_region_end]; simp only [goes_go]; refine ⟨nil_evs _, ?_⟩
  refine Goes.step rfl (fun _ h₁ => ?_); obtain ⟨d, rfl⟩ := h₁
  try simp only [at_at]
  rw [stepG_cond (t := true) rfl]; simp only [goes_go, if_true, if_false, Bool.false_eq_true, ↓reduceIte]; refine ⟨nil_evs _, ?_⟩
  refine Goes.step rfl (fun _ h₁ => ?_); obtain ⟨d, rfl⟩ := h₁
  try simp only [at_at]
  rw [stepG_seq]; simp only [goes_go]; refine ⟨nil_evs _, ?_⟩
  refine Goes.step rfl (fun _ h₁ => ?_); obtain ⟨d, rfl⟩ := h₁
  try simp only [at_at]
  rw [stepG_region]; simp only [goes_go, List.size_toArray, List.length_cons, List.length_nil, Nat.reduceAdd, Nat.zero_add, List.range, List.range.loop]; refine ⟨nil_evs _, ?_⟩
  refine Goes.step rfl (fun _ h₁ => ?_); obtain ⟨d, rfl⟩ := h₁
  try simp only [at_at]
  refine goes_oper_k rfl rfl (by k_ne) (fun K hK => ?_)
  go_simp
  try simp only [alloc_at, at_heap] at hK ⊢
  refine hK _ _ ⟨?_, ?_⟩
  · intro x hx
    have hm := mem_listed hx
    simp [go_sem] at hm
  clear hK K
  try simp only [alloc_at, at_heap]
  try w_num
  refine Goes.step rfl (fun _ h₁ => ?_); obtain ⟨d, rfl⟩ := h₁
  try simp only [at_at]
  refine goes_oper_k rfl rfl (by k_ne) (fun K hK => ?_)
  go_simp
  try simp only [alloc_at, at_heap] at hK ⊢
  refine hK _ _ ⟨?_, ?_⟩
  · intro x hx
    have hm := mem_listed hx
    simp [go_sem] at hm
  clear hK K
  try simp only [alloc_at, at_heap]
  try w_num
  refine Goes.step rfl (fun _ h₁ => ?_); obtain ⟨d, rfl⟩ := h₁
  try simp only [at_at]
  refine goes_oper_k rfl rfl (by k_ne) (fun K hK => ?_)
  go_simp
  try simp only [alloc_at, at_heap] at hK ⊢
  refine hK _ _ ⟨?_, ?_⟩
  · intro x hx
    have hm := mem_listed hx
    simp [go_sem] at hm
  clear hK K
  try simp only [alloc_at, at_heap]
  try w_num
  refine Goes.step rfl (fun _ h₁ => ?_); obtain ⟨d, rfl⟩ := h₁
  try simp only [at_at]
  rw [stepG_region_end]; simp only [goes_go]; refine ⟨nil_evs _, ?_⟩
  refine Goes.step rfl (fun _ h₁ => ?_); obtain ⟨d, rfl⟩ := h₁
  try simp only [at_at]
  rw [stepG_ret']; simp only [goes_go]; refine ⟨nil_evs _, ?_⟩
  refine Goes.step rfl (fun _ h₁ => ?_); obtain ⟨d, rfl⟩ := h₁
  try simp only [at_at]
  rw [stepG_leave (b := base 20) rfl rfl Try.func20 (results_tmp3 (t := 4) (u := 5) (v := 6) rfl _ _ _) (events_results_tmp3 (t := 4) (u := 5) (v := 6) rfl _ _)]; simp only [goes_go]; refine ⟨nil_evs _, ?_⟩
  exact Goes.stop (fun _ h₁ => by obtain ⟨d, rfl⟩ := h₁; exact ⟨rfl, _, rfl⟩)
set_option maxRecDepth 100000 in
set_option maxHeartbeats 4000000 in
theorem w2t_20 {v2 v3 v7 v8 v9 v10 v11 v14 v15 v16 v17 v18 v19 v20 v21 v22 v23 v24 v25 v26 r : Value} {rest : List Value} :
    Goes Try.prog true AtRel (DE E) (fun g w' => g = G (Frame.enter Try.prog 46 #[.slice A n c, .slice B m d, .func (.func 50) #[] #[]] .normal) ((base 20).at ⟨(.slice A n c :: .slice B m d :: v2 :: v3 :: .slice none 0 0 :: .slice none 0 0 :: .bool false :: r :: .bool true :: v9 :: v10 :: .tuple #[r, .bool true] :: .slice A n c :: .slice B m d :: .tuple #[r, .bool true] :: r :: .bool true :: .bool true :: .bool false :: v19 :: .slice A n c :: .slice B m d :: v22 :: v23 :: v24 :: v25 :: v26 :: rest).toArray, []⟩ [.inRegion ops20d [2, 3, 4, 5, 6, 7], .code c20e] :: cs) ∧ ∃ d, w' = W.at d) 40
      (G (((base 20).at ⟨(.slice A n c :: .slice B m d :: v2 :: v3 :: .slice none 0 0 :: .slice none 0 0 :: .bool false :: v7 :: v8 :: v9 :: v10 :: v11 :: .slice A n c :: .slice B m d :: v14 :: v15 :: v16 :: v17 :: v18 :: v19 :: v20 :: v21 :: v22 :: v23 :: v24 :: v25 :: v26 :: rest).toArray, []⟩ [.inRegion ops20a [2, 3, 4, 5, 6, 7], .code c20b]).finish (.tuple #[r, .bool true])) cs) W := by
  rw [Frame.finish_at]
  simp only [ops20a, ops20d, c20e, c20b, Try.f20]
  walk_nrm
  refine Goes.step rfl (fun _ h₁ => ?_); obtain ⟨d, rfl⟩ := h₁
  try simp only [at_at]
  refine goes_oper_k rfl rfl (by k_ne) (fun K hK => ?_)
  go_simp
  try simp only [alloc_at, at_heap] at hK ⊢
  refine hK _ _ ⟨?_, ?_⟩
  · intro x hx
    have hm := mem_listed hx
    simp [go_sem] at hm
  clear hK K
  try simp only [alloc_at, at_heap]
  try w_num
  refine Goes.step rfl (fun _ h₁ => ?_); obtain ⟨d, rfl⟩ := h₁
  try simp only [at_at]
  refine goes_oper_k rfl rfl (by k_ne) (fun K hK => ?_)
  go_simp
  try simp only [alloc_at, at_heap] at hK ⊢
  refine hK _ _ ⟨?_, ?_⟩
  · intro x hx
    have hm := mem_listed hx
    simp [go_sem] at hm
  clear hK K
  try simp only [alloc_at, at_heap]
  try w_num
  refine Goes.step rfl (fun _ h₁ => ?_); obtain ⟨d, rfl⟩ := h₁
  try simp only [at_at]
  refine goes_oper_k rfl rfl (by k_ne) (fun K hK => ?_)
  go_simp
  try simp only [alloc_at, at_heap] at hK ⊢
  refine hK _ _ ⟨?_, ?_⟩
  · intro x hx
    have hm := mem_listed hx
    simp [go_sem] at hm
  clear hK K
  try simp only [alloc_at, at_heap]
  try w_num
  refine Goes.step rfl (fun _ h₁ => ?_); obtain ⟨d, rfl⟩ := h₁
  try simp only [at_at]
  refine goes_oper_k rfl rfl (by k_ne) (fun K hK => ?_)
  go_simp
  try simp only [alloc_at, at_heap] at hK ⊢
  refine hK _ _ ⟨?_, ?_⟩
  · intro x hx
    have hm := mem_listed hx
    simp [go_sem] at hm
  clear hK K
  try simp only [alloc_at, at_heap]
  try w_num
  refine Goes.step rfl (fun _ h₁ => ?_); obtain ⟨d, rfl⟩ := h₁
  try simp only [at_at]
  refine goes_oper_k rfl rfl (by k_ne) (fun K hK => ?_)
  go_simp
  try simp only [alloc_at, at_heap] at hK ⊢
  refine hK _ _ ⟨?_, ?_⟩
  · intro x hx
    have hm := mem_listed hx
    simp [go_sem] at hm
  clear hK K
  try simp only [alloc_at, at_heap]
  try w_num
  refine Goes.step rfl (fun _ h₁ => ?_); obtain ⟨d, rfl⟩ := h₁
  try simp only [at_at]
  rw [stepG_region_end]; simp only [goes_go]; refine ⟨nil_evs _, ?_⟩
  refine Goes.step rfl (fun _ h₁ => ?_); obtain ⟨d, rfl⟩ := h₁
  try simp only [at_at]
  rw [stepG_seq]; simp only [goes_go]; refine ⟨nil_evs _, ?_⟩
  refine Goes.step rfl (fun _ h₁ => ?_); obtain ⟨d, rfl⟩ := h₁
  try simp only [at_at]
  rw [stepG_seq]; simp only [goes_go]; refine ⟨nil_evs _, ?_⟩
  refine Goes.step rfl (fun _ h₁ => ?_); obtain ⟨d, rfl⟩ := h₁
  try simp only [at_at]
  rw [stepG_region]; simp only [goes_go, List.size_toArray, List.length_cons, List.length_nil, Nat.reduceAdd, Nat.zero_add, List.range, List.range.loop]; refine ⟨nil_evs _, ?_⟩
  refine Goes.step rfl (fun _ h₁ => ?_); obtain ⟨d, rfl⟩ := h₁
  try simp only [at_at]
  refine goes_oper_k rfl rfl (by k_ne) (fun K hK => ?_)
  go_simp
  try simp only [alloc_at, at_heap] at hK ⊢
  refine hK _ _ ⟨?_, ?_⟩
  · intro x hx
    have hm := mem_listed hx
    simp [go_sem] at hm
  clear hK K
  try simp only [alloc_at, at_heap]
  try w_num
  refine Goes.step rfl (fun _ h₁ => ?_); obtain ⟨d, rfl⟩ := h₁
  try simp only [at_at]
  refine goes_oper_k rfl rfl (by k_ne) (fun K hK => ?_)
  go_simp
  try simp only [alloc_at, at_heap] at hK ⊢
  refine hK _ _ ⟨?_, ?_⟩
  · intro x hx
    have hm := mem_listed hx
    simp [go_sem] at hm
  clear hK K
  try simp only [alloc_at, at_heap]
  try w_num
  refine Goes.step rfl (fun _ h₁ => ?_); obtain ⟨d, rfl⟩ := h₁
  try simp only [at_at]
  rw [stepG_region_end]; simp only [goes_go]; refine ⟨nil_evs _, ?_⟩
  refine Goes.step rfl (fun _ h₁ => ?_); obtain ⟨d, rfl⟩ := h₁
  try simp only [at_at]
  rw [stepG_cond (t := false) rfl]; simp only [goes_go, if_true, if_false, Bool.false_eq_true, ↓reduceIte]; refine ⟨nil_evs _, ?_⟩
  refine Goes.step rfl (fun _ h₁ => ?_); obtain ⟨d, rfl⟩ := h₁
  try simp only [at_at]
  rw [stepG_skip]; simp only [goes_go]; refine ⟨nil_evs _, ?_⟩
  refine Goes.step rfl (fun _ h₁ => ?_); obtain ⟨d, rfl⟩ := h₁
  try simp only [at_at]
  rw [stepG_seq]; simp only [goes_go]; refine ⟨nil_evs _, ?_⟩
  refine Goes.step rfl (fun _ h₁ => ?_); obtain ⟨d, rfl⟩ := h₁
  try simp only [at_at]
  rw [stepG_region]; simp only [goes_go, List.size_toArray, List.length_cons, List.length_nil, Nat.reduceAdd, Nat.zero_add, List.range, List.range.loop]; refine ⟨nil_evs _, ?_⟩
  refine Goes.step rfl (fun _ h₁ => ?_); obtain ⟨d, rfl⟩ := h₁
  try simp only [at_at]
  refine goes_oper_k rfl rfl (by k_ne) (fun K hK => ?_)
  go_simp
  try simp only [alloc_at, at_heap] at hK ⊢
  refine hK _ _ ⟨?_, ?_⟩
  · intro x hx
    have hm := mem_listed hx
    simp [go_sem] at hm
  clear hK K
  try simp only [alloc_at, at_heap]
  try w_num
  refine Goes.step rfl (fun _ h₁ => ?_); obtain ⟨d, rfl⟩ := h₁
  try simp only [at_at]
  refine goes_oper_k rfl rfl (by k_ne) (fun K hK => ?_)
  go_simp
  try simp only [alloc_at, at_heap] at hK ⊢
  refine hK _ _ ⟨?_, ?_⟩
  · intro x hx
    have hm := mem_listed hx
    simp [go_sem] at hm
  clear hK K
  try simp only [alloc_at, at_heap]
  try w_num
  refine Goes.step rfl (fun _ h₁ => ?_); obtain ⟨d, rfl⟩ := h₁
  try simp only [at_at]
  refine goes_call rfl rfl (by k_ne) rfl Try.func46 (by kernel_rfl) rfl ⟨nil_evs _, ?_⟩
  walk_nrmf Try.f46
  exact Goes.stop (fun _ h₁ => by obtain ⟨d, rfl⟩ := h₁; exact ⟨by rw [enter_at' Try.func46 (show Try.f46.body = some body46 from rfl), show Try.f46.ntmps = 39 from rfl]; simp only [List.size_toArray, List.length_cons, List.length_nil, Nat.reduceAdd, Nat.reduceSub, Array.replicate_succ, Array.replicate_zero, List.push_toArray, List.append_toArray, List.nil_append, List.cons_append]; rfl, _, rfl⟩)
set_option maxRecDepth 100000 in
set_option maxHeartbeats 4000000 in
theorem w3_20 {v2 v3 v9 v10 v19 v22 v23 v24 v25 v26 r s t : Value} {rest : List Value} :
    Goes Try.prog true AtRel (DE E) (fun g w' => g = G (cT.finish (.tuple #[r, s, .bool true])) Z ∧ ∃ d, w' = W.at d) 40
      (G (((base 20).at ⟨(.slice A n c :: .slice B m d :: v2 :: v3 :: .slice none 0 0 :: .slice none 0 0 :: .bool false :: r :: .bool true :: v9 :: v10 :: .tuple #[r, .bool true] :: .slice A n c :: .slice B m d :: .tuple #[r, .bool true] :: r :: .bool true :: .bool true :: .bool false :: v19 :: .slice A n c :: .slice B m d :: v22 :: v23 :: v24 :: v25 :: v26 :: rest).toArray, []⟩ [.inRegion ops20d [2, 3, 4, 5, 6, 7], .code c20e]).finish (.tuple #[s, t])) (cT :: Z)) W := by
  rw [Frame.finish_at]
  simp only [ops20d, c20e, c20b, Try.f20]
  walk_nrm
  refine Goes.step rfl (fun _ h₁ => ?_); obtain ⟨d, rfl⟩ := h₁
  try simp only [at_at]
  refine goes_oper_k rfl rfl (by k_ne) (fun K hK => ?_)
  go_simp
  try simp only [alloc_at, at_heap] at hK ⊢
  refine hK _ _ ⟨?_, ?_⟩
  · intro x hx
    have hm := mem_listed hx
    simp [go_sem] at hm
  clear hK K
  try simp only [alloc_at, at_heap]
  try w_num
  refine Goes.step rfl (fun _ h₁ => ?_); obtain ⟨d, rfl⟩ := h₁
  try simp only [at_at]
  refine goes_oper_k rfl rfl (by k_ne) (fun K hK => ?_)
  go_simp
  try simp only [alloc_at, at_heap] at hK ⊢
  refine hK _ _ ⟨?_, ?_⟩
  · intro x hx
    have hm := mem_listed hx
    simp [go_sem] at hm
  clear hK K
  try simp only [alloc_at, at_heap]
  try w_num
  refine Goes.step rfl (fun _ h₁ => ?_); obtain ⟨d, rfl⟩ := h₁
  try simp only [at_at]
  refine goes_oper_k rfl rfl (by k_ne) (fun K hK => ?_)
  go_simp
  try simp only [alloc_at, at_heap] at hK ⊢
  refine hK _ _ ⟨?_, ?_⟩
  · intro x hx
    have hm := mem_listed hx
    simp [go_sem] at hm
  clear hK K
  try simp only [alloc_at, at_heap]
  try w_num
  refine Goes.step rfl (fun _ h₁ => ?_); obtain ⟨d, rfl⟩ := h₁
  try simp only [at_at]
  refine goes_oper_k rfl rfl (by k_ne) (fun K hK => ?_)
  go_simp
  try simp only [alloc_at, at_heap] at hK ⊢
  refine hK _ _ ⟨?_, ?_⟩
  · intro x hx
    have hm := mem_listed hx
    simp [go_sem] at hm
  clear hK K
  try simp only [alloc_at, at_heap]
  try w_num
  refine Goes.step rfl (fun _ h₁ => ?_); obtain ⟨d, rfl⟩ := h₁
  try simp only [at_at]
  refine goes_oper_k rfl rfl (by k_ne) (fun K hK => ?_)
  go_simp
  try simp only [alloc_at, at_heap] at hK ⊢
  refine hK _ _ ⟨?_, ?_⟩
  · intro x hx
    have hm := mem_listed hx
    simp [go_sem] at hm
  clear hK K
  try simp only [alloc_at, at_heap]
  try w_num
  refine Goes.step rfl (fun _ h₁ => ?_); obtain ⟨d, rfl⟩ := h₁
  try simp only [at_at]
  rw [stepG_region_end]; simp only [goes_go]; refine ⟨nil_evs _, ?_⟩
  refine Goes.step rfl (fun _ h₁ => ?_); obtain ⟨d, rfl⟩ := h₁
  try simp only [at_at]
  rw [stepG_seq]; simp only [goes_go]; refine ⟨nil_evs _, ?_⟩
  refine Goes.step rfl (fun _ h₁ => ?_); obtain ⟨d, rfl⟩ := h₁
  try simp only [at_at]
  rw [stepG_region]; simp only [goes_go, List.size_toArray, List.length_cons, List.length_nil, Nat.reduceAdd, Nat.zero_add, List.range, List.range.loop]; refine ⟨nil_evs _, ?_⟩
  refine Goes.step rfl (fun _ h₁ => ?_); obtain ⟨d, rfl⟩ := h₁
  try simp only [at_at]
  refine goes_oper_k rfl rfl (by k_ne) (fun K hK => ?_)
  go_simp
  try simp only [alloc_at, at_heap] at hK ⊢
  refine hK _ _ ⟨?_, ?_⟩
  · intro x hx
    have hm := mem_listed hx
    simp [go_sem] at hm
  clear hK K
  try simp only [alloc_at, at_heap]
  try w_num
  refine Goes.step rfl (fun _ h₁ => ?_); obtain ⟨d, rfl⟩ := h₁
  try simp only [at_at]
  refine goes_oper_k rfl rfl (by k_ne) (fun K hK => ?_)
  go_simp
  try simp only [alloc_at, at_heap] at hK ⊢
  refine hK _ _ ⟨?_, ?_⟩
  · intro x hx
    have hm := mem_listed hx
    simp [go_sem] at hm
  clear hK K
  try simp only [alloc_at, at_heap]
  try w_num
  refine Goes.step rfl (fun _ h₁ => ?_); obtain ⟨d, rfl⟩ := h₁
  try simp only [at_at]
  refine goes_oper_k rfl rfl (by k_ne) (fun K hK => ?_)
  go_simp
  try simp only [alloc_at, at_heap] at hK ⊢
  refine hK _ _ ⟨?_, ?_⟩
  · intro x hx
    have hm := mem_listed hx
    simp [go_sem] at hm
  clear hK K
  try simp only [alloc_at, at_heap]
  try w_num
  refine Goes.step rfl (fun _ h₁ => ?_); obtain ⟨d, rfl⟩ := h₁
  try simp only [at_at]
  refine goes_oper_k rfl rfl (by k_ne) (fun K hK => ?_)
  go_simp
  try simp only [alloc_at, at_heap] at hK ⊢
  refine hK _ _ ⟨?_, ?_⟩
  · intro x hx
    have hm := mem_listed hx
    simp [go_sem] at hm
  clear hK K
  try simp only [alloc_at, at_heap]
  try w_num
  refine Goes.step rfl (fun _ h₁ => ?_); obtain ⟨d, rfl⟩ := h₁
  try simp only [at_at]
  refine goes_oper_k rfl rfl (by k_ne) (fun K hK => ?_)
  go_simp
  try simp only [alloc_at, at_heap] at hK ⊢
  refine hK _ _ ⟨?_, ?_⟩
  · intro x hx
    have hm := mem_listed hx
    simp [go_sem] at hm
  clear hK K
  try simp only [alloc_at, at_heap]
  try w_num
  refine Goes.step rfl (fun _ h₁ => ?_); obtain ⟨d, rfl⟩ := h₁
  try simp only [at_at]
  rw [stepG_region_end]; simp only [goes_go]; refine ⟨nil_evs _, ?_⟩
  refine Goes.step rfl (fun _ h₁ => ?_); obtain ⟨d, rfl⟩ := h₁
  try simp only [at_at]
  rw [stepG_ret']; simp only [goes_go]; refine ⟨nil_evs _, ?_⟩
  refine Goes.step rfl (fun _ h₁ => ?_); obtain ⟨d, rfl⟩ := h₁
  try simp only [at_at]
  rw [stepG_leave (b := base 20) rfl rfl Try.func20 (results_tmp3 (t := 4) (u := 5) (v := 6) rfl _ _ _) (events_results_tmp3 (t := 4) (u := 5) (v := 6) rfl _ _)]; simp only [goes_go]; refine ⟨nil_evs _, ?_⟩
  exact Goes.stop (fun _ h₁ => by obtain ⟨d, rfl⟩ := h₁; exact ⟨rfl, _, rfl⟩)
end
end Go.Proofs.Ytcdnmnipaaooiaa
end
