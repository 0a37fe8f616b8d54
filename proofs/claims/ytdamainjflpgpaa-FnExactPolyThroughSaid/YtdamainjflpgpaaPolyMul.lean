/- The product of two polynomials, of the program and of the reference. Conditions: the product's loops at lists of field numbers. -/
import Derived.Test.YtdamainjflpgpaaPolyAt
import Derived.Test.YtdamainjflpgpaaPx4
import Derived.Test.YtdamainjflpgpaaPx5
import Derived.Test.YtdamainjflpgpaaPx6
import Derived.Test.YtdamainjflpgpaaPx7
namespace Go.Proofs.Ytdamainjflpgpaa.P
open Go.RowKit Go.Proofs.Ytdamainjflpgpaa.Num Go.Proofs.YtdamainjflpgpaaW.PrintWords

/-- Coefficient j, i rows and t numbers of the next having been added. -/
def T (a b : List Int) (i t j : Nat) : Int := (S (a.take i) b j + (if i ≤ j ∧ j < i + t then cof a i * cof b (j - i) else 0)) % 31
theorem T_rng (a b : List Int) (i t j : Nat) : 0 ≤ T a b i t j ∧ T a b i t j ≤ 30 := by unfold T; omega
theorem T_step (a b : List Int) (i t n : Nat) : (tab n (T a b i t)).set (i + t) ((T a b i t (i + t) + cof a i * cof b t) % 31) = tab n (T a b i (t + 1)) := by
  rw [tab_set]
  refine tab_congr fun j _ => ?_
  by_cases e : j = i + t
  · subst e
    rw [if_pos rfl]
    unfold T
    rw [if_neg (by omega), if_pos (by omega), show i + t - i = t by omega]
    omega
  · rw [if_neg e]
    unfold T
    by_cases h : i ≤ j ∧ j < i + t
    · rw [if_pos h, if_pos (by omega)]
    · rw [if_neg h, if_neg (by omega)]
theorem T_row (a b : List Int) {i : Nat} (hi : i < a.length) (n : Nat) : tab n (T a b i b.length) = tab n (T a b (i + 1) 0) := by
  refine tab_congr fun j _ => ?_
  unfold T
  rw [List.take_succ_eq_append_getElem hi, S_snoc, List.length_take, Nat.min_eq_left (by omega), if_neg (by omega : ¬ (i + 1 ≤ j ∧ j < i + 1 + 0)), Int.add_zero, cof_in hi]
  congr 2
  by_cases h : i ≤ j
  · rw [if_pos h]
    by_cases h2 : j < i + b.length
    · rw [if_pos ⟨h, h2⟩]
    · rw [if_neg (by omega), cof_out (by omega), Int.mul_zero]
  · rw [if_neg h, if_neg (by omega)]
theorem T_start (a b : List Int) (n : Nat) : List.replicate n 0 = tab n (T a b 0 0) := by
  rw [← tab_zero]
  refine tab_congr fun j _ => ?_
  unfold T
  rw [if_neg (by omega), List.take_zero]
  rfl
theorem T_end (a b : List Int) (n : Nat) : tab n (T a b a.length 0) = tab n (fun j => S a b j % 31) := by
  refine tab_congr fun j _ => ?_
  unfold T
  rw [if_neg (by omega), List.take_length, Int.add_zero]

theorem rd_cof (l : List Int) (i : Nat) : rd l (i : Int) = cof l i := rfl

theorem l2Mul_l1 {a b : List Int} (ha : allOk a = true) (hb : allOk b = true) (hla : a.length ≤ 1000) (hlb : b.length ≤ 1000) {i : Nat} (hi : i < a.length) (R : List Int)
    (hR : Ev (fun k => spec_l2Mul.l0 k a b (tab (a.length + b.length - 1) (T a b (i + 1) 0)) ((i + 1 : Nat) : Int)) R) (d : Nat) :
    ∀ t : Nat, t + d = b.length → Ev (fun k => spec_l2Mul.l1 k a b (tab (a.length + b.length - 1) (T a b i t)) (i : Int) (t : Int)) R := by
  induction d with
  | zero =>
    intro t ht
    obtain rfl : t = b.length := by omega
    obtain ⟨K, h⟩ := hR
    refine ⟨K + 1, fun k hk => ?_⟩
    obtain ⟨k, rfl⟩ : ∃ m, k = m + 1 := ⟨k - 1, by omega⟩
    simp only [spec_l2Mul.l1]
    rw [if_neg (by omega), w64 (by omega), T_row a b hi]
    exact h k (by omega)
  | succ d ih =>
    intro t ht
    obtain ⟨K, h⟩ := ih (t + 1) (by omega)
    refine ⟨K + 1, fun k hk => ?_⟩
    obtain ⟨k, rfl⟩ : ∃ m, k = m + 1 := ⟨k - 1, by omega⟩
    have hp : wrap64 ((i : Int) + (t : Int)) = ((i + t : Nat) : Int) := by rw [w64 (by omega)]; omega
    have h1 := mul_rng (cof_rng ha i) (cof_rng hb t)
    have h2 := T_rng a b i t (i + t)
    simp only [spec_l2Mul.l1]
    rw [hp, if_pos (by omega), if_pos (by omega), if_pos (by rw [tab_length]; omega), if_pos (by omega), if_pos (by omega), if_pos (by omega), rd_cof, rd_cof, rd_cof, tab_cof (by omega), w64 (n := cof a i * cof b t) (by omega), w64 (n := T a b i t (i + t) + cof a i * cof b t) (by omega), tmod_pos (by omega), Int.toNat_natCast, T_step, w64 (by omega)]
    exact h k (by omega)
theorem l2Mul_l0 {a b : List Int} (ha : allOk a = true) (hb : allOk b = true) (hla : a.length ≤ 1000) (hlb : b.length ≤ 1000) (d : Nat) :
    ∀ i : Nat, i + d = a.length → Ev (fun k => spec_l2Mul.l0 k a b (tab (a.length + b.length - 1) (T a b i 0)) (i : Int)) (tab (a.length + b.length - 1) (fun j => S a b j % 31)) := by
  induction d with
  | zero =>
    intro i hi
    obtain rfl : i = a.length := by omega
    refine ⟨1, fun k hk => ?_⟩
    obtain ⟨k, rfl⟩ : ∃ m, k = m + 1 := ⟨k - 1, by omega⟩
    simp only [spec_l2Mul.l0]
    rw [if_neg (by omega), T_end]
  | succ d ih =>
    intro i hi
    obtain ⟨K, h⟩ := l2Mul_l1 ha hb hla hlb (i := i) (by omega) _ (ih (i + 1) (by omega)) b.length 0 (by omega)
    refine ⟨K + 1, fun k hk => ?_⟩
    obtain ⟨k, rfl⟩ : ∃ m, k = m + 1 := ⟨k - 1, by omega⟩
    simp only [spec_l2Mul.l0]
    rw [if_pos (by omega)]
    exact h k (by omega)
theorem l2Mul_ev {a b : List Int} (ha : allOk a = true) (hb : allOk b = true) (hla : a.length ≤ 1000) (hlb : b.length ≤ 1000) : Ev (fun k => spec_l2Mul.f k a b) (prod a b) := by
  by_cases h0 : a.length = 0 ∨ b.length = 0
  · refine ⟨1, fun k hk => ?_⟩
    obtain ⟨k, rfl⟩ : ∃ m, k = m + 1 := ⟨k - 1, by omega⟩
    dsimp only
    unfold spec_l2Mul.f
    rw [prod, if_pos h0]
    by_cases h1 : a.length = 0
    · rw [if_pos (by omega)]; rfl
    · rw [if_neg (by omega), show ((b.length : Int) == 0) = true by rw [beq_iff_eq]; omega]; rfl
  · obtain ⟨K, h⟩ := l2Mul_l0 ha hb hla hlb a.length 0 (by omega)
    refine ⟨K + 1, fun k hk => ?_⟩
    obtain ⟨k, rfl⟩ : ∃ m, k = m + 1 := ⟨k - 1, by omega⟩
    dsimp only
    have hw : wrap64 (wrap64 ((a.length : Int) + (b.length : Int)) - 1) = ((a.length + b.length - 1 : Nat) : Int) := by rw [w64 (n := (a.length : Int) + (b.length : Int)) (by omega), w64 (by omega)]; omega
    unfold spec_l2Mul.f
    rw [if_neg (by omega), show ((b.length : Int) == 0) = false by rw [beq_eq_false_iff_ne]; omega]
    simp only [spec_l2Mul.j0, Bool.false_eq_true, if_false]
    rw [hw, if_pos (by omega), Int.toNat_natCast, if_pos (by omega), T_start a b, prod_def h0]
    exact h k (by omega)
theorem product_l1 {a b : List Int} (ha : allOk a = true) (hb : allOk b = true) (hla : a.length ≤ 1000) (hlb : b.length ≤ 1000) {i : Nat} (hi : i < a.length) (R : List Int)
    (hR : Ev (fun k => impl_product.l0 k b (tab (a.length + b.length - 1) (T a b (i + 1) 0)) a (a.length : Int) ((i + 1 : Nat) : Int)) R) (d : Nat) :
    ∀ t : Nat, t + d = b.length → Ev (fun k => impl_product.l1 k b (tab (a.length + b.length - 1) (T a b i t)) (i : Int) (rd a (i : Int)) a (a.length : Int) (i : Int) b (b.length : Int) (t : Int)) R := by
  induction d with
  | zero =>
    intro t ht
    obtain rfl : t = b.length := by omega
    obtain ⟨K, h⟩ := hR
    refine ⟨K + 1, fun k hk => ?_⟩
    obtain ⟨k, rfl⟩ : ∃ m, k = m + 1 := ⟨k - 1, by omega⟩
    simp only [impl_product.l1]
    rw [if_neg (by omega), w64 (by omega), T_row a b hi]
    exact h k (by omega)
  | succ d ih =>
    intro t ht
    obtain ⟨K, h⟩ := ih (t + 1) (by omega)
    refine ⟨K + 1, fun k hk => ?_⟩
    obtain ⟨k, rfl⟩ : ∃ m, k = m + 1 := ⟨k - 1, by omega⟩
    have hp : wrap64 ((i : Int) + (t : Int)) = ((i + t : Nat) : Int) := by rw [w64 (by omega)]; omega
    have h2 := T_rng a b i t (i + t)
    simp only [impl_product.l1]
    rw [hp, if_pos (by omega), if_pos (by omega), if_pos (by omega), if_pos (by omega), if_pos (by rw [tab_length]; omega), rd_cof, rd_cof, rd_cof, times_ok (okF_iff.2 (cof_rng ha i)) (okF_iff.2 (cof_rng hb t))]
    simp only [Option.bind_some]
    rw [tab_cof (by omega), plus_ok (okF_iff.2 h2) (okF_mod _)]
    simp only [Option.bind_some]
    rw [Int.toNat_natCast, show (T a b i t (i + t) + cof a i * cof b t % 31) % 31 = (T a b i t (i + t) + cof a i * cof b t) % 31 by omega, T_step, w64 (by omega)]
    exact h k (by omega)
theorem product_l0 {a b : List Int} (ha : allOk a = true) (hb : allOk b = true) (hla : a.length ≤ 1000) (hlb : b.length ≤ 1000) (d : Nat) :
    ∀ i : Nat, i + d = a.length → Ev (fun k => impl_product.l0 k b (tab (a.length + b.length - 1) (T a b i 0)) a (a.length : Int) (i : Int)) (tab (a.length + b.length - 1) (fun j => S a b j % 31)) := by
  induction d with
  | zero =>
    intro i hi
    obtain rfl : i = a.length := by omega
    refine ⟨1, fun k hk => ?_⟩
    obtain ⟨k, rfl⟩ : ∃ m, k = m + 1 := ⟨k - 1, by omega⟩
    simp only [impl_product.l0]
    rw [if_neg (by omega), T_end]
  | succ d ih =>
    intro i hi
    obtain ⟨K, h⟩ := product_l1 ha hb hla hlb (i := i) (by omega) _ (ih (i + 1) (by omega)) b.length 0 (by omega)
    refine ⟨K + 1, fun k hk => ?_⟩
    obtain ⟨k, rfl⟩ : ∃ m, k = m + 1 := ⟨k - 1, by omega⟩
    simp only [impl_product.l0]
    rw [if_pos (by omega), if_pos (by omega), if_pos (by omega)]
    exact h k (by omega)
theorem product_ev {a b : List Int} (ha : allOk a = true) (hb : allOk b = true) (hla : a.length ≤ 1000) (hlb : b.length ≤ 1000) : Ev (fun k => impl_product.f k a b) (prod a b) := by
  by_cases h0 : a.length = 0 ∨ b.length = 0
  · refine ⟨1, fun k hk => ?_⟩
    obtain ⟨k, rfl⟩ : ∃ m, k = m + 1 := ⟨k - 1, by omega⟩
    dsimp only
    unfold impl_product.f
    rw [prod, if_pos h0]
    by_cases h1 : a.length = 0
    · rw [if_pos (by omega)]; rfl
    · rw [if_neg (by omega), show ((b.length : Int) == 0) = true by rw [beq_iff_eq]; omega]; rfl
  · obtain ⟨K, h⟩ := product_l0 ha hb hla hlb a.length 0 (by omega)
    refine ⟨K + 1, fun k hk => ?_⟩
    obtain ⟨k, rfl⟩ : ∃ m, k = m + 1 := ⟨k - 1, by omega⟩
    dsimp only
    have hw : wrap64 (wrap64 ((a.length : Int) + (b.length : Int)) - 1) = ((a.length + b.length - 1 : Nat) : Int) := by rw [w64 (n := (a.length : Int) + (b.length : Int)) (by omega), w64 (by omega)]; omega
    unfold impl_product.f
    rw [if_neg (by omega), show ((b.length : Int) == 0) = false by rw [beq_eq_false_iff_ne]; omega]
    simp only [impl_product.j0, Bool.false_eq_true, if_false]
    rw [hw, if_pos (by omega), Int.toNat_natCast, if_pos (by omega), T_start a b, prod_def h0]
    exact h k (by omega)
/-- Whether two lists have a product that is a polynomial. -/
def mulOk (a b : List Int) : Bool := polyOk a && polyOk b && decide ((prod a b).length ≤ 9)
def polyMul (a b : List Int) : List Int × Bool := if mulOk a b then (prod a b, true) else ([], false)
theorem sPolyMul (a b : List Int) (hma : a.length < 1099511627776) (hmb : b.length < 1099511627776) : Ev (fun k => spec_PolyMul.f k a b) (polyMul a b) := by
  obtain ⟨K1, h1⟩ := sPolyOk a hma
  obtain ⟨K2, h2⟩ := sPolyOk b hmb
  dsimp only at h1 h2
  cases ha : polyOk a
  · refine ⟨K1 + 1, fun k hk => ?_⟩
    obtain ⟨k, rfl⟩ : ∃ m, k = m + 1 := ⟨k - 1, by omega⟩
    dsimp only
    unfold spec_PolyMul.f polyMul mulOk
    rw [h1 _ (by omega), ha]; simp [spec_PolyMul.j0]
  cases hb : polyOk b
  · refine ⟨K1 + K2 + 1, fun k hk => ?_⟩
    obtain ⟨k, rfl⟩ : ∃ m, k = m + 1 := ⟨k - 1, by omega⟩
    dsimp only
    unfold spec_PolyMul.f polyMul mulOk
    rw [h1 _ (by omega), h2 _ (by omega), ha, hb]; simp [spec_PolyMul.j0]
  obtain ⟨pa, la⟩ := polyOk_iff.1 ha
  obtain ⟨pb, lb⟩ := polyOk_iff.1 hb
  obtain ⟨K3, h3⟩ := l2Mul_ev pa pb (by omega) (by omega)
  dsimp only at h3
  refine ⟨K1 + K2 + K3 + 1, fun k hk => ?_⟩
  obtain ⟨k, rfl⟩ : ∃ m, k = m + 1 := ⟨k - 1, by omega⟩
  dsimp only
  unfold spec_PolyMul.f polyMul mulOk
  rw [h1 _ (by omega), h2 _ (by omega), ha, hb]
  simp only [Option.bind_some, if_true, Bool.not_true, spec_PolyMul.j0, Bool.false_eq_true, if_false, Bool.and_self, Bool.true_and]
  rw [h3 _ (by omega)]
  simp only [Option.bind_some]
  by_cases hl : (prod a b).length ≤ 9
  · rw [if_neg (by omega), decide_eq_true hl]; rfl
  · rw [if_pos (by omega), decide_eq_false hl]; rfl
theorem iPolyMul (a b : List Int) : Ev (fun k => impl_PolyMul.f k a b) (polyMul a b) := by
  cases ha : polyOk a
  · refine ⟨0, fun k hk => ?_⟩
    dsimp only
    unfold impl_PolyMul.f polyMul mulOk
    rw [iPolyOk, ha]; simp
  cases hb : polyOk b
  · refine ⟨0, fun k hk => ?_⟩
    dsimp only
    unfold impl_PolyMul.f polyMul mulOk
    rw [iPolyOk, iPolyOk, ha, hb]; simp
  obtain ⟨pa, la⟩ := polyOk_iff.1 ha
  obtain ⟨pb, lb⟩ := polyOk_iff.1 hb
  obtain ⟨K3, h3⟩ := product_ev pa pb (by omega) (by omega)
  dsimp only at h3
  refine ⟨K3, fun k hk => ?_⟩
  have hp := prod_length a b
  dsimp only
  unfold impl_PolyMul.f polyMul mulOk
  rw [iPolyOk, iPolyOk, ha, hb, h3 k hk]
  simp only [Option.bind_some, if_true, Bool.and_self, Bool.true_and]
  by_cases h0 : a.length = 0
  · rw [if_neg (by omega), decide_eq_true (by rw [hp, if_pos (.inl h0)]; omega)]; rfl
  by_cases h00 : b.length = 0
  · rw [if_pos (by omega), if_neg (by omega), decide_eq_true (by rw [hp, if_pos (.inr h00)]; omega)]; rfl
  rw [if_neg (by omega)] at hp
  have hw : wrap64 (wrap64 ((a.length : Int) + (b.length : Int)) - 1) = ((a.length + b.length - 1 : Nat) : Int) := by rw [w64 (n := (a.length : Int) + (b.length : Int)) (by omega), w64 (by omega)]; omega
  rw [if_pos (by omega), if_pos (by omega), hw, hp]
  by_cases hl : a.length + b.length - 1 ≤ 9
  · rw [if_neg (by omega), decide_eq_true hl]; rfl
  · rw [if_pos (by omega), decide_eq_false hl]; rfl
theorem polyMul_fst_len (a b : List Int) : (polyMul a b).1.length ≤ 9 := by
  unfold polyMul
  cases h : mulOk a b
  · simp
  · simp only [mulOk, Bool.and_eq_true, decide_eq_true_eq] at h
    simp only [if_true]; omega

end Go.Proofs.Ytdamainjflpgpaa.P
