import Derived.Test.YtdamainjflpgpaaNum
import Derived.Test.YtdamainjflpgpaaPx1
import Derived.Test.YtdamainjflpgpaaPx19
import Derived.Test.YtdamainjflpgpaaPx20
import Derived.Test.YtdamainjflpgpaaPx3
import Derived.Test.YtdamainjflpgpaaPx5
import Derived.Test.YtdamainjflpgpaaPx9
import Derived.Test.YtdamainjflpgpaaPx12
import Derived.Test.YtdamainjflpgpaaPx13
import Derived.Test.YtdamainjflpgpaaPx15
import Derived.KernelRfl
import Derived.Test.YtdamainjflpgpaaPx17
import Derived.Test.YtdamainjflpgpaaPx2
import Derived.Test.YtdamainjflpgpaaPx21
import Derived.Test.YtdamainjflpgpaaPx7
import Derived.Test.YtdamainjflpgpaaHand
import Derived.Test.YtdamainjflpgpaaPx4
import Derived.Test.YtdamainjflpgpaaPx6
import Derived.Test.YtdamainjflpgpaaPx24
import Derived.Test.YtdamainjflpgpaaHandThrough
import Derived.Test.YtdamainjflpgpaaPx10
import Derived.Test.YtdamainjflpgpaaPx11a
/- What the field's functions answer, of the program and of the reference: at every two numbers of the kind int. No condition but that the arguments are of the kind. -/
namespace Go.Proofs.Ytdamainjflpgpaa.P
open Go.RowKit Go.Proofs.Ytdamainjflpgpaa.Num

/-- A number of the field. -/
def okF (a : Int) : Bool := decide (0 ≤ a ∧ a ≤ 30)
def fsum (a b : Int) : Int := if okF a && okF b then (a + b) % 31 else 0
def fdif (a b : Int) : Int := if okF a && okF b then (a - b) % 31 else 0
def fmul (a b : Int) : Int := if okF a && okF b then (a * b) % 31 else 0
theorem okF_iff {a : Int} : okF a = true ↔ 0 ≤ a ∧ a ≤ 30 := by simp [okF]
theorem okF_false {a : Int} : okF a = false ↔ ¬ (0 ≤ a ∧ a ≤ 30) := by simp [okF]
theorem okF_mod (a : Int) : okF (a % 31) = true := by rw [okF_iff]; omega
theorem fsum_ok {a b : Int} (ha : okF a = true) (hb : okF b = true) : fsum a b = (a + b) % 31 := by simp [fsum, ha, hb]
theorem fdif_ok {a b : Int} (ha : okF a = true) (hb : okF b = true) : fdif a b = (a - b) % 31 := by simp [fdif, ha, hb]
theorem fmul_ok {a b : Int} (ha : okF a = true) (hb : okF b = true) : fmul a b = (a * b) % 31 := by simp [fmul, ha, hb]
theorem okF_fsum (a b : Int) : okF (fsum a b) = true := by unfold fsum; split; exact okF_mod _; rfl
theorem okF_fdif (a b : Int) : okF (fdif a b) = true := by unfold fdif; split; exact okF_mod _; rfl
theorem okF_fmul (a b : Int) : okF (fmul a b) = true := by unfold fmul; split; exact okF_mod _; rfl
theorem mul_rng {a b : Int} (ha : 0 ≤ a ∧ a ≤ 30) (hb : 0 ≤ b ∧ b ≤ 30) : 0 ≤ a * b ∧ a * b ≤ 900 := by
  refine ⟨Int.mul_nonneg ha.1 hb.1, ?_⟩
  have := Int.mul_le_mul ha.2 hb.2 hb.1 (by omega)
  omega

theorem l6In_eq (a b c : Int) : spec_l6In.f a b c = some (decide (b ≤ a ∧ a ≤ c)) := by
  unfold spec_l6In.f
  by_cases h : a ≥ b
  · rw [if_pos h]; simp [show b ≤ a from h]
  · rw [if_neg h]; simp [show ¬ b ≤ a from h]
theorem within_eq (a b c : Int) : impl_within.f a b c = some (decide (b ≤ a ∧ a ≤ c)) := by
  unfold impl_within.f
  by_cases h : a ≥ b
  · rw [if_pos h]; simp [show b ≤ a from h]
  · rw [if_neg h]; simp [show ¬ b ≤ a from h]
theorem sFieldOk (a : Int) : spec_FieldOk.f a = some (okF a) := by simp [spec_FieldOk.f, l6In_eq, okF]
theorem iFieldOk (a : Int) : impl_FieldOk.f a = some (okF a) := by simp [impl_FieldOk.f, within_eq, okF]
theorem loNum_eq {a : Int} (h : 0 ≤ a) : laws_loNum.f a = some (a % 31) := by unfold laws_loNum.f; rw [tmod_pos h]
theorem elementOf_eq (a : Int) : impl_elementOf.f a = some (a % 31) := by unfold impl_elementOf.f; rw [elem_eq]
theorem plus_eq {a b : Int} (h : -4611686018427387904 ≤ a ∧ a ≤ 4611686018427387903) (h' : -4611686018427387904 ≤ b ∧ b ≤ 4611686018427387903) : impl_element_plus.f a b = some ((a + b) % 31) := by
  unfold impl_element_plus.f; rw [w64 (by omega), elementOf_eq]; rfl
theorem plus_ok {a b : Int} (h : okF a = true) (h' : okF b = true) : impl_element_plus.f a b = some ((a + b) % 31) := by
  rw [okF_iff] at h h'; exact plus_eq (by omega) (by omega)
theorem times_ok {a b : Int} (h : okF a = true) (h' : okF b = true) : impl_element_times.f a b = some ((a * b) % 31) := by
  rw [okF_iff] at h h'
  have := mul_rng h h'
  unfold impl_element_times.f; rw [w64 (by omega), elementOf_eq]; rfl
theorem sFieldDif (a b : Int) : spec_FieldDif.f a b = some (fdif a b) := by
  unfold spec_FieldDif.f fdif
  simp only [sFieldOk, Option.bind_some]
  cases ha : okF a <;> simp only [Bool.false_and, Bool.true_and, Bool.false_eq_true, if_false, if_true]
  cases hb : okF b <;> simp only [Bool.false_eq_true, if_false, if_true]
  rw [okF_iff] at ha hb
  rw [w64 (n := a + 31) (by omega), w64 (by omega), tmod_pos (by omega)]
  congr 1; omega
theorem sFieldMul (a b : Int) : spec_FieldMul.f a b = some (fmul a b) := by
  unfold spec_FieldMul.f fmul
  simp only [sFieldOk, Option.bind_some]
  cases ha : okF a <;> simp only [Bool.false_and, Bool.true_and, Bool.false_eq_true, if_false, if_true]
  cases hb : okF b <;> simp only [Bool.false_eq_true, if_false, if_true]
  rw [okF_iff] at ha hb
  have := mul_rng ha hb
  rw [w64 (by omega), tmod_pos (by omega)]
theorem iFieldSum (a b : Int) : impl_FieldSum.f a b = some (fsum a b) := by
  unfold impl_FieldSum.f fsum
  simp only [iFieldOk, Option.bind_some]
  cases ha : okF a <;> simp only [Bool.false_and, Bool.true_and, Bool.false_eq_true, if_false, if_true]
  cases hb : okF b <;> simp only [Bool.false_eq_true, if_false, if_true]
  rw [plus_ok ha hb]; rfl
theorem iFieldMul (a b : Int) : impl_FieldMul.f a b = some (fmul a b) := by
  unfold impl_FieldMul.f fmul
  simp only [iFieldOk, Option.bind_some]
  cases ha : okF a <;> simp only [Bool.false_and, Bool.true_and, Bool.false_eq_true, if_false, if_true]
  cases hb : okF b <;> simp only [Bool.false_eq_true, if_false, if_true]
  rw [times_ok ha hb]; rfl

end Go.Proofs.Ytdamainjflpgpaa.P

/- What the reader of a code answers: a number from 0 on, below the asked one, at a place one further; and a drawn number of the field, or one beside it. Conditions: the code holds bytes and is at most 2000 long; few have been read. -/
namespace Go.Proofs.Ytdamainjflpgpaa.P
open Go.RowKit Go.Proofs.Ytdamainjflpgpaa.Num Go.Proofs.YtdamainjflpgpaaW.PrintWords

/-- A code's bytes. -/
def Bytes (l : List Int) : Prop := ∀ x ∈ l, 0 ≤ x ∧ x ≤ 255
theorem bytes_of {l : List Int} (h : ∀ x ∈ l, (Lit.int .u8 x).wf = true) : Bytes l := fun x hx => bounds_u8 (h x hx)
theorem Bytes.take {l : List Int} (h : Bytes l) (n : Nat) : Bytes (l.take n) := fun x hx => h x (List.mem_of_mem_take hx)
theorem Bytes.rd {l : List Int} (h : Bytes l) (i : Int) : 0 ≤ rd l i ∧ rd l i ≤ 255 := by
  unfold Go.Proofs.YtdamainjflpgpaaW.PrintWords.rd
  rw [List.getD_eq_getElem?_getD]
  cases e : l[i.toNat]? with
  | none => simp
  | some x => exact h x (List.mem_of_getElem? e)

/-- The reader, behind its opening: it has not read much. -/
structure Rd (l : List Int) (p : Int) : Prop where
  bytes : Bytes l
  len : l.length ≤ 2000
  lo : 0 ≤ p
  hi : p ≤ 1000000

theorem open_ev {l : List Int} (h : Bytes l) : ∃ b, spec_l6Open.f l = some (b, 0) ∧ Bytes b ∧ b.length ≤ 2000 := by
  unfold spec_l6Open.f
  by_cases hl : (l.length : Int) > 2000
  · rw [if_pos hl, if_pos (by omega)]
    exact ⟨_, rfl, h.take _, by simp; omega⟩
  · rw [if_neg hl]
    exact ⟨_, rfl, h, by omega⟩

theorem pick_ev {l : List Int} {p n : Int} (h : Rd l p) (hn : 1 ≤ n ∧ n ≤ 1000000) :
    ∃ v, (∀ k, 1 ≤ k → spec_l6Rd_pick.f k l p n = some (v, p + 1)) ∧ 0 ≤ v ∧ v < n := by
  obtain ⟨hb, hl, h0, h1⟩ := h
  unfold spec_l6Rd_pick.f
  rw [w64 (n := p + 1) (by omega)]
  simp only [show ¬ n < 1 by omega, if_false]
  by_cases e : l.length = 0
  · refine ⟨0, fun k hk => ?_, by omega, by omega⟩
    obtain ⟨k, rfl⟩ : ∃ m, k = m + 1 := ⟨k - 1, by omega⟩
    simp [spec_l6Rd_pick.j0, e]
  · have e' : ((l.length : Int) == 0) = false := by rw [beq_eq_false_iff_ne]; omega
    rw [e']
    have w1 : wrap64 (p + 1 - 1) = p := by rw [w64 (by omega)]; omega
    by_cases hp : p < (l.length : Int)
    · have hr := hb.rd p
      refine ⟨rd l p % n, fun k hk => ?_, Int.emod_nonneg _ (by omega), Int.emod_lt_of_pos _ (by omega)⟩
      obtain ⟨k, rfl⟩ : ∃ m, k = m + 1 := ⟨k - 1, by omega⟩
      simp only [spec_l6Rd_pick.j0, Bool.false_eq_true, if_false]
      rw [w1, if_pos hp, if_pos h0, if_neg (by omega), w64 (n := rd l p) (by omega), tmod_pos (by omega)]
    · have q1 : Int.tmod p (l.length : Int) = p % (l.length : Int) := tmod_pos h0
      have q2 : wrap64 (wrap64 (p * 7) + 3) = p * 7 + 3 := by rw [w64 (n := p * 7) (by omega), w64 (by omega)]
      have q3 : Int.tmod (p * 7 + 3) (l.length : Int) = (p * 7 + 3) % (l.length : Int) := tmod_pos (by omega)
      have b1 := Int.emod_nonneg p (b := (l.length : Int)) (by omega)
      have b2 := Int.emod_lt_of_pos p (b := (l.length : Int)) (by omega)
      have b3 := Int.emod_nonneg (p * 7 + 3) (b := (l.length : Int)) (by omega)
      have b4 := Int.emod_lt_of_pos (p * 7 + 3) (b := (l.length : Int)) (by omega)
      have r1 := hb.rd (p % (l.length : Int))
      have r2 := hb.rd ((p * 7 + 3) % (l.length : Int))
      have d1 : Int.tdiv p (l.length : Int) = p / (l.length : Int) := Int.tdiv_eq_ediv_of_nonneg h0
      have d2 : 0 ≤ p / (l.length : Int) := Int.ediv_nonneg h0 (by omega)
      have d3 : p / (l.length : Int) ≤ p := Int.ediv_le_self _ h0
      obtain ⟨X, hX⟩ : ∃ X, rd l (p % (l.length : Int)) * 131 + rd l ((p * 7 + 3) % (l.length : Int)) * 1117 + p * 29 + p / (l.length : Int) * 53 = X := ⟨_, rfl⟩
      have hx0 : 0 ≤ X ∧ X ≤ 1000000000 := by omega
      have hxx : wrap64 (wrap64 (wrap64 (wrap64 (wrap64 (rd l (p % (l.length : Int))) * 131) + wrap64 (wrap64 (rd l ((p * 7 + 3) % (l.length : Int))) * 1117)) + wrap64 (p * 29)) + wrap64 (wrap64 (p / (l.length : Int)) * 53)) = X := by
        rw [w64 (n := rd l (p % (l.length : Int))) (by omega), w64 (n := rd l ((p * 7 + 3) % (l.length : Int))) (by omega), w64 (n := rd l (p % (l.length : Int)) * 131) (by omega), w64 (n := rd l ((p * 7 + 3) % (l.length : Int)) * 1117) (by omega), w64 (n := p * 29) (by omega), w64 (n := p / (l.length : Int)) (by omega), w64 (n := p / (l.length : Int) * 53) (by omega), w64 (n := rd l (p % (l.length : Int)) * 131 + _) (by omega), w64 (n := rd l (p % (l.length : Int)) * 131 + _ + _) (by omega), w64 (by omega)]
        exact hX
      have hd : wrap64 (Int.tdiv X 64) = X / 64 := by rw [Int.tdiv_eq_ediv_of_nonneg hx0.1, w64 (by omega)]
      have hxr := xor_nonneg (x := X) (y := X / 64) (by omega) (by omega)
      refine ⟨bits .xor .i64 X (X / 64) % n, fun k hk => ?_, Int.emod_nonneg _ (by omega), Int.emod_lt_of_pos _ (by omega)⟩
      obtain ⟨k, rfl⟩ : ∃ m, k = m + 1 := ⟨k - 1, by omega⟩
      simp only [spec_l6Rd_pick.j0, Bool.false_eq_true, if_false]
      rw [w1, if_neg hp, if_neg (by omega), q1, q2, q3, d1, if_pos b1, if_pos b2, if_pos b3, if_pos b4, if_neg (by omega), hxx, hd, tmod_pos hxr]

theorem Rd.next {l : List Int} {p : Int} (h : Rd l p) (hp : p < 1000000) : Rd l (p + 1) := ⟨h.bytes, h.len, by have := h.lo; omega, by omega⟩

theorem num_ev {l : List Int} {p : Int} (h : Rd l p) (hp : p ≤ 900000) :
    ∃ v q, (∀ k, 1 ≤ k → spec_l91Num.f k l p = some (v, q)) ∧ -1 ≤ v ∧ v ≤ 31 ∧ p < q ∧ q ≤ p + 3 := by
  obtain ⟨v1, e1, a1, b1⟩ := pick_ev h (n := 10) (by omega)
  have h1 := h.next (by omega)
  obtain ⟨v2, e2, a2, b2⟩ := pick_ev h1 (n := 2) (by omega)
  obtain ⟨v3, e3, a3, b3⟩ := pick_ev h1 (n := 5) (by omega)
  obtain ⟨v4, e4, a4, b4⟩ := pick_ev h1 (n := 31) (by omega)
  have h2 := h1.next (by omega)
  obtain ⟨v5, e5, a5, b5⟩ := pick_ev h2 (n := 2) (by omega)
  obtain ⟨v6, e6, a6, b6⟩ := pick_ev h2 (n := 31) (by omega)
  by_cases c0 : v1 = 0
  · exact ⟨0, p + 1, fun k hk => by unfold spec_l91Num.f; rw [e1 k hk]; simp [c0], by omega, by omega, by omega, by omega⟩
  by_cases c1 : v1 = 1
  · refine ⟨rd [1, 30] v2, p + 1 + 1, fun k hk => by unfold spec_l91Num.f; rw [e1 k hk]; simp only [Option.bind_some]; rw [if_neg c0, if_pos c1, e2 k hk]; simp [a2, show v2 < 2 from b2], ?_, ?_, by omega, by omega⟩
    all_goals (obtain rfl | rfl : v2 = 0 ∨ v2 = 1 := by omega) <;> simp [Go.Proofs.YtdamainjflpgpaaW.PrintWords.rd]
  by_cases c2 : v1 = 2
  · by_cases c3 : v3 = 0
    · refine ⟨rd [-1, 31] v5, p + 1 + 1 + 1, fun k hk => by unfold spec_l91Num.f; rw [e1 k hk]; simp only [Option.bind_some]; rw [if_neg c0, if_neg c1, if_pos c2, e3 k hk]; simp only [Option.bind_some]; rw [if_pos c3, e5 k hk]; simp [a5, show v5 < 2 from b5], ?_, ?_, by omega, by omega⟩
      all_goals (obtain rfl | rfl : v5 = 0 ∨ v5 = 1 := by omega) <;> simp [Go.Proofs.YtdamainjflpgpaaW.PrintWords.rd]
    · exact ⟨v6, p + 1 + 1 + 1, fun k hk => by unfold spec_l91Num.f; rw [e1 k hk]; simp only [Option.bind_some]; rw [if_neg c0, if_neg c1, if_pos c2, e3 k hk]; simp only [Option.bind_some]; rw [if_neg c3, e6 k hk]; rfl, by omega, by omega, by omega, by omega⟩
  · exact ⟨v4, p + 1 + 1, fun k hk => by unfold spec_l91Num.f; rw [e1 k hk]; simp only [Option.bind_some]; rw [if_neg c0, if_neg c1, if_neg c2, e4 k hk]; rfl, by omega, by omega, by omega, by omega⟩

end Go.Proofs.Ytdamainjflpgpaa.P

/- The numbers modulo 31: no two that are not 0 give 0, one times the other; each but 0 has an inverse; and the two ways in which inverses are found. Plain facts; no condition. -/
namespace Go.Proofs.Ytdamainjflpgpaa.P
open Go.RowKit Go.Proofs.Ytdamainjflpgpaa.Num Go.Proofs.YtdamainjflpgpaaW.PrintWords

theorem zd_fin : ∀ i : Fin 31, ∀ j : Fin 31, (i.val * j.val) % 31 = 0 → i.val = 0 ∨ j.val = 0 := by decide +kernel

theorem zd {a b : Int} (h : (a * b) % 31 = 0) : a % 31 = 0 ∨ b % 31 = 0 := by
  have ha := Int.emod_nonneg a (b := 31) (by omega)
  have hb := Int.emod_nonneg b (b := 31) (by omega)
  have ha' := Int.emod_lt_of_pos a (b := 31) (by omega)
  have hb' := Int.emod_lt_of_pos b (b := 31) (by omega)
  rw [Int.mul_emod] at h
  obtain ⟨i, hi⟩ := Int.eq_ofNat_of_zero_le ha
  obtain ⟨j, hj⟩ := Int.eq_ofNat_of_zero_le hb
  rw [hi, hj] at h ⊢
  have := zd_fin ⟨i, by omega⟩ ⟨j, by omega⟩ (by simp only; exact_mod_cast h)
  simp only at this
  omega

theorem zd_ok {a b : Int} (ha : okF a = true) (hb : okF b = true) : (a * b) % 31 = 0 ↔ a = 0 ∨ b = 0 := by
  rw [okF_iff] at ha hb
  constructor
  · intro h
    rcases zd h with h | h
    · exact .inl (by omega)
    · exact .inr (by omega)
  · rintro (rfl | rfl)
    · rw [Int.zero_mul]; rfl
    · rw [Int.mul_zero]; rfl

/-- Of two that are the same, times one that is not 0, both are. -/
theorem cancel {a b c : Int} (ha : okF a = true) (hb : okF b = true) (hc : okF c = true) (h0 : b ≠ 0) : (c * b) % 31 = (a * b) % 31 ↔ c = a := by
  constructor
  · intro h
    have h1 : ((c - a) * b) % 31 = 0 := by
      rw [Int.sub_mul]
      exact Int.emod_eq_emod_iff_emod_sub_eq_zero.1 h
    rw [okF_iff] at ha hb hc
    rcases zd h1 with h2 | h2 <;> omega
  · rintro rfl; rfl

theorem squares {a b : Int} (ha : okF a = true) (hb : okF b = true) : (a * a) % 31 = (b * b) % 31 ↔ a = b ∨ (a + b) % 31 = 0 := by
  have e : (a - b) * (a + b) = a * a - b * b := by rw [Int.sub_mul, Int.mul_add, Int.mul_add, Int.mul_comm b a]; omega
  constructor
  · intro h
    have h1 : ((a - b) * (a + b)) % 31 = 0 := by
      rw [e]
      exact Int.emod_eq_emod_iff_emod_sub_eq_zero.1 h
    rw [okF_iff] at ha hb
    rcases zd h1 with h2 | h2
    · exact .inl (by omega)
    · exact .inr h2
  · rintro (rfl | h)
    · rfl
    · rw [Int.emod_eq_emod_iff_emod_sub_eq_zero, ← e, Int.mul_emod, h, Int.mul_zero]; rfl

/-- The inverse of a number of the field; of 0 it is 0. -/
def inv31 (a : Int) : Int := (([0, 1, 16, 21, 8, 25, 26, 9, 4, 7, 28, 17, 13, 12, 20, 29, 2, 11, 19, 18, 14, 3, 24, 27, 22, 5, 6, 23, 10, 15, 30] : List Int)).getD a.toNat 0

theorem inv_fin : ∀ i : Fin 31, okF (inv31 (i.val : Int)) = true ∧ (i.val = 0 ∨ ((i.val : Int) * inv31 (i.val : Int)) % 31 = 1) ∧ inv31 (inv31 (i.val : Int)) = (i.val : Int) := by decide +kernel

theorem inv_ok {a : Int} (ha : okF a = true) : okF (inv31 a) = true := by
  rw [okF_iff] at ha
  obtain ⟨i, rfl⟩ := Int.eq_ofNat_of_zero_le ha.1
  exact (inv_fin ⟨i, by omega⟩).1
theorem inv_one {a : Int} (ha : okF a = true) (h0 : a ≠ 0) : (a * inv31 a) % 31 = 1 := by
  rw [okF_iff] at ha
  obtain ⟨i, rfl⟩ := Int.eq_ofNat_of_zero_le ha.1
  rcases (inv_fin ⟨i, by omega⟩).2.1 with h | h
  · simp only at h; omega
  · exact h
theorem inv_inv {a : Int} (ha : okF a = true) : inv31 (inv31 a) = a := by
  rw [okF_iff] at ha
  obtain ⟨i, rfl⟩ := Int.eq_ofNat_of_zero_le ha.1
  exact (inv_fin ⟨i, by omega⟩).2.2
theorem inv_ne {a : Int} (ha : okF a = true) (h0 : a ≠ 0) : inv31 a ≠ 0 := by
  intro h
  have := inv_one ha h0
  rw [h, Int.mul_zero] at this
  cases this
/-- The one number with which it is 1. -/
theorem inv_only {a b : Int} (ha : okF a = true) (hb : okF b = true) (h : (a * b) % 31 = 1) : b = inv31 a := by
  have h0 : a ≠ 0 := by rintro rfl; rw [Int.zero_mul] at h; cases h
  refine (cancel (inv_ok ha) ha hb h0).1 ?_
  rw [Int.mul_comm b a, h, Int.mul_comm, inv_one ha h0]
theorem inv_mul {a b : Int} (ha : okF a = true) (hb : okF b = true) (h0 : a ≠ 0) (h1 : b ≠ 0) : inv31 ((a * b) % 31) = (inv31 a * inv31 b) % 31 := by
  refine (inv_only (okF_mod _) (okF_mod _) ?_).symm
  have e : (a * b) * (inv31 a * inv31 b) = (a * inv31 a) * (b * inv31 b) := by
    rw [Int.mul_assoc, Int.mul_assoc]; congr 1
    rw [← Int.mul_assoc, ← Int.mul_assoc]; congr 1; exact Int.mul_comm _ _
  rw [← Int.mul_emod, e, Int.mul_emod, inv_one ha h0, inv_one hb h1]; rfl

theorem l1Inv_fin : ∀ i : Fin 31, spec_l1Inv.f 40 (i.val : Int) = some (inv31 (i.val : Int)) := by decide +kernel
theorem l1Inv_eq {a : Int} (ha : okF a = true) (k : Nat) (hk : 40 ≤ k) : spec_l1Inv.f k a = some (inv31 a) := by
  rw [okF_iff] at ha
  obtain ⟨i, rfl⟩ := Int.eq_ofNat_of_zero_le ha.1
  exact at_rounds (spec_l1Inv.mono _) hk (l1Inv_fin ⟨i, by omega⟩)

end Go.Proofs.Ytdamainjflpgpaa.P

/- What the laws' own functions on lists answer: whether two lists are the same; a copy; marks laid and found again. Conditions: lists of fewer than 2^40 numbers. -/
namespace Go.Proofs.Ytdamainjflpgpaa.P
open Go.RowKit Go.Proofs.Ytdamainjflpgpaa.Num Go.Proofs.YtdamainjflpgpaaW.PrintWords

/-- What an Ev gives at one number of rounds, and from there on. -/
theorem Ev.at_ {α : Type} {g : Nat → Option α} {r : α} (h : Ev g r) : ∃ K, ∀ k, K ≤ k → g k = some r := h

theorem rd_nat (l : List Int) (i : Nat) : rd l (i : Int) = l.getD i 0 := rfl
theorem rd_lt {l : List Int} {i : Nat} (h : i < l.length) : rd l (i : Int) = l[i] := by simp [rd_nat, List.getD_eq_getElem?_getD, List.getElem?_eq_getElem h]

/-- Two lists of one length are the same from i on. -/
theorem drop_eq {a b : List Int} {i : Nat} (ha : i < a.length) (hb : i < b.length) : a.drop i = b.drop i ↔ a[i] = b[i] ∧ a.drop (i + 1) = b.drop (i + 1) := by
  rw [List.drop_eq_getElem_cons ha, List.drop_eq_getElem_cons hb, List.cons.injEq]

theorem eqIntS_loop (a b : List Int) (hl : a.length = b.length) (hm : a.length < 1099511627776) (d : Nat) : ∀ i : Nat, i + d = a.length → Ev (fun k => laws_eqIntS.l0 k a b (i : Int)) (decide (a.drop i = b.drop i)) := by
  induction d with
  | zero =>
    intro i hi
    refine ⟨1, fun k hk => ?_⟩
    obtain ⟨k, rfl⟩ : ∃ m, k = m + 1 := ⟨k - 1, by omega⟩
    simp only [laws_eqIntS.l0]
    rw [if_neg (by omega), List.drop_of_length_le (by omega), List.drop_of_length_le (by omega)]
    simp
  | succ d ih =>
    intro i hi
    have hia : i < a.length := by omega
    have hib : i < b.length := by omega
    obtain ⟨K, h⟩ := ih (i + 1) (by omega)
    refine ⟨K + 1, fun k hk => ?_⟩
    obtain ⟨k, rfl⟩ : ∃ m, k = m + 1 := ⟨k - 1, by omega⟩
    simp only [laws_eqIntS.l0]
    rw [if_pos (by omega), if_pos (by omega), if_pos (by omega), rd_lt hia, rd_lt hib, w64 (by omega)]
    by_cases e : a[i] = b[i]
    · rw [if_pos e]
      refine (h k (by omega)).trans ?_
      simp [drop_eq hia hib, e]
    · rw [if_neg e]
      simp [drop_eq hia hib, e]
theorem eqIntS_ev (a b : List Int) (hm : a.length < 1099511627776) : Ev (fun k => laws_eqIntS.f k a b) (decide (a = b)) := by
  unfold laws_eqIntS.f
  by_cases hl : a.length = b.length
  · obtain ⟨K, h⟩ := eqIntS_loop a b hl hm a.length 0 (by omega)
    exact ⟨K, fun k hk => by dsimp only; rw [if_pos (by omega)]; exact h k hk⟩
  · exact ⟨0, fun k _ => by dsimp only; rw [if_neg (by omega)]; simp; intro e; exact hl (by rw [e])⟩
theorem loInts_loop (a b : List Int) (hl : a.length = b.length) (hm : a.length < 1099511627776) (d : Nat) : ∀ i : Nat, i + d = a.length → Ev (fun k => laws_loInts.l0 k a b (i : Int)) (decide (a.drop i = b.drop i)) := by
  induction d with
  | zero =>
    intro i hi
    refine ⟨1, fun k hk => ?_⟩
    obtain ⟨k, rfl⟩ : ∃ m, k = m + 1 := ⟨k - 1, by omega⟩
    simp only [laws_loInts.l0]
    rw [if_neg (by omega), List.drop_of_length_le (by omega), List.drop_of_length_le (by omega)]
    simp
  | succ d ih =>
    intro i hi
    have hia : i < a.length := by omega
    have hib : i < b.length := by omega
    obtain ⟨K, h⟩ := ih (i + 1) (by omega)
    refine ⟨K + 1, fun k hk => ?_⟩
    obtain ⟨k, rfl⟩ : ∃ m, k = m + 1 := ⟨k - 1, by omega⟩
    simp only [laws_loInts.l0]
    rw [if_pos (by omega), if_pos (by omega), if_pos (by omega), rd_lt hia, rd_lt hib, w64 (by omega)]
    by_cases e : a[i] = b[i]
    · rw [if_pos e]
      refine (h k (by omega)).trans ?_
      simp [drop_eq hia hib, e]
    · rw [if_neg e]
      simp [drop_eq hia hib, e]
theorem loInts_ev (a b : List Int) (hm : a.length < 1099511627776) : Ev (fun k => laws_loInts.f k a b) (decide (a = b)) := by
  unfold laws_loInts.f
  by_cases hl : a.length = b.length
  · obtain ⟨K, h⟩ := loInts_loop a b hl hm a.length 0 (by omega)
    exact ⟨K, fun k hk => by dsimp only; rw [if_pos (by omega)]; exact h k hk⟩
  · exact ⟨0, fun k _ => by dsimp only; rw [if_neg (by omega)]; simp; intro e; exact hl (by rw [e])⟩

/-- The marks from c on, n of them. -/
def marks (c : Int) (n : Nat) : List Int := (List.range n).map fun i : Nat => c + (i : Int)
theorem marks_length (c : Int) (n : Nat) : (marks c n).length = n := by simp [marks]
theorem marks_at {c : Int} {n i : Nat} (h : i < n) : (marks c n)[i]'(by simpa [marks] using h) = c + (i : Int) := by simp [marks]

theorem markIntS_loop (l : List Int) (c : Int) (hc : 0 ≤ c ∧ c ≤ 1099511627776) (hm : l.length < 1099511627776) (d : Nat) : ∀ i : Nat, i + d = l.length → Ev (fun k => laws_markIntS.l0 k ((marks c i) ++ l.drop i) (c + (i : Int)) (i : Int)) (c + (l.length : Int), marks c l.length) := by
  induction d with
  | zero =>
    intro i hi
    obtain rfl : i = l.length := by omega
    refine ⟨1, fun k hk => ?_⟩
    obtain ⟨k, rfl⟩ : ∃ m, k = m + 1 := ⟨k - 1, by omega⟩
    simp only [laws_markIntS.l0]
    rw [if_neg (by simp [marks_length]), List.drop_length]
    simp
  | succ d ih =>
    intro i hi
    obtain ⟨K, h⟩ := ih (i + 1) (by omega)
    refine ⟨K + 1, fun k hk => ?_⟩
    obtain ⟨k, rfl⟩ : ∃ m, k = m + 1 := ⟨k - 1, by omega⟩
    have hia : i < l.length := by omega
    simp only [laws_markIntS.l0]
    rw [if_pos (by simp [marks_length]; omega), if_pos (by omega), w64 (n := c + (i : Int) + 1) (by omega), w64 (by omega)]
    have e : ((marks c i) ++ l.drop i).set (i : Int).toNat (c + (i : Int)) = marks c (i + 1) ++ l.drop (i + 1) := by
      rw [Int.toNat_natCast, ← List.getElem_cons_drop (h := hia), List.set_append_right _ _ (by rw [marks_length]; omega), marks_length, Nat.sub_self, List.set_cons_zero]
      simp [marks, List.range_succ]
    rw [e, Int.add_assoc]
    exact h k (by omega)
theorem markIntS_ev (l : List Int) (c : Int) (hc : 0 ≤ c ∧ c ≤ 1099511627776) (hm : l.length < 1099511627776) : Ev (fun k => laws_markIntS.f k l c) (c + (l.length : Int), marks c l.length) := by
  have h := markIntS_loop l c hc hm l.length 0 (by omega)
  simpa [marks, laws_markIntS.f] using h
theorem heldIntS_loop (n : Nat) (c : Int) (hc : 0 ≤ c ∧ c ≤ 1099511627776) (hm : n < 1099511627776) (d : Nat) : ∀ i : Nat, i + d = n → Ev (fun k => laws_heldIntS.l0 k (marks c n) (c + (i : Int)) (i : Int)) (c + (n : Int)) := by
  induction d with
  | zero =>
    intro i hi
    obtain rfl : i = n := by omega
    refine ⟨1, fun k hk => ?_⟩
    obtain ⟨k, rfl⟩ : ∃ m, k = m + 1 := ⟨k - 1, by omega⟩
    simp only [laws_heldIntS.l0]
    rw [if_neg (by simp [marks_length])]
  | succ d ih =>
    intro i hi
    obtain ⟨K, h⟩ := ih (i + 1) (by omega)
    refine ⟨K + 1, fun k hk => ?_⟩
    obtain ⟨k, rfl⟩ : ∃ m, k = m + 1 := ⟨k - 1, by omega⟩
    have hia : i < (marks c n).length := by rw [marks_length]; omega
    simp only [laws_heldIntS.l0]
    rw [if_pos (by omega), if_pos (by omega), rd_lt hia, marks_at (by omega), if_pos rfl, w64 (n := c + (i : Int) + 1) (by omega), w64 (by omega), Int.add_assoc]
    exact h k (by omega)
theorem heldIntS_ev (n : Nat) (c : Int) (hc : 0 ≤ c ∧ c ≤ 1099511627776) (hm : n < 1099511627776) : Ev (fun k => laws_heldIntS.f k (marks c n) c) (c + (n : Int)) := by
  have h := heldIntS_loop n c hc hm n 0 (by omega)
  simpa [laws_heldIntS.f] using h
theorem toIntS_loop (l : List Int) (hm : l.length < 1099511627776) (d : Nat) : ∀ i : Nat, i + d = l.length → Ev (fun k => laws_toIntS.l0 k l (l.take i ++ List.replicate d 0) (i : Int)) l := by
  induction d with
  | zero =>
    intro i hi
    obtain rfl : i = l.length := by omega
    refine ⟨1, fun k hk => ?_⟩
    obtain ⟨k, rfl⟩ : ∃ m, k = m + 1 := ⟨k - 1, by omega⟩
    simp only [laws_toIntS.l0]
    rw [if_neg (by omega), List.take_length]
    simp
  | succ d ih =>
    intro i hi
    obtain ⟨K, h⟩ := ih (i + 1) (by omega)
    refine ⟨K + 1, fun k hk => ?_⟩
    obtain ⟨k, rfl⟩ : ∃ m, k = m + 1 := ⟨k - 1, by omega⟩
    have hia : i < l.length := by omega
    have hl : (l.take i ++ List.replicate (d + 1) 0).length = l.length := by simp; omega
    simp only [laws_toIntS.l0]
    rw [if_pos (by omega), if_pos (by omega), hl, if_pos (by omega), w64 (by omega), rd_lt hia]
    have e : (l.take i ++ List.replicate (d + 1) 0).set (i : Int).toNat l[i] = l.take (i + 1) ++ List.replicate d 0 := by
      rw [Int.toNat_natCast, List.set_append_right _ _ (by simp; omega), List.length_take, Nat.min_eq_left (by omega), Nat.sub_self, List.replicate_succ, List.set_cons_zero, List.take_succ_eq_append_getElem hia, List.append_assoc]
      rfl
    rw [e]
    exact h k (by omega)
theorem toIntS_ev (l : List Int) (hm : l.length < 1099511627776) : Ev (fun k => laws_toIntS.f k l) l := by
  obtain ⟨K, h⟩ := toIntS_loop l hm l.length 0 (by omega)
  refine ⟨K, fun k hk => ?_⟩
  unfold laws_toIntS.f
  dsimp only
  rw [if_pos (by omega), if_pos (by omega), Int.toNat_natCast]
  have := h k hk
  simpa using this

end Go.Proofs.Ytdamainjflpgpaa.P

/- The list that loSome makes: as long as asked, each of its numbers in the field. Condition: fewer than 1001 numbers. -/
namespace Go.Proofs.Ytdamainjflpgpaa.P
open Go.RowKit Go.Proofs.Ytdamainjflpgpaa.Num Go.Proofs.YtdamainjflpgpaaW.PrintWords

theorem loSome_loop (s : Int) (hs : 0 ≤ s ∧ s ≤ 1099511627776) (n : Nat) (hn : n ≤ 1000) (d : Nat) : ∀ (l : List Int) (i : Nat), i + d = n → l.length = i → (∀ x ∈ l, 0 ≤ x ∧ x ≤ 30) → ∃ r, Ev (fun k => laws_loSome.l0 k s (n : Int) l (i : Int)) r ∧ r.length = n ∧ ∀ x ∈ r, 0 ≤ x ∧ x ≤ 30 := by
  induction d with
  | zero =>
    intro l i hi hl h
    refine ⟨l, ⟨1, fun k hk => ?_⟩, by omega, h⟩
    obtain ⟨k, rfl⟩ : ∃ m, k = m + 1 := ⟨k - 1, by omega⟩
    simp only [laws_loSome.l0]
    rw [if_neg (by omega)]
  | succ d ih =>
    intro l i hi hl h
    have m1 : 0 ≤ s * ((i : Int) + 3) ∧ s * ((i : Int) + 3) ≤ 1099511627776 * 1003 := ⟨Int.mul_nonneg hs.1 (by omega), Int.le_trans (Int.mul_le_mul_of_nonneg_right hs.2 (by omega)) (Int.mul_le_mul_of_nonneg_left (by omega) (by omega))⟩
    have m2 : 0 ≤ (i : Int) * (i : Int) ∧ (i : Int) * (i : Int) ≤ 1000 * 1000 := ⟨Int.mul_nonneg (by omega) (by omega), Int.le_trans (Int.mul_le_mul_of_nonneg_right (show (i : Int) ≤ 1000 by omega) (show (0 : Int) ≤ (i : Int) by omega)) (Int.mul_le_mul_of_nonneg_left (show (i : Int) ≤ 1000 by omega) (show (0 : Int) ≤ 1000 by omega))⟩
    obtain ⟨r, ⟨K, hr⟩, lr, hx⟩ := ih (l ++ [(s * ((i : Int) + 3) + (i : Int) * (i : Int)) % 31]) (i + 1) (by omega) (by simp; omega) (by
      intro x hx
      rcases List.mem_append.1 hx with hx | hx
      · exact h x hx
      · rw [List.mem_singleton.1 hx]; omega)
    refine ⟨r, ⟨K + 1, fun k hk => ?_⟩, lr, hx⟩
    obtain ⟨k, rfl⟩ : ∃ m, k = m + 1 := ⟨k - 1, by omega⟩
    simp only [laws_loSome.l0]
    rw [if_pos (by omega), w64 (n := (i : Int) + 3) (by omega), w64 (n := s * ((i : Int) + 3)) (by omega), w64 (n := (i : Int) * (i : Int)) (by omega), w64 (n := _ + _) (by omega), loNum_eq (by omega), w64 (by omega)]
    simp only [Option.bind_some]
    rw [if_pos (by omega)]
    exact hr k (by omega)
theorem loSome_ev (s : Int) (hs : 0 ≤ s ∧ s ≤ 1099511627776) (n : Nat) (hn : n ≤ 1000) : ∃ r, Ev (fun k => laws_loSome.f k s (n : Int)) r ∧ r.length = n ∧ ∀ x ∈ r, 0 ≤ x ∧ x ≤ 30 := loSome_loop s hs n hn n [] 0 (by omega) rfl (by simp)

end Go.Proofs.Ytdamainjflpgpaa.P

/- Polynomials as lists of whole numbers, and modulo 31: values, products, roots. Plain facts on lists; no condition but those that each bears. -/
namespace Go.Proofs.Ytdamainjflpgpaa.P
open Go.RowKit Go.Proofs.Ytdamainjflpgpaa.Num

/-- All numbers of the field. -/
def allOk (l : List Int) : Bool := l.all okF
theorem allOk_iff {l : List Int} : allOk l = true ↔ ∀ x ∈ l, okF x = true := by simp [allOk, List.all_eq_true]
theorem allOk_cons {x : Int} {l : List Int} : allOk (x :: l) = (okF x && allOk l) := rfl

/-- The value of a polynomial, over the whole numbers. -/
def ev : List Int → Int → Int
  | [], _ => 0
  | c :: l, x => c + x * ev l x

theorem ev_cons (c : Int) (l : List Int) (x : Int) : ev (c :: l) x = c + x * ev l x := rfl

def cof (l : List Int) (j : Nat) : Int := l.getD j 0
theorem cof_nil (j : Nat) : cof [] j = 0 := rfl
theorem cof_zero (c : Int) (l : List Int) : cof (c :: l) 0 = c := rfl
theorem cof_succ (c : Int) (l : List Int) (j : Nat) : cof (c :: l) (j + 1) = cof l j := by simp [cof]
theorem cof_out {l : List Int} {j : Nat} (h : l.length ≤ j) : cof l j = 0 := by simp [cof, List.getD_eq_getElem?_getD, List.getElem?_eq_none h]
theorem cof_in {l : List Int} {j : Nat} (h : j < l.length) : cof l j = l[j] := by simp [cof, List.getD_eq_getElem?_getD, List.getElem?_eq_getElem h]
theorem cof_rng {l : List Int} (h : allOk l = true) (j : Nat) : 0 ≤ cof l j ∧ cof l j ≤ 30 := by
  rcases Nat.lt_or_ge j l.length with hj | hj
  · rw [cof_in hj]; exact okF_iff.1 (allOk_iff.1 h _ (List.getElem_mem hj))
  · rw [cof_out hj]; omega
theorem list_of_cof {a b : List Int} (hl : a.length = b.length) (h : ∀ j, j < a.length → cof a j = cof b j) : a = b := by
  apply List.ext_getElem hl
  intro i h1 h2
  have := h i h1
  rwa [cof_in h1, cof_in h2] at this

theorem ev_zero {l : List Int} (h : ∀ j, cof l j = 0) (x : Int) : ev l x = 0 := by
  induction l with
  | nil => rfl
  | cons c l ih =>
    have h0 := h 0
    rw [cof_zero] at h0
    rw [ev, h0, ih (fun j => by have := h (j + 1); rwa [cof_succ] at this)]
    omega

/-- The value modulo 31 depends on the coefficients modulo 31 alone. -/
theorem ev_mod {a b : List Int} (hl : a.length = b.length) (h : ∀ j, cof a j % 31 = cof b j % 31) (x : Int) : ev a x % 31 = ev b x % 31 := by
  induction a generalizing b with
  | nil => cases b with
    | nil => rfl
    | cons _ _ => cases hl
  | cons c a ih =>
    cases b with
    | nil => cases hl
    | cons d b =>
      have h0 := h 0
      rw [cof_zero, cof_zero] at h0
      have hi := ih (b := b) (by simpa using hl) (fun j => by have := h (j + 1); rwa [cof_succ, cof_succ] at this)
      rw [ev, ev, Int.add_emod, Int.mul_emod, h0, hi, ← Int.mul_emod, ← Int.add_emod]

/-! ### products -/
/-- Coefficient j of the product. -/
def S : List Int → List Int → Nat → Int
  | [], _, _ => 0
  | x :: a, b, j => x * cof b j + match j with | 0 => 0 | j + 1 => S a b j
theorem S_zero (x : Int) (a b : List Int) : S (x :: a) b 0 = x * cof b 0 := by simp [S]
theorem S_succ (x : Int) (a b : List Int) (j : Nat) : S (x :: a) b (j + 1) = x * cof b (j + 1) + S a b j := rfl
theorem S_snoc (a : List Int) (x : Int) (b : List Int) : ∀ j, S (a ++ [x]) b j = S a b j + if a.length ≤ j then x * cof b (j - a.length) else 0 := by
  induction a with
  | nil =>
    intro j
    cases j with
    | zero => simp [S]
    | succ j => simp [S]
  | cons y a ih =>
    intro j
    cases j with
    | zero => rw [List.cons_append, S_zero, S_zero]; simp
    | succ j =>
      rw [List.cons_append, S_succ, S_succ, ih j]
      simp only [List.length_cons, Nat.add_le_add_iff_right, Nat.add_sub_add_right]
      omega
theorem S_out (a b : List Int) : ∀ j, a.length + b.length ≤ j + 1 → S a b j = 0 := by
  induction a with
  | nil => intro j _; rfl
  | cons x a ih =>
    intro j h
    simp only [List.length_cons] at h
    cases j with
    | zero =>
      rw [S_zero, cof_out (by omega), Int.mul_zero]
    | succ j => rw [S_succ, ih j (by omega), cof_out (by omega), Int.mul_zero]; rfl

/-- The list of F 0, .., F (n - 1). -/
def tab (n : Nat) (F : Nat → Int) : List Int := (List.range n).map F
theorem tab_length (n : Nat) (F : Nat → Int) : (tab n F).length = n := by simp [tab]
theorem tab_at {n : Nat} {F : Nat → Int} {j : Nat} (h : j < n) : (tab n F)[j]'(by rw [tab_length]; exact h) = F j := by simp [tab]
theorem tab_cof {n : Nat} {F : Nat → Int} {j : Nat} (h : j < n) : cof (tab n F) j = F j := by rw [cof_in (by rw [tab_length]; exact h), tab_at h]
theorem tab_set (n : Nat) (F : Nat → Int) (p : Nat) (v : Int) : (tab n F).set p v = tab n (fun j => if j = p then v else F j) := by
  apply List.ext_getElem
  · simp [tab]
  · intro i h1 h2
    simp only [tab, List.length_set, List.length_map, List.length_range] at h1
    rw [List.getElem_set, tab_at h1, tab_at h1]
    by_cases e : p = i
    · subst e; simp
    · rw [if_neg e, if_neg (fun h => e h.symm)]
theorem tab_congr {n : Nat} {F G : Nat → Int} (h : ∀ j, j < n → F j = G j) : tab n F = tab n G := List.map_congr_left fun j hj => h j (List.mem_range.1 hj)
theorem tab_zero (n : Nat) : tab n (fun _ => 0) = List.replicate n 0 := List.ext_getElem (by simp [tab]) (fun i h1 h2 => by simp [tab])
theorem tab_of (l : List Int) : tab l.length (cof l) = l := list_of_cof (tab_length _ _) (fun j hj => by rw [tab_length] at hj; exact tab_cof hj)
theorem tab_ok (n : Nat) (F : Nat → Int) : allOk (tab n (fun j => F j % 31)) = true := by
  rw [allOk_iff]; intro x hx
  simp only [tab, List.mem_map] at hx
  obtain ⟨j, _, rfl⟩ := hx
  exact okF_mod _

theorem ev_tab_add (n : Nat) : ∀ (F G : Nat → Int) (x : Int), ev (tab n (fun j => F j + G j)) x = ev (tab n F) x + ev (tab n G) x := by
  induction n with
  | zero => intro F G x; rfl
  | succ n ih =>
    intro F G x
    have e : ∀ H : Nat → Int, tab (n + 1) H = H 0 :: tab n (fun j => H (j + 1)) := fun H => by simp [tab, List.range_succ_eq_map]
    rw [e, e, e, ev, ev, ev, ih, Int.mul_add]
    omega
theorem ev_tab_mul (n : Nat) : ∀ (c : Int) (F : Nat → Int) (x : Int), ev (tab n (fun j => c * F j)) x = c * ev (tab n F) x := by
  induction n with
  | zero => intro c F x; exact (Int.mul_zero c).symm
  | succ n ih =>
    intro c F x
    have e : ∀ H : Nat → Int, tab (n + 1) H = H 0 :: tab n (fun j => H (j + 1)) := fun H => by simp [tab, List.range_succ_eq_map]
    rw [e, e, ev, ev, ih, Int.mul_add, Int.mul_left_comm]
theorem tab_cons (n : Nat) (H : Nat → Int) : tab (n + 1) H = H 0 :: tab n (fun j => H (j + 1)) := by simp [tab, List.range_succ_eq_map]
/-- More coefficients that are 0 change no value. -/
theorem ev_tab_long (l : List Int) : ∀ (n : Nat) (x : Int), l.length ≤ n → ev (tab n (cof l)) x = ev l x := by
  induction l with
  | nil => intro n x _; exact ev_zero (fun j => by rcases Nat.lt_or_ge j n with h | h; exact tab_cof h; exact cof_out (by rw [tab_length]; exact h)) x
  | cons c l ih =>
    intro n x h
    obtain ⟨n, rfl⟩ : ∃ m, n = m + 1 := ⟨n - 1, by simp at h; omega⟩
    rw [tab_cons, ev, ev, cof_zero]
    have := ih n x (by simpa using h)
    rw [show (fun j => cof (c :: l) (j + 1)) = cof l from funext fun j => cof_succ c l j, this]

/-- The product's value is the product of the values. -/
theorem ev_S (a b : List Int) : ∀ (n : Nat) (x : Int), a.length + b.length ≤ n + 1 → ev (tab n (S a b)) x = ev a x * ev b x := by
  induction a with
  | nil =>
    intro n x _
    rw [ev, Int.zero_mul]
    exact ev_zero (fun j => by rcases Nat.lt_or_ge j n with h | h; exact tab_cof h; exact cof_out (by rw [tab_length]; exact h)) x
  | cons y a ih =>
    intro n x h
    simp only [List.length_cons] at h
    have e1 : ev (tab n (S (y :: a) b)) x = ev (tab n (fun j => y * cof b j)) x + ev (tab n (fun j => match j with | 0 => 0 | j + 1 => S a b j)) x := by
      rw [← ev_tab_add]; congr 1
    rw [e1, ev_tab_mul, ev_tab_long b n x (by omega), ev, Int.add_mul]
    congr 1
    cases n with
    | zero =>
      have : b.length = 0 := by omega
      have hb : b = [] := List.eq_nil_of_length_eq_zero this
      subst hb
      simp [tab, ev]
    | succ n =>
      rw [tab_cons, ev, ih n x (by omega)]
      simp only
      rw [Int.zero_add, Int.mul_assoc]

/-- A list of numbers from 0 to B - 1 is told by its value at B. -/
theorem ev_digits (B : Int) (hB : 0 < B) : ∀ {a b : List Int}, a.length = b.length → (∀ j, 0 ≤ cof a j ∧ cof a j < B) → (∀ j, 0 ≤ cof b j ∧ cof b j < B) → ev a B = ev b B → a = b := by
  intro a
  induction a with
  | nil => intro b hl _ _ _; exact (List.eq_nil_of_length_eq_zero hl.symm).symm
  | cons c a ih =>
    intro b hl ha hb he
    cases b with
    | nil => cases hl
    | cons d b =>
      have a0 := ha 0
      have b0 := hb 0
      rw [cof_zero] at a0 b0
      rw [ev, ev] at he
      have m1 : (c + B * ev a B) % B = c := by rw [Int.add_mul_emod_self_left, Int.emod_eq_of_lt a0.1 a0.2]
      have m2 : (d + B * ev b B) % B = d := by rw [Int.add_mul_emod_self_left, Int.emod_eq_of_lt b0.1 b0.2]
      have hcd : c = d := by rw [← m1, ← m2, he]
      subst hcd
      have : B * ev a B = B * ev b B := by omega
      have he2 := Int.eq_of_mul_eq_mul_left (by omega) this
      rw [ih (by simpa using hl) (fun j => by have := ha (j + 1); rwa [cof_succ] at this) (fun j => by have := hb (j + 1); rwa [cof_succ] at this) he2]

/-- A bound of a list's numbers. -/
theorem cof_bound (l : List Int) : ∃ B : Int, 0 < B ∧ ∀ j, cof l j < B := by
  induction l with
  | nil => exact ⟨1, by omega, fun j => by rw [cof_nil]; omega⟩
  | cons c l ih =>
    obtain ⟨B, h0, h⟩ := ih
    refine ⟨B + (if 0 ≤ c then c else 0) + 1, by split <;> omega, fun j => ?_⟩
    cases j with
    | zero => rw [cof_zero]; split <;> omega
    | succ j => rw [cof_succ]; have := h j; split <;> omega
/-- Two lists of one length, of numbers from 0 on, with the same values are the same. -/
theorem ev_same {a b : List Int} (hl : a.length = b.length) (ha : ∀ j, 0 ≤ cof a j) (hb : ∀ j, 0 ≤ cof b j) (h : ∀ x, ev a x = ev b x) : a = b := by
  obtain ⟨B1, p1, h1⟩ := cof_bound a
  obtain ⟨B2, p2, h2⟩ := cof_bound b
  exact ev_digits (B1 + B2) (by omega) hl (fun j => ⟨ha j, by have := h1 j; omega⟩) (fun j => ⟨hb j, by have := h2 j; omega⟩) (h _)

theorem S_nonneg {a b : List Int} (ha : ∀ x ∈ a, 0 ≤ x) (hb : ∀ j, 0 ≤ cof b j) : ∀ j, 0 ≤ S a b j := by
  induction a with
  | nil => intro j; exact Int.le_refl 0
  | cons x a ih =>
    intro j
    have hx := ha x (by simp)
    have := Int.mul_nonneg hx (hb j)
    cases j with
    | zero => rw [S_zero]; exact Int.mul_nonneg hx (hb 0)
    | succ j => rw [S_succ]; have h2 := ih (fun y hy => ha y (by simp [hy])) j; have h3 := Int.mul_nonneg hx (hb (j + 1)); omega

/-- The product modulo 31. -/
def prod (a b : List Int) : List Int := if a.length = 0 ∨ b.length = 0 then [] else tab (a.length + b.length - 1) (fun j => S a b j % 31)
theorem prod_def {a b : List Int} (h : ¬ (a.length = 0 ∨ b.length = 0)) : prod a b = tab (a.length + b.length - 1) (fun j => S a b j % 31) := by unfold prod; rw [if_neg h]
theorem prod_length (a b : List Int) : (prod a b).length = if a.length = 0 ∨ b.length = 0 then 0 else a.length + b.length - 1 := by unfold prod; split <;> simp [tab_length]
theorem prod_ok (a b : List Int) : allOk (prod a b) = true := by unfold prod; split; rfl; exact tab_ok _ _
theorem prod_ev (a b : List Int) (x : Int) : ev (prod a b) x % 31 = (ev a x * ev b x) % 31 := by
  unfold prod
  split
  · rename_i h
    rcases h with h | h
    · rw [List.eq_nil_of_length_eq_zero h]; simp [ev]
    · rw [List.eq_nil_of_length_eq_zero h]; simp [ev]
  · rename_i h
    rw [← ev_S a b (a.length + b.length - 1) x (by omega)]
    refine ev_mod (by simp [tab_length]) (fun j => ?_) x
    rcases Nat.lt_or_ge j (a.length + b.length - 1) with hj | hj
    · rw [tab_cof hj, tab_cof hj, Int.emod_emod_of_dvd _ (Int.dvd_refl 31)]
    · rw [cof_out (by rw [tab_length]; exact hj), cof_out (by rw [tab_length]; exact hj)]

/-- Two lists of one length whose products over the whole numbers are the same. -/
theorem S_eq {a b c d : List Int} {n : Nat} (h1 : a.length + b.length = n + 1) (h2 : c.length + d.length = n + 1) (ha : ∀ x ∈ a, 0 ≤ x) (hb : ∀ x ∈ b, 0 ≤ x) (hc : ∀ x ∈ c, 0 ≤ x) (hd : ∀ x ∈ d, 0 ≤ x) (he : ∀ x, ev a x * ev b x = ev c x * ev d x) : ∀ j, j < n → S a b j = S c d j := by
  have nn : ∀ {l : List Int}, (∀ x ∈ l, 0 ≤ x) → ∀ j, 0 ≤ cof l j := fun {l} h j => by
    rcases Nat.lt_or_ge j l.length with hj | hj
    · rw [cof_in hj]; exact h _ (List.getElem_mem hj)
    · rw [cof_out hj]; omega
  have ht : ∀ {p q : List Int}, (∀ x ∈ p, 0 ≤ x) → (∀ x ∈ q, 0 ≤ x) → ∀ j, 0 ≤ cof (tab n (S p q)) j := fun {p q} hp hq j => by
    rcases Nat.lt_or_ge j n with hj | hj
    · rw [tab_cof hj]; exact S_nonneg hp (nn hq) j
    · rw [cof_out (by rw [tab_length]; exact hj)]; omega
  have := ev_same (a := tab n (S a b)) (b := tab n (S c d)) (by simp [tab_length]) (ht ha hb) (ht hc hd) (fun x => by rw [ev_S a b n x (by omega), ev_S c d n x (by omega), he x])
  intro j hj
  have h3 := congrArg (fun l => cof l j) this
  simpa only [tab_cof hj] using h3

theorem allOk_nonneg {l : List Int} (h : allOk l = true) : ∀ x ∈ l, 0 ≤ x := fun x hx => (okF_iff.1 (allOk_iff.1 h x hx)).1

theorem prod_comm {a b : List Int} (ha : allOk a = true) (hb : allOk b = true) : prod a b = prod b a := by
  unfold prod
  by_cases h : a.length = 0 ∨ b.length = 0
  · rw [if_pos h, if_pos h.symm]
  · rw [if_neg h, if_neg (fun h' => h h'.symm), Nat.add_comm b.length a.length]
    refine tab_congr fun j hj => ?_
    rw [S_eq (n := a.length + b.length - 1) (by omega) (by omega) (allOk_nonneg ha) (allOk_nonneg hb) (allOk_nonneg hb) (allOk_nonneg ha) (fun x => Int.mul_comm _ _) j hj]

theorem S_mod_l {b : List Int} : ∀ {a a' : List Int}, a.length = a'.length → (∀ j, cof a j % 31 = cof a' j % 31) → ∀ j, S a b j % 31 = S a' b j % 31 := by
  intro a
  induction a with
  | nil => intro a' hl _ j; rw [List.eq_nil_of_length_eq_zero hl.symm]
  | cons x a ih =>
    intro a' hl h j
    cases a' with
    | nil => cases hl
    | cons y a' =>
      have h0 := h 0
      rw [cof_zero, cof_zero] at h0
      have hx : ∀ z : Int, (x * z) % 31 = (y * z) % 31 := fun z => by rw [Int.mul_emod, h0, ← Int.mul_emod]
      cases j with
      | zero => rw [S_zero, S_zero]; exact hx _
      | succ j =>
        rw [S_succ, S_succ, Int.add_emod, hx, ih (a' := a') (by simpa using hl) (fun j => by have := h (j + 1); rwa [cof_succ, cof_succ] at this) j, ← Int.add_emod]
theorem S_mod_r {b b' : List Int} (h : ∀ j, cof b j % 31 = cof b' j % 31) : ∀ (a : List Int) (j : Nat), S a b j % 31 = S a b' j % 31 := by
  intro a
  induction a with
  | nil => intro j; rfl
  | cons x a ih =>
    intro j
    have hx : ∀ i, (x * cof b i) % 31 = (x * cof b' i) % 31 := fun i => by rw [Int.mul_emod, h i, ← Int.mul_emod]
    cases j with
    | zero => rw [S_zero, S_zero]; exact hx _
    | succ j => rw [S_succ, S_succ, Int.add_emod, hx, ih j, ← Int.add_emod]

/-- The product over the whole numbers. -/
def P0 (a b : List Int) : List Int := tab (a.length + b.length - 1) (S a b)
theorem P0_nonneg {a b : List Int} (ha : ∀ x ∈ a, 0 ≤ x) (hb : ∀ x ∈ b, 0 ≤ x) : ∀ x ∈ P0 a b, 0 ≤ x := by
  intro x hx
  simp only [P0, tab, List.mem_map] at hx
  obtain ⟨j, _, rfl⟩ := hx
  refine S_nonneg ha (fun j => ?_) j
  rcases Nat.lt_or_ge j b.length with hj | hj
  · rw [cof_in hj]; exact hb _ (List.getElem_mem hj)
  · rw [cof_out hj]; omega
theorem prod_P0 {a b : List Int} (h : ¬ (a.length = 0 ∨ b.length = 0)) (j : Nat) : cof (prod a b) j % 31 = cof (P0 a b) j % 31 := by
  unfold prod P0
  rw [if_neg h]
  rcases Nat.lt_or_ge j (a.length + b.length - 1) with hj | hj
  · rw [tab_cof hj, tab_cof hj, Int.emod_emod_of_dvd _ (Int.dvd_refl 31)]
  · rw [cof_out (by rw [tab_length]; exact hj), cof_out (by rw [tab_length]; exact hj)]

theorem prod_assoc {a b c : List Int} (ha : allOk a = true) (hb : allOk b = true) (hc : allOk c = true) : prod (prod a b) c = prod a (prod b c) := by
  by_cases h0 : a.length = 0 ∨ b.length = 0 ∨ c.length = 0
  · have l1 : (prod a b).length = 0 ∨ c.length = 0 := by rw [prod_length]; split <;> omega
    have l2 : a.length = 0 ∨ (prod b c).length = 0 := by rw [prod_length]; split <;> omega
    rw [prod, if_pos l1, prod, if_pos l2]
  · have hab : ¬ (a.length = 0 ∨ b.length = 0) := by omega
    have hbc : ¬ (b.length = 0 ∨ c.length = 0) := by omega
    have lab : (prod a b).length = a.length + b.length - 1 := by rw [prod_length, if_neg hab]
    have lbc : (prod b c).length = b.length + c.length - 1 := by rw [prod_length, if_neg hbc]
    rw [prod_def (a := prod a b) (b := c) (by omega), prod_def (a := a) (b := prod b c) (by omega), lab, lbc]
    rw [show a.length + b.length - 1 + c.length - 1 = a.length + (b.length + c.length - 1) - 1 by omega]
    refine tab_congr fun j hj => ?_
    rw [S_mod_l (a' := P0 a b) (by rw [lab, P0, tab_length]) (prod_P0 hab) j, S_mod_r (b' := P0 b c) (prod_P0 hbc) a j]
    congr 1
    have na := allOk_nonneg ha
    have nb := allOk_nonneg hb
    have nc := allOk_nonneg hc
    refine S_eq (n := a.length + (b.length + c.length - 1) - 1) (by rw [P0, tab_length]; omega) (by rw [P0, tab_length]; omega) (P0_nonneg na nb) nc na (P0_nonneg nb nc) (fun x => ?_) j hj
    rw [P0, P0, ev_S a b _ x (by omega), ev_S b c _ x (by omega), Int.mul_assoc]

theorem prod_one {a : List Int} (ha : allOk a = true) : prod a [1] = a := by
  rw [prod_comm ha rfl]
  by_cases h : a.length = 0
  · rw [List.eq_nil_of_length_eq_zero h]; rfl
  · rw [prod_def (by simp only [List.length_cons, List.length_nil]; omega)]
    refine list_of_cof (by simp [tab_length]) (fun j hj => ?_)
    rw [tab_length] at hj
    rw [tab_cof hj]
    have hr := cof_rng ha j
    have : S [1] a j = cof a j := by cases j <;> simp [S]
    rw [this]; omega
theorem prod_shift {a : List Int} (ha : allOk a = true) (h : a.length ≠ 0) : prod a [0, 1] = 0 :: a := by
  rw [prod_comm ha rfl, prod_def (by simp only [List.length_cons, List.length_nil]; omega)]
  refine list_of_cof (by simp [tab_length]; omega) (fun j hj => ?_)
  rw [tab_length] at hj
  rw [tab_cof hj]
  cases j with
  | zero => simp [S, cof_zero]
  | succ j =>
    have hr := cof_rng ha j
    have : S [0, 1] a (j + 1) = cof a j := by cases j <;> simp [S]
    rw [this, cof_succ]; omega

/-! ### roots -/
/-- What is left of a polynomial, one root taken out. -/
def quo (r : Int) : List Int → List Int
  | [] => []
  | [_] => []
  | _ :: c :: l => ev (c :: l) r :: quo r (c :: l)
theorem quo_length (r : Int) : ∀ l : List Int, (quo r l).length = l.length - 1
  | [] => rfl
  | [_] => rfl
  | _ :: c :: l => by rw [quo, List.length_cons, quo_length r (c :: l)]; simp
theorem quo_ev (r x : Int) : ∀ l : List Int, ev l x = (x - r) * ev (quo r l) x + ev l r
  | [] => by simp [ev, quo]
  | [c] => by simp [ev, quo]
  | a :: c :: l => by
    have ih := quo_ev r x (c :: l)
    rw [quo, ev_cons a, ev_cons a, ev_cons (ev (c :: l) r)]
    generalize ev (c :: l) r = R at ih ⊢
    generalize ev (quo r (c :: l)) x = Q at ih ⊢
    rw [ih]
    have e1 : (x - r) * (R + x * Q) = (x - r) * R + x * ((x - r) * Q) := by rw [Int.mul_add, Int.mul_left_comm]
    have e2 : x * ((x - r) * Q + R) = x * ((x - r) * Q) + x * R := Int.mul_add _ _ _
    have e3 : (x - r) * R = x * R - r * R := Int.sub_mul _ _ _
    omega
/-- All coefficients are 0 modulo 31. -/
def zeroM (l : List Int) : Prop := ∀ j, cof l j % 31 = 0
theorem quo_zero (r : Int) : ∀ l : List Int, ev l r % 31 = 0 → zeroM (quo r l) → zeroM l
  | [], _, _ => fun j => by rw [cof_nil]; rfl
  | [c], he, _ => fun j => by
    cases j with
    | zero => rw [cof_zero]; simpa [ev] using he
    | succ j => rw [cof_succ, cof_nil]; rfl
  | a :: c :: l, he, hz => by
    have h0 := hz 0
    rw [quo, cof_zero] at h0
    have ih := quo_zero r (c :: l) h0 (fun j => by have := hz (j + 1); rwa [quo, cof_succ] at this)
    intro j
    cases j with
    | zero =>
      rw [cof_zero]
      rw [ev, Int.add_emod, Int.mul_emod, h0, Int.mul_zero] at he
      simpa using he
    | succ j => rw [cof_succ]; exact ih j

/-- How many of the numbers from s on, d of them, p holds of. -/
def cntN (p : Nat → Bool) : Nat → Nat → Nat
  | _, 0 => 0
  | s, d + 1 => (if p s then 1 else 0) + cntN p (s + 1) d
theorem cntN_mono {p q : Nat → Bool} : ∀ d s, (∀ i, s ≤ i → i < s + d → p i = true → q i = true) → cntN p s d ≤ cntN q s d := by
  intro d
  induction d with
  | zero => intro s _; exact Nat.le_refl _
  | succ d ih =>
    intro s h
    have h1 := ih (s + 1) (fun i h1 h2 => h i (by omega) (by omega))
    have h2 := h s (by omega) (by omega)
    unfold cntN
    cases hp : p s
    · simp only [Bool.false_eq_true, if_false]; omega
    · rw [h2 hp]; omega
theorem cntN_none {p : Nat → Bool} : ∀ d s, (∀ i, s ≤ i → i < s + d → p i = false) → cntN p s d = 0 := by
  intro d
  induction d with
  | zero => intro s _; rfl
  | succ d ih =>
    intro s h
    unfold cntN
    rw [h s (by omega) (by omega), ih (s + 1) (fun i h1 h2 => h i (by omega) (by omega))]; rfl
theorem cntN_all {p : Nat → Bool} : ∀ d s, (∀ i, s ≤ i → i < s + d → p i = true) → cntN p s d = d := by
  intro d
  induction d with
  | zero => intro s _; rfl
  | succ d ih =>
    intro s h
    unfold cntN
    rw [h s (by omega) (by omega), ih (s + 1) (fun i h1 h2 => h i (by omega) (by omega)), if_pos rfl]; omega
/-- One more. -/
theorem cntN_or {p q : Nat → Bool} {r : Nat} : ∀ d s, (∀ i, s ≤ i → i < s + d → p i = true → i = r ∨ q i = true) → cntN p s d ≤ cntN q s d + 1 := by
  intro d
  induction d with
  | zero => intro s _; exact Nat.zero_le _
  | succ d ih =>
    intro s h
    by_cases e : s = r
    · have h1 : cntN p (s + 1) d ≤ cntN q (s + 1) d := cntN_mono d (s + 1) (fun i h1 h2 hp => (h i (by omega) (by omega) hp).resolve_left (by omega))
      unfold cntN
      split <;> split <;> omega
    · have h1 := ih (s + 1) (fun i h1 h2 => h i (by omega) (by omega))
      have h2 := h s (by omega) (by omega)
      unfold cntN
      cases hp : p s
      · simp only [Bool.false_eq_true, if_false]; split <;> omega
      · rw [(h2 hp).resolve_left e]; simp only [if_true]; omega

/-- The roots among the numbers of the field. -/
def roots (l : List Int) (d : Nat) : Nat := cntN (fun i => decide (ev l (i : Int) % 31 = 0)) 0 d
theorem roots_few (d : Nat) (hd : d ≤ 31) : ∀ (n : Nat) (l : List Int), l.length = n → ¬ zeroM l → roots l d < n := by
  intro n
  induction n with
  | zero =>
    intro l hl hz
    rw [List.eq_nil_of_length_eq_zero hl] at hz
    exact absurd (fun j => by rw [cof_nil]; rfl) hz
  | succ n ih =>
    intro l hl hz
    by_cases hr : ∃ r : Nat, r < d ∧ ev l (r : Int) % 31 = 0
    · obtain ⟨r, hrd, hr⟩ := hr
      have hq : ¬ zeroM (quo (r : Int) l) := fun h => hz (quo_zero _ l hr h)
      have hn := ih (quo (r : Int) l) (by rw [quo_length, hl]; rfl) hq
      have : roots l d ≤ roots (quo (r : Int) l) d + 1 := by
        refine cntN_or (r := r) d 0 (fun i _ h2 hp => ?_)
        simp only [decide_eq_true_eq] at hp ⊢
        rw [quo_ev (r : Int) (i : Int) l, Int.add_emod, hr, Int.add_zero, Int.emod_emod_of_dvd _ (Int.dvd_refl 31)] at hp
        rcases zd hp with h | h
        · exact .inl (by omega)
        · exact .inr h
      omega
    · have : roots l d = 0 := cntN_none d 0 (fun i _ h2 => by
        simp only [decide_eq_false_iff_not]
        exact fun h => hr ⟨i, by omega, h⟩)
      omega

/-- Two polynomials of n coefficients with the same values at 0, .., n - 1 are the same. -/
theorem same_of_values {a b : List Int} {n : Nat} (hn : n ≤ 31) (hla : a.length = n) (hlb : b.length = n) (ha : allOk a = true) (hb : allOk b = true) (h : ∀ i : Nat, i < n → ev a (i : Int) % 31 = ev b (i : Int) % 31) : a = b := by
  have hs : ∀ x, ev (tab n (fun j => cof a j + 30 * cof b j)) x = ev a x + 30 * ev b x := fun x => by
    rw [ev_tab_add, ev_tab_mul, ev_tab_long a n x (by omega), ev_tab_long b n x (by omega)]
  by_cases hz : zeroM (tab n (fun j => cof a j + 30 * cof b j))
  · refine list_of_cof (by omega) (fun j hj => ?_)
    have := hz j
    rw [tab_cof (by omega)] at this
    have h1 := cof_rng ha j
    have h2 := cof_rng hb j
    omega
  · have h1 := roots_few n hn n _ (tab_length _ _) hz
    have h2 : roots (tab n (fun j => cof a j + 30 * cof b j)) n = n := cntN_all n 0 (fun i _ h2 => by
      simp only [decide_eq_true_eq]
      rw [hs]
      have := h i (by omega)
      omega)
    omega

end Go.Proofs.Ytdamainjflpgpaa.P

/- Which lists are polynomials or share vectors, of the program and of the reference. Conditions: lists of fewer than 2^40 numbers. -/
namespace Go.Proofs.Ytdamainjflpgpaa.P
open Go.RowKit Go.Proofs.Ytdamainjflpgpaa.Num Go.Proofs.YtdamainjflpgpaaW.PrintWords

theorem okN_okF : okN = okF := rfl
def polyOk (l : List Int) : Bool := allOk l && decide (l.length ≤ 9)
def shareOk (l : List Int) : Bool := allOk l && decide (l.length ≤ 20)
theorem polyOk_iff {l : List Int} : polyOk l = true ↔ allOk l = true ∧ l.length ≤ 9 := by simp [polyOk]
theorem shareOk_iff {l : List Int} : shareOk l = true ↔ allOk l = true ∧ l.length ≤ 20 := by simp [shareOk]
theorem allOk_drop {l : List Int} {i : Nat} (h : i < l.length) : allOk (l.drop i) = (okF l[i] && allOk (l.drop (i + 1))) := by
  rw [List.drop_eq_getElem_cons h]; rfl

theorem sPolyOk_loop (l : List Int) (hm : l.length < 1099511627776) (d : Nat) : ∀ i : Nat, i + d = l.length → Ev (fun k => spec_PolyOk.l0 k l (i : Int)) (allOk (l.drop i) && decide (l.length ≤ 9)) := by
  induction d with
  | zero =>
    intro i hi
    obtain rfl : i = l.length := by omega
    refine ⟨1, fun k hk => ?_⟩
    obtain ⟨k, rfl⟩ : ∃ m, k = m + 1 := ⟨k - 1, by omega⟩
    simp only [spec_PolyOk.l0]
    rw [if_neg (by omega), List.drop_length]
    congr 1
    simp [allOk]; omega
  | succ d ih =>
    intro i hi
    obtain ⟨K, h⟩ := ih (i + 1) (by omega)
    refine ⟨K + 1, fun k hk => ?_⟩
    obtain ⟨k, rfl⟩ : ∃ m, k = m + 1 := ⟨k - 1, by omega⟩
    have hia : i < l.length := by omega
    simp only [spec_PolyOk.l0]
    rw [if_pos (by omega), if_pos (by omega), rd_lt hia, sFieldOk, allOk_drop hia]
    simp only [Option.bind_some]
    cases ho : okF l[i]
    · simp
    · rw [if_pos rfl, w64 (by omega)]
      exact (h k (by omega)).trans (by simp)
theorem sPolyOk (l : List Int) (hm : l.length < 1099511627776) : Ev (fun k => spec_PolyOk.f k l) (polyOk l) := sPolyOk_loop l hm l.length 0 (by omega)
theorem elementsOk_eq (l : List Int) (a : Nat) : impl_elementsOk.f l (a : Int) = some (allOk l && decide (l.length ≤ a)) := by
  unfold impl_elementsOk.f allOk
  rw [okN_okF, Bool.and_comm]
  congr 2
  simp
theorem iPolyOk (l : List Int) : impl_PolyOk.f l = some (polyOk l) := by
  unfold impl_PolyOk.f
  rw [show (9 : Int) = ((9 : Nat) : Int) from rfl, elementsOk_eq]; rfl
end Go.Proofs.Ytdamainjflpgpaa.P

/- The value of a polynomial at a place, of the program and of the reference. Conditions: lists of fewer than 2^40 numbers. -/
namespace Go.Proofs.Ytdamainjflpgpaa.P
open Go.RowKit Go.Proofs.Ytdamainjflpgpaa.Num Go.Proofs.YtdamainjflpgpaaW.PrintWords
set_option linter.unusedVariables false

def polyAt (l : List Int) (x : Int) : Int := if polyOk l && okF x then ev l x % 31 else 0
theorem polyAt_ok {l : List Int} {x : Int} (hl : polyOk l = true) (hx : okF x = true) : polyAt l x = ev l x % 31 := by unfold polyAt; rw [hl, hx]; rfl
theorem polyAt_field (l : List Int) (x : Int) : okF (polyAt l x) = true := by unfold polyAt; split; exact okF_mod _; rfl

/-- One step of reckoning a value, from behind. -/
theorem horner {c x r : Int} (hc : 0 ≤ c ∧ c ≤ 30) (hx : 0 ≤ x ∧ x ≤ 30) (e : Int) (hr : r = e % 31) : -1000 ≤ r * x ∧ r * x ≤ 1000 ∧ (r * x + c) % 31 = (c + x * e) % 31 := by
  have h0 : 0 ≤ r ∧ r ≤ 30 := by omega
  have h1 := mul_rng h0 hx
  refine ⟨by omega, by omega, ?_⟩
  rw [hr, Int.mul_comm x e, Int.add_comm c, Int.add_emod, Int.mul_emod, Int.emod_emod_of_dvd _ (Int.dvd_refl 31), ← Int.mul_emod, ← Int.add_emod]

theorem value_eq {l : List Int} {x : Int} (hl : allOk l = true) (hx : okF x = true) : l.reverse.foldl (hstep x) 0 = ev l x % 31 := by
  rw [List.foldl_reverse]
  induction l with
  | nil => rfl
  | cons c l ih =>
    rw [allOk_cons, Bool.and_eq_true] at hl
    rw [List.foldr_cons, ih hl.2]
    obtain ⟨h1, h2, h3⟩ := horner (okF_iff.1 hl.1) (okF_iff.1 hx) (ev l x) rfl
    have hc := okF_iff.1 hl.1
    unfold hstep
    rw [w64 (by omega), w64 (by omega), ev_cons, ← h3]
    rw [Int.add_emod, Int.emod_emod_of_dvd _ (Int.dvd_refl 31), ← Int.add_emod]

theorem iPolyAt (l : List Int) (x : Int) : impl_PolyAt.f l x = some (polyAt l x) := by
  unfold impl_PolyAt.f polyAt
  rw [iPolyOk]
  simp only [Option.bind_some]
  cases hl : polyOk l
  · simp
  rw [iFieldOk]
  simp only [Option.bind_some, if_true]
  cases hx : okF x
  · simp
  simp only [if_true, Bool.and_self]
  unfold impl_value.f
  rw [value_eq (polyOk_iff.1 hl).1 hx]; rfl

theorem l2At_loop {l : List Int} {x : Int} (hl : allOk l = true) (hx : okF x = true) (hm : l.length < 1099511627776) : ∀ i : Nat, i ≤ l.length →
    Ev (fun k => spec_l2At.l0 k l x (ev (l.drop i) x % 31) ((i : Int) - 1)) (ev l x % 31) := by
  intro i
  induction i with
  | zero =>
    intro _
    refine ⟨1, fun k hk => ?_⟩
    obtain ⟨k, rfl⟩ : ∃ m, k = m + 1 := ⟨k - 1, by omega⟩
    simp only [spec_l2At.l0]
    rw [if_neg (by omega)]; rfl
  | succ i ih =>
    intro hi
    obtain ⟨K, h⟩ := ih (by omega)
    refine ⟨K + 1, fun k hk => ?_⟩
    obtain ⟨k, rfl⟩ : ∃ m, k = m + 1 := ⟨k - 1, by omega⟩
    have hia : i < l.length := by omega
    have hc := okF_iff.1 (allOk_iff.1 hl _ (List.getElem_mem hia))
    obtain ⟨h1, h2, h3⟩ := horner hc (okF_iff.1 hx) (ev (l.drop (i + 1)) x) rfl
    have hr := Int.emod_nonneg (ev (l.drop (i + 1)) x) (b := 31) (by omega)
    have hpos : 0 ≤ ev (l.drop (i + 1)) x % 31 * x := Int.mul_nonneg hr (okF_iff.1 hx).1
    simp only [spec_l2At.l0]
    rw [if_pos (by omega), if_pos (by omega), if_pos (by omega), show ((i + 1 : Nat) : Int) - 1 = (i : Int) by omega, rd_lt hia, w64 (n := _ * x) (by omega), w64 (n := _ + l[i]) (by omega), tmod_pos (by omega), w64 (by omega), h3, ← ev_cons, ← List.drop_eq_getElem_cons hia]
    exact h k (by omega)

theorem sPolyAt (l : List Int) (x : Int) (hm : l.length < 1099511627776) : Ev (fun k => spec_PolyAt.f k l x) (polyAt l x) := by
  unfold spec_PolyAt.f polyAt
  obtain ⟨K, h⟩ := sPolyOk l hm
  cases hl : polyOk l
  · refine ⟨K, fun k hk => ?_⟩
    dsimp only at h ⊢
    rw [h k hk, hl]; simp
  · cases hx : okF x
    · refine ⟨K, fun k hk => ?_⟩
      dsimp only at h ⊢
      rw [h k hk, hl]; simp [sFieldOk, hx]
    · obtain ⟨K2, h2⟩ := l2At_loop (polyOk_iff.1 hl).1 hx hm l.length (by omega)
      refine ⟨K + K2, fun k hk => ?_⟩
      have h3 := h2 k (by omega)
      dsimp only at h h3 ⊢
      rw [h k (by omega), hl]
      rw [List.drop_length] at h3
      simp only [Option.bind_some, if_true, sFieldOk, hx, Bool.and_self]
      unfold spec_l2At.f
      rw [w64 (by omega)]
      have e0 : ev [] x % 31 = 0 := rfl
      rw [e0] at h3
      rw [h3]; rfl

end Go.Proofs.Ytdamainjflpgpaa.P

/- The product of two polynomials, of the program and of the reference. Conditions: the product's loops at lists of field numbers. -/
namespace Go.Proofs.Ytdamainjflpgpaa.P
open Go.RowKit Go.Proofs.Ytdamainjflpgpaa.Num Go.Proofs.YtdamainjflpgpaaW.PrintWords

/-- Coefficient j, i rows and t numbers of the next having been added. -/
def T (a b : List Int) (i t j : Nat) : Int := (S (a.take i) b j + (if i ≤ j ∧ j < i + t then cof a i * cof b (j - i) else 0)) % 31
theorem T_rng (a b : List Int) (i t j : Nat) : 0 ≤ T a b i t j ∧ T a b i t j ≤ 30 := by unfold T; omega
theorem T_step (a b : List Int) (i t n : Nat) : (tab n (T a b i t)).set (i + t) ((T a b i t (i + t) + cof a i * cof b t) % 31) = tab n (T a b i (t + 1)) := by
  rw [tab_set]
  refine tab_congr fun j _ => ?_
  by_cases e : j = i + t
  · subst e
    rw [if_pos rfl]
    unfold T
    rw [if_neg (by omega), if_pos (by omega), show i + t - i = t by omega]
    omega
  · rw [if_neg e]
    unfold T
    by_cases h : i ≤ j ∧ j < i + t
    · rw [if_pos h, if_pos (by omega)]
    · rw [if_neg h, if_neg (by omega)]
theorem T_row (a b : List Int) {i : Nat} (hi : i < a.length) (n : Nat) : tab n (T a b i b.length) = tab n (T a b (i + 1) 0) := by
  refine tab_congr fun j _ => ?_
  unfold T
  rw [List.take_succ_eq_append_getElem hi, S_snoc, List.length_take, Nat.min_eq_left (by omega), if_neg (by omega : ¬ (i + 1 ≤ j ∧ j < i + 1 + 0)), Int.add_zero, cof_in hi]
  congr 2
  by_cases h : i ≤ j
  · rw [if_pos h]
    by_cases h2 : j < i + b.length
    · rw [if_pos ⟨h, h2⟩]
    · rw [if_neg (by omega), cof_out (by omega), Int.mul_zero]
  · rw [if_neg h, if_neg (by omega)]
theorem T_start (a b : List Int) (n : Nat) : List.replicate n 0 = tab n (T a b 0 0) := by
  rw [← tab_zero]
  refine tab_congr fun j _ => ?_
  unfold T
  rw [if_neg (by omega), List.take_zero]
  rfl
theorem T_end (a b : List Int) (n : Nat) : tab n (T a b a.length 0) = tab n (fun j => S a b j % 31) := by
  refine tab_congr fun j _ => ?_
  unfold T
  rw [if_neg (by omega), List.take_length, Int.add_zero]

theorem rd_cof (l : List Int) (i : Nat) : rd l (i : Int) = cof l i := rfl

theorem l2Mul_l1 {a b : List Int} (ha : allOk a = true) (hb : allOk b = true) (hla : a.length ≤ 1000) (hlb : b.length ≤ 1000) {i : Nat} (hi : i < a.length) (R : List Int)
    (hR : Ev (fun k => spec_l2Mul.l0 k a b (tab (a.length + b.length - 1) (T a b (i + 1) 0)) ((i + 1 : Nat) : Int)) R) (d : Nat) :
    ∀ t : Nat, t + d = b.length → Ev (fun k => spec_l2Mul.l1 k a b (tab (a.length + b.length - 1) (T a b i t)) (i : Int) (t : Int)) R := by
  induction d with
  | zero =>
    intro t ht
    obtain rfl : t = b.length := by omega
    obtain ⟨K, h⟩ := hR
    refine ⟨K + 1, fun k hk => ?_⟩
    obtain ⟨k, rfl⟩ : ∃ m, k = m + 1 := ⟨k - 1, by omega⟩
    simp only [spec_l2Mul.l1]
    rw [if_neg (by omega), w64 (by omega), T_row a b hi]
    exact h k (by omega)
  | succ d ih =>
    intro t ht
    obtain ⟨K, h⟩ := ih (t + 1) (by omega)
    refine ⟨K + 1, fun k hk => ?_⟩
    obtain ⟨k, rfl⟩ : ∃ m, k = m + 1 := ⟨k - 1, by omega⟩
    have hp : wrap64 ((i : Int) + (t : Int)) = ((i + t : Nat) : Int) := by rw [w64 (by omega)]; omega
    have h1 := mul_rng (cof_rng ha i) (cof_rng hb t)
    have h2 := T_rng a b i t (i + t)
    simp only [spec_l2Mul.l1]
    rw [hp, if_pos (by omega), if_pos (by omega), if_pos (by rw [tab_length]; omega), if_pos (by omega), if_pos (by omega), if_pos (by omega), rd_cof, rd_cof, rd_cof, tab_cof (by omega), w64 (n := cof a i * cof b t) (by omega), w64 (n := T a b i t (i + t) + cof a i * cof b t) (by omega), tmod_pos (by omega), Int.toNat_natCast, T_step, w64 (by omega)]
    exact h k (by omega)
theorem l2Mul_l0 {a b : List Int} (ha : allOk a = true) (hb : allOk b = true) (hla : a.length ≤ 1000) (hlb : b.length ≤ 1000) (d : Nat) :
    ∀ i : Nat, i + d = a.length → Ev (fun k => spec_l2Mul.l0 k a b (tab (a.length + b.length - 1) (T a b i 0)) (i : Int)) (tab (a.length + b.length - 1) (fun j => S a b j % 31)) := by
  induction d with
  | zero =>
    intro i hi
    obtain rfl : i = a.length := by omega
    refine ⟨1, fun k hk => ?_⟩
    obtain ⟨k, rfl⟩ : ∃ m, k = m + 1 := ⟨k - 1, by omega⟩
    simp only [spec_l2Mul.l0]
    rw [if_neg (by omega), T_end]
  | succ d ih =>
    intro i hi
    obtain ⟨K, h⟩ := l2Mul_l1 ha hb hla hlb (i := i) (by omega) _ (ih (i + 1) (by omega)) b.length 0 (by omega)
    refine ⟨K + 1, fun k hk => ?_⟩
    obtain ⟨k, rfl⟩ : ∃ m, k = m + 1 := ⟨k - 1, by omega⟩
    simp only [spec_l2Mul.l0]
    rw [if_pos (by omega)]
    exact h k (by omega)
theorem l2Mul_ev {a b : List Int} (ha : allOk a = true) (hb : allOk b = true) (hla : a.length ≤ 1000) (hlb : b.length ≤ 1000) : Ev (fun k => spec_l2Mul.f k a b) (prod a b) := by
  by_cases h0 : a.length = 0 ∨ b.length = 0
  · refine ⟨1, fun k hk => ?_⟩
    obtain ⟨k, rfl⟩ : ∃ m, k = m + 1 := ⟨k - 1, by omega⟩
    dsimp only
    unfold spec_l2Mul.f
    rw [prod, if_pos h0]
    by_cases h1 : a.length = 0
    · rw [if_pos (by omega)]; rfl
    · rw [if_neg (by omega), show ((b.length : Int) == 0) = true by rw [beq_iff_eq]; omega]; rfl
  · obtain ⟨K, h⟩ := l2Mul_l0 ha hb hla hlb a.length 0 (by omega)
    refine ⟨K + 1, fun k hk => ?_⟩
    obtain ⟨k, rfl⟩ : ∃ m, k = m + 1 := ⟨k - 1, by omega⟩
    dsimp only
    have hw : wrap64 (wrap64 ((a.length : Int) + (b.length : Int)) - 1) = ((a.length + b.length - 1 : Nat) : Int) := by rw [w64 (n := (a.length : Int) + (b.length : Int)) (by omega), w64 (by omega)]; omega
    unfold spec_l2Mul.f
    rw [if_neg (by omega), show ((b.length : Int) == 0) = false by rw [beq_eq_false_iff_ne]; omega]
    simp only [spec_l2Mul.j0, Bool.false_eq_true, if_false]
    rw [hw, if_pos (by omega), Int.toNat_natCast, if_pos (by omega), T_start a b, prod_def h0]
    exact h k (by omega)
theorem product_l1 {a b : List Int} (ha : allOk a = true) (hb : allOk b = true) (hla : a.length ≤ 1000) (hlb : b.length ≤ 1000) {i : Nat} (hi : i < a.length) (R : List Int)
    (hR : Ev (fun k => impl_product.l0 k b (tab (a.length + b.length - 1) (T a b (i + 1) 0)) a (a.length : Int) ((i + 1 : Nat) : Int)) R) (d : Nat) :
    ∀ t : Nat, t + d = b.length → Ev (fun k => impl_product.l1 k b (tab (a.length + b.length - 1) (T a b i t)) (i : Int) (rd a (i : Int)) a (a.length : Int) (i : Int) b (b.length : Int) (t : Int)) R := by
  induction d with
  | zero =>
    intro t ht
    obtain rfl : t = b.length := by omega
    obtain ⟨K, h⟩ := hR
    refine ⟨K + 1, fun k hk => ?_⟩
    obtain ⟨k, rfl⟩ : ∃ m, k = m + 1 := ⟨k - 1, by omega⟩
    simp only [impl_product.l1]
    rw [if_neg (by omega), w64 (by omega), T_row a b hi]
    exact h k (by omega)
  | succ d ih =>
    intro t ht
    obtain ⟨K, h⟩ := ih (t + 1) (by omega)
    refine ⟨K + 1, fun k hk => ?_⟩
    obtain ⟨k, rfl⟩ : ∃ m, k = m + 1 := ⟨k - 1, by omega⟩
    have hp : wrap64 ((i : Int) + (t : Int)) = ((i + t : Nat) : Int) := by rw [w64 (by omega)]; omega
    have h2 := T_rng a b i t (i + t)
    simp only [impl_product.l1]
    rw [hp, if_pos (by omega), if_pos (by omega), if_pos (by omega), if_pos (by omega), if_pos (by rw [tab_length]; omega), rd_cof, rd_cof, rd_cof, times_ok (okF_iff.2 (cof_rng ha i)) (okF_iff.2 (cof_rng hb t))]
    simp only [Option.bind_some]
    rw [tab_cof (by omega), plus_ok (okF_iff.2 h2) (okF_mod _)]
    simp only [Option.bind_some]
    rw [Int.toNat_natCast, show (T a b i t (i + t) + cof a i * cof b t % 31) % 31 = (T a b i t (i + t) + cof a i * cof b t) % 31 by omega, T_step, w64 (by omega)]
    exact h k (by omega)
theorem product_l0 {a b : List Int} (ha : allOk a = true) (hb : allOk b = true) (hla : a.length ≤ 1000) (hlb : b.length ≤ 1000) (d : Nat) :
    ∀ i : Nat, i + d = a.length → Ev (fun k => impl_product.l0 k b (tab (a.length + b.length - 1) (T a b i 0)) a (a.length : Int) (i : Int)) (tab (a.length + b.length - 1) (fun j => S a b j % 31)) := by
  induction d with
  | zero =>
    intro i hi
    obtain rfl : i = a.length := by omega
    refine ⟨1, fun k hk => ?_⟩
    obtain ⟨k, rfl⟩ : ∃ m, k = m + 1 := ⟨k - 1, by omega⟩
    simp only [impl_product.l0]
    rw [if_neg (by omega), T_end]
  | succ d ih =>
    intro i hi
    obtain ⟨K, h⟩ := product_l1 ha hb hla hlb (i := i) (by omega) _ (ih (i + 1) (by omega)) b.length 0 (by omega)
    refine ⟨K + 1, fun k hk => ?_⟩
    obtain ⟨k, rfl⟩ : ∃ m, k = m + 1 := ⟨k - 1, by omega⟩
    simp only [impl_product.l0]
    rw [if_pos (by omega), if_pos (by omega), if_pos (by omega)]
    exact h k (by omega)
theorem product_ev {a b : List Int} (ha : allOk a = true) (hb : allOk b = true) (hla : a.length ≤ 1000) (hlb : b.length ≤ 1000) : Ev (fun k => impl_product.f k a b) (prod a b) := by
  by_cases h0 : a.length = 0 ∨ b.length = 0
  · refine ⟨1, fun k hk => ?_⟩
    obtain ⟨k, rfl⟩ : ∃ m, k = m + 1 := ⟨k - 1, by omega⟩
    dsimp only
    unfold impl_product.f
    rw [prod, if_pos h0]
    by_cases h1 : a.length = 0
    · rw [if_pos (by omega)]; rfl
    · rw [if_neg (by omega), show ((b.length : Int) == 0) = true by rw [beq_iff_eq]; omega]; rfl
  · obtain ⟨K, h⟩ := product_l0 ha hb hla hlb a.length 0 (by omega)
    refine ⟨K + 1, fun k hk => ?_⟩
    obtain ⟨k, rfl⟩ : ∃ m, k = m + 1 := ⟨k - 1, by omega⟩
    dsimp only
    have hw : wrap64 (wrap64 ((a.length : Int) + (b.length : Int)) - 1) = ((a.length + b.length - 1 : Nat) : Int) := by rw [w64 (n := (a.length : Int) + (b.length : Int)) (by omega), w64 (by omega)]; omega
    unfold impl_product.f
    rw [if_neg (by omega), show ((b.length : Int) == 0) = false by rw [beq_eq_false_iff_ne]; omega]
    simp only [impl_product.j0, Bool.false_eq_true, if_false]
    rw [hw, if_pos (by omega), Int.toNat_natCast, if_pos (by omega), T_start a b, prod_def h0]
    exact h k (by omega)
/-- Whether two lists have a product that is a polynomial. -/
def mulOk (a b : List Int) : Bool := polyOk a && polyOk b && decide ((prod a b).length ≤ 9)
def polyMul (a b : List Int) : List Int × Bool := if mulOk a b then (prod a b, true) else ([], false)
theorem sPolyMul (a b : List Int) (hma : a.length < 1099511627776) (hmb : b.length < 1099511627776) : Ev (fun k => spec_PolyMul.f k a b) (polyMul a b) := by
  obtain ⟨K1, h1⟩ := sPolyOk a hma
  obtain ⟨K2, h2⟩ := sPolyOk b hmb
  dsimp only at h1 h2
  cases ha : polyOk a
  · refine ⟨K1 + 1, fun k hk => ?_⟩
    obtain ⟨k, rfl⟩ : ∃ m, k = m + 1 := ⟨k - 1, by omega⟩
    dsimp only
    unfold spec_PolyMul.f polyMul mulOk
    rw [h1 _ (by omega), ha]; simp [spec_PolyMul.j0]
  cases hb : polyOk b
  · refine ⟨K1 + K2 + 1, fun k hk => ?_⟩
    obtain ⟨k, rfl⟩ : ∃ m, k = m + 1 := ⟨k - 1, by omega⟩
    dsimp only
    unfold spec_PolyMul.f polyMul mulOk
    rw [h1 _ (by omega), h2 _ (by omega), ha, hb]; simp [spec_PolyMul.j0]
  obtain ⟨pa, la⟩ := polyOk_iff.1 ha
  obtain ⟨pb, lb⟩ := polyOk_iff.1 hb
  obtain ⟨K3, h3⟩ := l2Mul_ev pa pb (by omega) (by omega)
  dsimp only at h3
  refine ⟨K1 + K2 + K3 + 1, fun k hk => ?_⟩
  obtain ⟨k, rfl⟩ : ∃ m, k = m + 1 := ⟨k - 1, by omega⟩
  dsimp only
  unfold spec_PolyMul.f polyMul mulOk
  rw [h1 _ (by omega), h2 _ (by omega), ha, hb]
  simp only [Option.bind_some, if_true, Bool.not_true, spec_PolyMul.j0, Bool.false_eq_true, if_false, Bool.and_self, Bool.true_and]
  rw [h3 _ (by omega)]
  simp only [Option.bind_some]
  by_cases hl : (prod a b).length ≤ 9
  · rw [if_neg (by omega), decide_eq_true hl]; rfl
  · rw [if_pos (by omega), decide_eq_false hl]; rfl
theorem iPolyMul (a b : List Int) : Ev (fun k => impl_PolyMul.f k a b) (polyMul a b) := by
  cases ha : polyOk a
  · refine ⟨0, fun k hk => ?_⟩
    dsimp only
    unfold impl_PolyMul.f polyMul mulOk
    rw [iPolyOk, ha]; simp
  cases hb : polyOk b
  · refine ⟨0, fun k hk => ?_⟩
    dsimp only
    unfold impl_PolyMul.f polyMul mulOk
    rw [iPolyOk, iPolyOk, ha, hb]; simp
  obtain ⟨pa, la⟩ := polyOk_iff.1 ha
  obtain ⟨pb, lb⟩ := polyOk_iff.1 hb
  obtain ⟨K3, h3⟩ := product_ev pa pb (by omega) (by omega)
  dsimp only at h3
  refine ⟨K3, fun k hk => ?_⟩
  have hp := prod_length a b
  dsimp only
  unfold impl_PolyMul.f polyMul mulOk
  rw [iPolyOk, iPolyOk, ha, hb, h3 k hk]
  simp only [Option.bind_some, if_true, Bool.and_self, Bool.true_and]
  by_cases h0 : a.length = 0
  · rw [if_neg (by omega), decide_eq_true (by rw [hp, if_pos (.inl h0)]; omega)]; rfl
  by_cases h00 : b.length = 0
  · rw [if_pos (by omega), if_neg (by omega), decide_eq_true (by rw [hp, if_pos (.inr h00)]; omega)]; rfl
  rw [if_neg (by omega)] at hp
  have hw : wrap64 (wrap64 ((a.length : Int) + (b.length : Int)) - 1) = ((a.length + b.length - 1 : Nat) : Int) := by rw [w64 (n := (a.length : Int) + (b.length : Int)) (by omega), w64 (by omega)]; omega
  rw [if_pos (by omega), if_pos (by omega), hw, hp]
  by_cases hl : a.length + b.length - 1 ≤ 9
  · rw [if_neg (by omega), decide_eq_true hl]; rfl
  · rw [if_pos (by omega), decide_eq_false hl]; rfl
theorem polyMul_fst_len (a b : List Int) : (polyMul a b).1.length ≤ 9 := by
  unfold polyMul
  cases h : mulOk a b
  · simp
  · simp only [mulOk, Bool.and_eq_true, decide_eq_true_eq] at h
    simp only [if_true]; omega

end Go.Proofs.Ytdamainjflpgpaa.P

/- What is drawn out of a code for the laws on lists: some list of a few numbers. Conditions: the code holds bytes. -/
namespace Go.Proofs.Ytdamainjflpgpaa.P
open Go.RowKit Go.Proofs.Ytdamainjflpgpaa.Num Go.Proofs.YtdamainjflpgpaaW.PrintWords

theorem list_l0 {c : List Int} (n : Nat) (hn : n ≤ 100) : ∀ (l : List Int) (p : Int), l.length + n ≤ 200 → Rd c p → p + n ≤ 800000 → ∃ r q, (Ev (fun k => spec_l91List.l0 k l (n : Int) c p) (r, q)) ∧ r.length = l.length + n ∧ p ≤ q ∧ q ≤ p + n + 3 := by
  induction n with
  | zero =>
    intro l p hl h hp
    by_cases h0 : l.length = 0
    · refine ⟨l, p, ⟨2, fun k hk => ?_⟩, by omega, by omega, by omega⟩
      obtain ⟨k, rfl⟩ : ∃ m, k = m + 2 := ⟨k - 2, by omega⟩
      simp only [spec_l91List.l0]
      rw [if_neg (by omega), if_neg (by omega)]; rfl
    · obtain ⟨v, e, a, b⟩ := pick_ev h (n := 40) (by omega)
      have h1 := h.next (by omega)
      obtain ⟨v1, e1, a1, b1⟩ := pick_ev h1 (n := (l.length : Int)) (by omega)
      have h2 := h1.next (by omega)
      obtain ⟨v2, e2, a2, b2⟩ := pick_ev h2 (n := 2) (by omega)
      by_cases hv : v = 0
      · refine ⟨l.set v1.toNat (rd [-1, 31] v2), p + 1 + 1 + 1, ⟨3, fun k hk => ?_⟩, by simp, by omega, by omega⟩
        obtain ⟨k, rfl⟩ : ∃ m, k = m + 3 := ⟨k - 3, by omega⟩
        simp only [spec_l91List.l0]
        rw [if_neg (by omega), if_pos (by omega), e _ (by omega)]
        simp only [Option.bind_some, spec_l91List.j1]
        rw [hv, e1 _ (by omega)]
        simp only [Option.bind_some, beq_self_eq_true, if_true]
        rw [e2 _ (by omega)]
        simp only [Option.bind_some]
        rw [if_pos a2, if_pos (by simpa using b2), if_pos a1, if_pos b1]
      · refine ⟨l, p + 1, ⟨3, fun k hk => ?_⟩, by omega, by omega, by omega⟩
        obtain ⟨k, rfl⟩ : ∃ m, k = m + 3 := ⟨k - 3, by omega⟩
        simp only [spec_l91List.l0]
        rw [if_neg (by omega), if_pos (by omega), e _ (by omega)]
        simp only [Option.bind_some, spec_l91List.j1]
        rw [beq_eq_false_iff_ne.2 hv]; rfl
  | succ n ih =>
    intro l p hl h hp
    obtain ⟨v, e, a, b⟩ := pick_ev h (n := 31) (by omega)
    obtain ⟨r, q, ⟨K, hK⟩, h1, h2, h3⟩ := ih (by omega) (l ++ [v]) (p + 1) (by simp; omega) (h.next (by omega)) (by omega)
    refine ⟨r, q, ⟨K + 2, fun k hk => ?_⟩, by simp at h1; omega, by omega, by omega⟩
    obtain ⟨k, rfl⟩ : ∃ m, k = m + 1 := ⟨k - 1, by omega⟩
    simp only [spec_l91List.l0]
    rw [if_pos (by omega), e _ (by omega)]
    simp only [Option.bind_some]
    rw [if_pos (by omega), w64 (by omega), show ((n + 1 : Nat) : Int) - 1 = (n : Int) by omega]
    exact hK k (by omega)

theorem list_ev {c : List Int} {p : Int} (m : Nat) (hm : m ≤ 50) (h : Rd c p) (hp : p ≤ 700000) : ∃ r q, (Ev (fun k => spec_l91List.f k c p (m : Int)) (r, q)) ∧ r.length ≤ m ∧ p ≤ q ∧ q ≤ p + 100 := by
  obtain ⟨v, e, a, b⟩ := pick_ev h (n := (m : Int) + 1) (by omega)
  obtain ⟨n, rfl⟩ := Int.eq_ofNat_of_zero_le a
  obtain ⟨r, q, ⟨K, hK⟩, h1, h2, h3⟩ := list_l0 (c := c) n (by omega) [] (p + 1) (by simp; omega) (h.next (by omega)) (by omega)
  refine ⟨r, q, ⟨K + 1, fun k hk => ?_⟩, by simp at h1; omega, by omega, by omega⟩
  dsimp only
  unfold spec_l91List.f
  rw [w64 (by omega), e _ (by omega)]
  exact hK k (by omega)

theorem drawPolyThrough_ev {l : List Int} (h : Bytes l) : ∃ a, Ev (fun k => spec_DrawPolyThrough.f k l) a ∧ a.length ≤ 9 := by
  obtain ⟨c, ho, hb, hl⟩ := open_ev h
  obtain ⟨a, q, ⟨K, e⟩, h1, h2, h3⟩ := list_ev (c := c) (p := 0) 9 (by omega) ⟨hb, hl, by omega, by omega⟩ (by omega)
  change ∀ k, K ≤ k → spec_l91List.f k c 0 9 = _ at e
  exact ⟨a, ⟨K, fun k hk => by dsimp only; unfold spec_DrawPolyThrough.f; rw [ho]; simp only [Option.bind_some]; rw [e k (by omega)]; rfl⟩, h1⟩

end Go.Proofs.Ytdamainjflpgpaa.P

/- What through computes: by differences, a polynomial of as many numbers as there are values, with these values at 0, 1, 2, .. Conditions: at most 9 values, each a number of the field. -/
namespace Go.Proofs.Ytdamainjflpgpaa.P
open Go.RowKit Go.Proofs.Ytdamainjflpgpaa.Num Go.Proofs.YtdamainjflpgpaaW.PrintWords
set_option linter.unusedSimpArgs false
set_option linter.unusedVariables false
set_option linter.unusedSectionVars false

theorem eq_mod31 {a b : Int} (c : Int) (h : a = b + 31 * c) : a % 31 = b % 31 := by omega

/-! ### Sums of falling products -/
def fall (x : Int) : Nat → Int
  | 0 => 1
  | i + 1 => fall x i * (x - (i : Int))
def V (c : Nat → Int) (x : Int) : Nat → Int
  | 0 => 0
  | n + 1 => V c x n + c n * fall x n
theorem fall_up (x : Int) : ∀ i : Nat, fall (x + 1) (i + 1) = (x + 1) * fall x i
  | 0 => by simp [fall]
  | i + 1 => by
    rw [fall, fall_up x i, fall]
    have : x + 1 - ((i + 1 : Nat) : Int) = x - (i : Int) := by omega
    rw [this, Int.mul_assoc]
theorem fall_diff (x : Int) (i : Nat) : fall (x + 1) (i + 1) = fall x (i + 1) + ((i : Int) + 1) * fall x i := by
  rw [fall_up, fall]
  generalize fall x i = f
  grind
theorem V_up (c : Nat → Int) (x : Int) : ∀ n : Nat, V c (x + 1) (n + 1) = V c x (n + 1) + V (fun s => ((s : Int) + 1) * c (s + 1)) x n
  | 0 => by simp [V, fall]
  | n + 1 => by
    have h := V_up c x n
    show V c (x + 1) (n + 1) + c (n + 1) * fall (x + 1) (n + 1) = (V c x (n + 1) + c (n + 1) * fall x (n + 1)) + (V (fun s => ((s : Int) + 1) * c (s + 1)) x n + (((n : Int) + 1) * c (n + 1)) * fall x n)
    rw [h, fall_diff]
    generalize V c x (n + 1) = a
    generalize V (fun s => ((s : Int) + 1) * c (s + 1)) x n = b
    generalize fall x (n + 1) = f
    generalize fall x n = g
    generalize c (n + 1) = d
    grind
theorem V_mod {c c' : Nat → Int} (x : Int) : ∀ n : Nat, (∀ s, s < n → c s % 31 = c' s % 31) → V c x n % 31 = V c' x n % 31
  | 0, _ => rfl
  | n + 1, h => by
    have h1 := V_mod (c := c) (c' := c') x n (fun s hs => h s (by omega))
    have h2 := h n (by omega)
    rw [V, V]
    have h3 : (c n * fall x n) % 31 = (c' n * fall x n) % 31 := by rw [Int.mul_emod, h2, ← Int.mul_emod]
    omega
theorem V_sub (c c' : Nat → Int) (x : Int) : ∀ n : Nat, V (fun s => c s - c' s) x n = V c x n - V c' x n
  | 0 => rfl
  | n + 1 => by rw [V, V_sub c c' x n, V, V]; generalize fall x n = f; grind
theorem fall_none : ∀ i : Nat, fall 0 (i + 1) = 0
  | 0 => by simp [fall]
  | i + 1 => by rw [fall, fall_none i]; simp
theorem V_none (c : Nat → Int) : ∀ n : Nat, V c 0 (n + 1) = c 0
  | 0 => by simp [V, fall]
  | n + 1 => by rw [V, V_none c n, fall_none]; simp

/-! ### Differences -/
def D (l : List Int) : Nat → Nat → Int
  | 0, i => cof l i
  | s + 1, i => ((D l s i - D l s (i - 1)) % 31 * inv31 ((s + 1 : Nat) : Int)) % 31
theorem D_ok {l : List Int} (h : allOk l = true) (s i : Nat) : okF (D l s i) = true := by
  cases s with
  | zero => exact okF_iff.2 (cof_rng h i)
  | succ s => exact okF_mod _
theorem back_inv (E v a : Int) (h : (a * v) % 31 = 1) : (a * ((E % 31 * v) % 31)) % 31 = E % 31 := by
  generalize hq : E / 31 = q
  have h1 : E % 31 = E - 31 * q := by omega
  rw [h1]
  generalize hr : ((E - 31 * q) * v) / 31 = r
  have h2 : ((E - 31 * q) * v) % 31 = (E - 31 * q) * v - 31 * r := by omega
  rw [h2]
  generalize ht : (a * v) / 31 = t
  have h3 : a * v = 1 + 31 * t := by omega
  have h4 : a * ((E - 31 * q) * v - 31 * r) = (E - 31 * q) * (a * v) - 31 * (a * r) := by grind
  rw [h4, h3]
  generalize hz : a * r = z
  have h5 : (E - 31 * q) * (1 + 31 * t) = E + 31 * (t * (E - 31 * q) - q) := by grind
  rw [h5]
  generalize t * (E - 31 * q) = y
  omega
theorem D_back (l : List Int) (s i : Nat) (hs : s < 30) : (((s : Int) + 1) * D l (s + 1) i) % 31 = (D l s i - D l s (i - 1)) % 31 := by
  have e : ((s : Int) + 1) = ((s + 1 : Nat) : Int) := by omega
  rw [e, D]
  exact back_inv _ _ _ (inv_one (okF_iff.2 (by omega)) (by omega))
theorem newton_value (l : List Int) : ∀ (m L b : Nat), m < L → L ≤ 30 → V (fun s => D l s (b + s)) (m : Int) L % 31 = D l 0 (b + m) % 31
  | 0, L, b, h, _ => by
    obtain ⟨L, rfl⟩ : ∃ k, L = k + 1 := ⟨L - 1, by omega⟩
    rw [show ((0 : Nat) : Int) = 0 from rfl, V_none]
  | m + 1, L, b, h, hL => by
    obtain ⟨L, rfl⟩ : ∃ k, L = k + 1 := ⟨L - 1, by omega⟩
    have e : ((m + 1 : Nat) : Int) = (m : Int) + 1 := by omega
    rw [e, V_up]
    have h1 := newton_value l m (L + 1) b (by omega) hL
    have h2 := newton_value l m L (b + 1) (by omega) (by omega)
    have h3 := newton_value l m L b (by omega) (by omega)
    have h4 : V (fun s => ((s : Int) + 1) * D l (s + 1) (b + (s + 1))) (m : Int) L % 31 = V (fun s => D l s (b + 1 + s) - D l s (b + s)) (m : Int) L % 31 := by
      refine V_mod _ L fun s hs => ?_
      rw [D_back l s _ (by omega), show b + (s + 1) - 1 = b + s by omega, show b + (s + 1) = b + 1 + s by omega]
    rw [V_sub] at h4
    have h5 : b + 1 + m = b + (m + 1) := by omega
    rw [h5] at h2
    omega

/-! ### The polynomial is put together -/
/-- One round: times x - i, and the next difference. -/
def fin0 (out : List Int) (i : Nat) (j : Nat) : Int := if 0 < j then (((cof out j * ((-(i : Int)) % 31)) % 31) + cof out (j - 1)) % 31 else (cof out j * ((-(i : Int)) % 31)) % 31
def finS (d : Nat → Int) (n : Nat) (out : List Int) (i : Nat) : List Int := tab n (fun j => if j = 0 then (fin0 out i 0 + d i) % 31 else fin0 out i j)
def fin (d : Nat → Int) (n : Nat) (out : List Int) : Nat → List Int
  | 0 => out
  | m + 1 => fin d n (finS d n out m) m
theorem fin0_ok {out : List Int} (h : allOk out = true) (i j : Nat) : okF (fin0 out i j) = true := by unfold fin0; split <;> exact okF_mod _
theorem finS_ok (d : Nat → Int) (n : Nat) {out : List Int} (h : allOk out = true) (i : Nat) : allOk (finS d n out i) = true := by
  rw [allOk_iff]; intro x hx
  simp only [finS, tab, List.mem_map] at hx
  obtain ⟨j, _, rfl⟩ := hx
  split
  · exact okF_mod _
  · exact fin0_ok h _ _
theorem finS_length (d : Nat → Int) (n : Nat) (out : List Int) (i : Nat) : (finS d n out i).length = n := tab_length _ _
theorem ev_tab_top (x : Int) : ∀ (m : Nat) (F : Nat → Int), F m = 0 → ev (tab (m + 1) F) x = ev (tab m F) x
  | 0, F, h => by rw [tab_cons, h]; simp [tab, ev]
  | m + 1, F, h => by rw [tab_cons, ev_cons, ev_tab_top x m _ h, tab_cons m F, ev_cons]
/-- Where the topmost number is 0 nothing is lost. -/
theorem finS_ev {d : Nat → Int} {n : Nat} {out : List Int} (hl : out.length = n) {i : Nat} (hn : 0 < n) (ht : cof out (n - 1) = 0) (x : Int) : ev (finS d n out i) x % 31 = ((x - (i : Int)) * ev out x + d i) % 31 := by
  obtain ⟨n, rfl⟩ : ∃ k, n = k + 1 := ⟨n - 1, by omega⟩
  have hcof : ∀ j, cof (finS d (n + 1) out i) j % 31 = cof (tab (n + 1) (fun j => (-(i : Int)) * cof out j + (if j = 0 then d i else cof out (j - 1)))) j % 31 := by
    intro j
    by_cases hj : j < n + 1
    · rw [finS, tab_cof hj, tab_cof hj]
      have hm : (cof out j * ((-(i : Int)) % 31)) % 31 = ((-(i : Int)) * cof out j) % 31 := by rw [Int.mul_emod, Int.emod_emod_of_dvd _ (Int.dvd_refl 31), ← Int.mul_emod, Int.mul_comm]
      by_cases h0 : j = 0
      · subst h0
        rw [if_pos rfl, if_pos rfl, fin0, if_neg (by omega), hm]
        omega
      · rw [if_neg h0, if_neg h0, fin0, if_pos (by omega), hm]
        omega
    · rw [cof_out (by rw [finS_length]; omega), cof_out (by rw [tab_length]; omega)]
  rw [ev_mod (by rw [finS_length, tab_length]) hcof x, ev_tab_add, ev_tab_mul]
  have h1 : ev (tab (n + 1) (cof out)) x = ev out x := ev_tab_long out _ x (by omega)
  have h2 : ev (tab (n + 1) (fun j => if j = 0 then d i else cof out (j - 1))) x = d i + x * ev out x := by
    rw [tab_cons, ev_cons]
    have h3 : tab n (fun j => (fun j => if j = 0 then d i else cof out (j - 1)) (j + 1)) = tab n (cof out) := tab_congr fun j _ => by simp
    rw [h3, ← ev_tab_top x n (cof out) (by simpa using ht), h1]
    simp
  have h4 : ev (tab (n + 1) fun j => -(i : Int) * cof out j) x = -(i : Int) * ev (tab (n + 1) (cof out)) x := ev_tab_mul _ _ _ _
  rw [h2, h1]
  congr 1
  generalize ev out x = e
  grind
/-- The value of what is put together. -/
theorem fin_spec (d : Nat → Int) (n : Nat) (x : Int) : ∀ (m : Nat) (out : List Int), m ≤ n → out.length = n → allOk out = true → (∀ j, n - m ≤ j → cof out j = 0) →
    (fin d n out m).length = n ∧ allOk (fin d n out m) = true ∧ ev (fin d n out m) x % 31 = (V d x m + fall x m * ev out x) % 31
  | 0, out, _, hl, ho, _ => ⟨hl, ho, by simp [fin, V, fall]⟩
  | m + 1, out, hm, hl, ho, ht => by
    have hz : ∀ j, n - m ≤ j → cof (finS d n out m) j = 0 := by
      intro j hj
      by_cases hjn : j < n
      · rw [finS, tab_cof hjn, if_neg (by omega), fin0, if_pos (by omega), ht j (by omega), ht (j - 1) (by omega)]; simp
      · exact cof_out (by rw [finS_length]; omega)
    obtain ⟨h1, h2, h3⟩ := fin_spec d n x m (finS d n out m) (by omega) (finS_length _ _ _ _) (finS_ok _ _ ho _) hz
    refine ⟨h1, h2, ?_⟩
    rw [fin, h3, V, fall]
    have h4 := finS_ev (d := d) (i := m) hl (by omega) (ht (n - 1) (by omega)) x
    have h5 : (fall x m * ev (finS d n out m) x) % 31 = (fall x m * ((x - (m : Int)) * ev out x + d m)) % 31 := by rw [Int.mul_emod, h4, ← Int.mul_emod]
    have h6 : fall x m * ((x - (m : Int)) * ev out x + d m) = d m * fall x m + fall x m * (x - (m : Int)) * ev out x := by
      generalize fall x m = f; generalize ev out x = e; grind
    rw [h6] at h5
    generalize fall x m * (x - (m : Int)) * ev out x = y at h5 ⊢
    omega

/-! ### The program's loops -/
theorem minusP {a b : Int} (ha : okF a = true) (hb : okF b = true) : impl_element_minus.f a b = some ((a - b) % 31) := by
  have h1 := okF_iff.1 ha; have h2 := okF_iff.1 hb
  unfold impl_element_minus.f; rw [w64 (by omega), elementOf_eq]; rfl
theorem inverseP_fin : ∀ i : Fin 31, impl_element_inverse.f 40 (i.val : Int) = some (inv31 (i.val : Int)) := by decide +kernel
theorem inverseP {a : Int} (ha : okF a = true) (k : Nat) (hk : 40 ≤ k) : impl_element_inverse.f k a = some (inv31 a) := by
  rw [okF_iff] at ha
  obtain ⟨i, rfl⟩ := Int.eq_ofNat_of_zero_le ha.1
  exact at_rounds (impl_element_inverse.mono _) hk (inverseP_fin ⟨i, by omega⟩)
theorem rd_tab {n j : Nat} {F : Nat → Int} (h : j < n) : rd (tab n F) (j : Int) = F j := by rw [rd_cof, tab_cof h]

def dd (l : List Int) (j : Nat) : Int := D l j j
/-- The array ahead of step s; and within it, behind place i. -/
def stA (l : List Int) (n s j : Nat) : Int := if j < n then (if j < s then dd l j else D l (s - 1) j) else 0
def stB (l : List Int) (n s i j : Nat) : Int := if j < n then (if j < s then dd l j else if i < j then D l s j else D l (s - 1) j) else 0
def newton (l : List Int) : List Int := fin (dd l) l.length (List.replicate l.length 0) l.length

section
variable {l : List Int} (hl : allOk l = true) (hn : l.length ≤ 9)
include hl hn
theorem th_l4 {d out : List Int} {R : List Int} (hd : ∀ j, okF (cof d j) = true) (hdl : d.length = 9) (hol : out.length = l.length) (ho : allOk out = true) {i : Nat} (hi : i < l.length)
    (hR : Ev (fun k => throughK.l3 k l d (finS (cof d) l.length out i) ((i : Int) - 1)) R) : ∀ kk : Nat, kk ≤ l.length → Ev (fun k => throughK.l4 k l d (tab l.length (fun j => if kk ≤ j then fin0 out i j else cof out j)) (i : Int) ((kk : Int) - 1)) R
  | 0, _ => by
    obtain ⟨K, h⟩ := hR
    refine ⟨K + 1, fun k hk => ?_⟩
    obtain ⟨k, rfl⟩ : ∃ m, k = m + 1 := ⟨k - 1, by omega⟩
    simp only [throughK.l4]
    rw [if_neg (by omega), tab_length, if_pos (by omega), if_pos (by omega), if_pos (by omega), show (0 : Int) = ((0 : Nat) : Int) from rfl, rd_tab (by omega), rd_cof]
    simp only [Nat.zero_le, if_true]
    rw [plus_ok (fin0_ok ho _ _) (hd i)]
    simp only [Option.bind_some]
    rw [Int.toNat_natCast, tab_set, w64 (by omega)]
    exact h k (by omega)
  | kk + 1, hkk => by
    obtain ⟨K, h⟩ := th_l4 hd hdl hol ho hi hR kk (by omega)
    refine ⟨K + 1, fun k hk => ?_⟩
    obtain ⟨k, rfl⟩ : ∃ m, k = m + 1 := ⟨k - 1, by omega⟩
    have e : ((kk + 1 : Nat) : Int) - 1 = (kk : Int) := by omega
    rw [e]
    simp only [throughK.l4]
    rw [if_pos (by omega), if_pos (by omega), tab_length, if_pos (by omega), w64 (n := -(i : Int)) (by omega), elementOf_eq]
    simp only [Option.bind_some]
    rw [rd_tab (by omega)]
    rw [if_neg (show ¬ kk + 1 ≤ kk by omega), times_ok (okF_iff.2 (cof_rng ho kk)) (okF_mod _)]
    simp only [Option.bind_some]
    have hset : ∀ v, v = fin0 out i kk → (tab l.length (fun j => if kk + 1 ≤ j then fin0 out i j else cof out j)).set kk v = tab l.length (fun j => if kk ≤ j then fin0 out i j else cof out j) := by
      intro v hv
      rw [tab_set]
      refine tab_congr fun j _ => ?_
      by_cases hj : j = kk
      · subst hj; rw [if_pos rfl, if_pos (Nat.le_refl _), hv]
      · rw [if_neg hj]
        by_cases hj2 : kk + 1 ≤ j
        · rw [if_pos hj2, if_pos (by omega)]
        · rw [if_neg hj2, if_neg (by omega)]
    by_cases h0 : kk = 0
    · subst h0
      rw [if_neg (by omega), Int.toNat_natCast, hset _ (by rw [fin0, if_neg (by omega)]), w64 (by omega)]
      exact h k (by omega)
    · have e2 : (kk : Int) - 1 = ((kk - 1 : Nat) : Int) := by omega
      rw [if_pos (by omega), w64 (by omega), if_pos (by omega), if_pos (by omega), e2, rd_tab (by omega), if_neg (show ¬ kk + 1 ≤ kk - 1 by omega), plus_ok (okF_mod _) (okF_iff.2 (cof_rng ho _))]
      simp only [Option.bind_some]
      rw [Int.toNat_natCast, hset _ (by rw [fin0, if_pos (by omega)]), ← e2]
      exact h k (by omega)
theorem th_l3 {d : List Int} (hd : ∀ j, okF (cof d j) = true) (hdl : d.length = 9) : ∀ (m : Nat) (out : List Int), m ≤ l.length → out.length = l.length → allOk out = true →
    Ev (fun k => throughK.l3 k l d out ((m : Int) - 1)) (fin (cof d) l.length out m)
  | 0, out, _, _, _ => by
    refine ⟨1, fun k hk => ?_⟩
    obtain ⟨k, rfl⟩ : ∃ m, k = m + 1 := ⟨k - 1, by omega⟩
    simp only [throughK.l3]
    rw [if_neg (by omega)]; rfl
  | m + 1, out, hm, hol, ho => by
    have h3 := th_l3 hd hdl m (finS (cof d) l.length out m) (by omega) (finS_length _ _ _ _) (finS_ok _ _ ho _)
    obtain ⟨K, h⟩ := th_l4 hl hn hd hdl hol ho (i := m) (by omega) h3 l.length (Nat.le_refl _)
    have e1 : tab l.length (fun j => if l.length ≤ j then fin0 out m j else cof out j) = out := by
      have : tab l.length (fun j => if l.length ≤ j then fin0 out m j else cof out j) = tab l.length (cof out) := tab_congr fun j hj => by rw [if_neg (by omega)]
      rw [this, ← hol, tab_of]
    dsimp only at h
    rw [e1] at h
    refine ⟨K + 1, fun k hk => ?_⟩
    obtain ⟨k, rfl⟩ : ∃ m, k = m + 1 := ⟨k - 1, by omega⟩
    have e : ((m + 1 : Nat) : Int) - 1 = (m : Int) := by omega
    dsimp only
    rw [e, throughK.l3, if_pos (by omega), w64 (by omega)]
    exact h k (by omega)
theorem th_l2 {R : List Int} {s : Nat} (hs : 1 ≤ s) (hsn : s < l.length) (hR : Ev (fun k => throughK.l1 k l (tab 9 (stA l l.length (s + 1))) ((s : Int) + 1)) R) : ∀ (t i : Nat), i + 1 = s + t → i < l.length →
    Ev (fun k => throughK.l2 k l (tab 9 (stB l l.length s i)) (s : Int) (i : Int)) R
  | 0, i, hi, hil => by
    obtain ⟨K, h⟩ := hR
    refine ⟨K + 1, fun k hk => ?_⟩
    obtain ⟨k, rfl⟩ : ∃ m, k = m + 1 := ⟨k - 1, by omega⟩
    simp only [throughK.l2]
    rw [if_neg (by omega), w64 (by omega)]
    have e : tab 9 (stB l l.length s i) = tab 9 (stA l l.length (s + 1)) := tab_congr fun j _ => by
      unfold stB stA
      by_cases h1 : j < l.length
      · rw [if_pos h1, if_pos h1]
        by_cases h2 : j < s
        · rw [if_pos h2, if_pos (by omega)]
        · rw [if_neg h2, if_pos (by omega)]
          by_cases h3 : j < s + 1
          · rw [if_pos h3, show j = s by omega]; rfl
          · rw [if_neg h3]; rfl
      · rw [if_neg h1, if_neg h1]
    rw [e]
    exact h k (by omega)
  | t + 1, i, hi, hil => by
    obtain ⟨K, h⟩ := th_l2 hs hsn hR t (i - 1) (by omega) (by omega)
    refine ⟨K + 41, fun k hk => ?_⟩
    obtain ⟨k, rfl⟩ : ∃ m, k = m + 1 := ⟨k - 1, by omega⟩
    have e : (i : Int) - 1 = ((i - 1 : Nat) : Int) := by omega
    simp only [throughK.l2]
    rw [if_pos (by omega), if_pos (by omega), tab_length, if_pos (by omega), w64 (n := (i : Int) - 1) (by omega), if_pos (by omega), if_pos (by omega), e, rd_tab (by omega), rd_tab (by omega)]
    have b1 : stB l l.length s i i = D l (s - 1) i := by unfold stB; rw [if_pos hil, if_neg (by omega), if_neg (by omega)]
    have b2 : stB l l.length s i (i - 1) = D l (s - 1) (i - 1) := by
      unfold stB; rw [if_pos (by omega)]
      by_cases h1 : i - 1 < s
      · rw [if_pos h1, show i - 1 = s - 1 by omega]; rfl
      · rw [if_neg h1, if_neg (by omega)]
    rw [b1, b2, minusP (D_ok hl _ _) (D_ok hl _ _)]
    simp only [Option.bind_some]
    rw [inverseP (okF_iff.2 (by omega)) k (by omega)]
    simp only [Option.bind_some]
    rw [times_ok (okF_mod _) (inv_ok (okF_iff.2 (by omega)))]
    simp only [Option.bind_some]
    have e2 : (tab 9 (stB l l.length s i)).set (i : Int).toNat (((D l (s - 1) i - D l (s - 1) (i - 1)) % 31 * inv31 (s : Int)) % 31) = tab 9 (stB l l.length s (i - 1)) := by
      rw [Int.toNat_natCast, tab_set]
      refine tab_congr fun j _ => ?_
      by_cases h1 : j = i
      · subst h1
        rw [if_pos rfl]
        unfold stB
        rw [if_pos hil, if_neg (by omega), if_pos (by omega)]
        obtain ⟨s, rfl⟩ : ∃ m, s = m + 1 := ⟨s - 1, by omega⟩
        rfl
      · rw [if_neg h1]
        unfold stB
        by_cases h2 : j < l.length
        · rw [if_pos h2, if_pos h2]
          by_cases h3 : j < s
          · rw [if_pos h3, if_pos h3]
          · rw [if_neg h3, if_neg h3]
            by_cases h4 : i < j
            · rw [if_pos h4, if_pos (by omega)]
            · rw [if_neg h4, if_neg (by omega)]
        · rw [if_neg h2, if_neg h2]
    rw [e2]
    exact h k (by omega)
theorem stA_ok (s j : Nat) : okF (stA l l.length s j) = true := by
  unfold stA dd; (repeat' split) <;> first | exact D_ok hl _ _ | rfl
theorem th_l1 : ∀ (t s : Nat), 1 ≤ s → s + t = (if l.length = 0 then 1 else l.length) → Ev (fun k => throughK.l1 k l (tab 9 (stA l l.length s)) (s : Int)) (newton l)
  | 0, s, hs, hst => by
    have hd : ∀ j, okF (cof (tab 9 (stA l l.length s)) j) = true := fun j => by
      by_cases hj : j < 9
      · rw [tab_cof hj]; exact stA_ok hl hn s j
      · rw [cof_out (by rw [tab_length]; omega)]; rfl
    have hz : allOk (List.replicate l.length (0 : Int)) = true := allOk_iff.2 fun x hx => by rw [(List.mem_replicate.1 hx).2]; rfl
    obtain ⟨K, h⟩ := th_l3 hl hn hd (tab_length _ _) l.length (List.replicate l.length 0) (Nat.le_refl _) (by simp) hz
    have e : ∀ (m : Nat) (out : List Int), m ≤ l.length → fin (cof (tab 9 (stA l l.length s))) l.length out m = fin (dd l) l.length out m := by
      intro m
      induction m with
      | zero => intro _ _; rfl
      | succ m ih =>
        intro out hm
        rw [fin, fin]
        have : finS (cof (tab 9 (stA l l.length s))) l.length out m = finS (dd l) l.length out m := by
          unfold finS
          refine tab_congr fun j _ => ?_
          have : cof (tab 9 (stA l l.length s)) m = dd l m := by
            rw [tab_cof (by omega)]; unfold stA; rw [if_pos (by omega)]
            have : l.length ≠ 0 := by omega
            rw [if_neg this] at hst
            rw [if_pos (by omega)]
          rw [this]
        rw [this]; exact ih _ (by omega)
    refine ⟨K + 1, fun k hk => ?_⟩
    obtain ⟨k, rfl⟩ : ∃ m, k = m + 1 := ⟨k - 1, by omega⟩
    dsimp only
    rw [throughK.l1]
    have hge : ¬ (s : Int) < (l.length : Int) := by split at hst <;> omega
    rw [if_neg hge, if_pos (by omega), Int.toNat_natCast, if_pos (by omega), w64 (by omega)]
    refine (h k (by omega)).trans ?_
    rw [e _ _ (Nat.le_refl _)]; rfl
  | t + 1, s, hs, hst => by
    have hn0 : l.length ≠ 0 := by intro h0; rw [if_pos h0] at hst; omega
    rw [if_neg hn0] at hst
    have h1 := th_l1 t (s + 1) (by omega) (by rw [if_neg hn0]; omega)
    obtain ⟨K, h⟩ := th_l2 hl hn hs (by omega) h1 (l.length - s) (l.length - 1) (by omega) (by omega)
    have e : tab 9 (stB l l.length s (l.length - 1)) = tab 9 (stA l l.length s) := tab_congr fun j _ => by
      unfold stB stA
      by_cases h1 : j < l.length
      · rw [if_pos h1, if_pos h1]
        by_cases h2 : j < s
        · rw [if_pos h2, if_pos h2]
        · rw [if_neg h2, if_neg h2, if_neg (by omega)]
      · rw [if_neg h1, if_neg h1]
    dsimp only at h
    rw [e] at h
    refine ⟨K + 1, fun k hk => ?_⟩
    obtain ⟨k, rfl⟩ : ∃ m, k = m + 1 := ⟨k - 1, by omega⟩
    dsimp only
    rw [throughK.l1, if_pos (by omega), w64 (by omega), show (l.length : Int) - 1 = ((l.length - 1 : Nat) : Int) by omega]
    exact h k (by omega)
theorem th_l0 : ∀ (t i : Nat), i + t = l.length → Ev (fun k => throughK.l0 k l (tab 9 (fun j => if j < i then cof l j else 0)) l (l.length : Int) (i : Int)) (newton l)
  | 0, i, hi => by
    obtain ⟨K, h⟩ := th_l1 hl hn ((if l.length = 0 then 1 else l.length) - 1) 1 (Nat.le_refl _) (by split <;> omega)
    have e : tab 9 (fun j => if j < i then cof l j else 0) = tab 9 (stA l l.length 1) := tab_congr fun j _ => by
      unfold stA dd
      by_cases h1 : j < l.length
      · rw [if_pos (by omega), if_pos h1]
        by_cases h2 : j < 1
        · rw [if_pos h2, show j = 0 by omega]; rfl
        · rw [if_neg h2]; rfl
      · rw [if_neg (by omega), if_neg h1]
    refine ⟨K + 1, fun k hk => ?_⟩
    obtain ⟨k, rfl⟩ : ∃ m, k = m + 1 := ⟨k - 1, by omega⟩
    dsimp only
    rw [throughK.l0, if_neg (by omega), e]
    exact h k (by omega)
  | t + 1, i, hi => by
    obtain ⟨K, h⟩ := th_l0 t (i + 1) (by omega)
    refine ⟨K + 1, fun k hk => ?_⟩
    obtain ⟨k, rfl⟩ : ∃ m, k = m + 1 := ⟨k - 1, by omega⟩
    dsimp only
    rw [throughK.l0, if_pos (by omega), if_pos (by omega), if_pos (by omega), tab_length, if_pos (by omega), rd_cof, Int.toNat_natCast, tab_set, w64 (by omega)]
    have e : tab 9 (fun j => if j = i then cof l i else if j < i then cof l j else 0) = tab 9 (fun j => if j < i + 1 then cof l j else 0) := tab_congr fun j _ => by
      by_cases h1 : j = i
      · subst h1; rw [if_pos rfl, if_pos (by omega)]
      · rw [if_neg h1]
        by_cases h2 : j < i
        · rw [if_pos h2, if_pos (by omega)]
        · rw [if_neg h2, if_neg (by omega)]
    rw [e]
    exact h k (by omega)
theorem through_ev : impl_through.f l = some (newton l) := by
  obtain ⟨K, h⟩ := th_l0 hl hn l.length 0 (by omega)
  have e : tab 9 (fun j => if j < 0 then cof l j else 0) = List.replicate 9 0 := by rw [← tab_zero]; exact tab_congr fun j _ => by simp
  dsimp only at h
  rw [e] at h
  refine impl_through.of (k := K) ?_
  unfold throughK.f
  rw [if_pos (by omega)]
  exact h K (Nat.le_refl _)
theorem newton_spec : (newton l).length = l.length ∧ allOk (newton l) = true ∧ ∀ i : Nat, i < l.length → ev (newton l) (i : Int) % 31 = cof l i := by
  have hz : allOk (List.replicate l.length (0 : Int)) = true := allOk_iff.2 fun x hx => by rw [(List.mem_replicate.1 hx).2]; rfl
  have hc : ∀ j, cof (List.replicate l.length (0 : Int)) j = 0 := fun j => by
    by_cases hj : j < l.length
    · rw [cof_in (by simpa using hj)]; simp
    · exact cof_out (by simp; omega)
  have hs := fun x => fin_spec (dd l) l.length x l.length (List.replicate l.length 0) (Nat.le_refl _) (by simp) hz (fun j _ => hc j)
  refine ⟨(hs 0).1, (hs 0).2.1, fun i hi => ?_⟩
  rw [newton, (hs (i : Int)).2.2, ev_zero hc, Int.mul_zero, Int.add_zero]
  have h1 := newton_value l i l.length 0 hi (by omega)
  have e : (fun s => D l s (0 + s)) = dd l := by funext s; rw [Nat.zero_add]; rfl
  rw [e, Nat.zero_add] at h1
  rw [h1]
  have := cof_rng hl i
  show cof l i % 31 = cof l i
  omega
end

end Go.Proofs.Ytdamainjflpgpaa.P

/- What the reference's interpolation computes: a polynomial of as many numbers as there are values, with these values at 0, 1, 2, .. Conditions: at most 9 values, each a number of the field. -/
namespace Go.Proofs.Ytdamainjflpgpaa.P
open Go.RowKit Go.Proofs.Ytdamainjflpgpaa.Num Go.Proofs.YtdamainjflpgpaaW.PrintWords
set_option linter.unusedSimpArgs false
set_option linter.unusedVariables false
set_option linter.unusedSectionVars false

def lfac (i j : Nat) : List Int := [((((0 : Int) - (j : Int)) % 31) * inv31 (((i : Int) - (j : Int)) % 31)) % 31, inv31 (((i : Int) - (j : Int)) % 31)]
theorem lfac_ok (i j : Nat) : allOk (lfac i j) = true := by
  rw [allOk_iff]; intro x hx
  simp only [lfac, List.mem_cons, List.not_mem_nil, or_false] at hx
  rcases hx with rfl | rfl
  · exact okF_mod _
  · exact inv_ok (okF_mod _)
theorem lfac_ev (i j : Nat) (x : Int) : ev (lfac i j) x % 31 = ((x - (j : Int)) * inv31 (((i : Int) - (j : Int)) % 31)) % 31 := by
  unfold lfac
  generalize inv31 (((i : Int) - (j : Int)) % 31) = v
  have h1 : (((0 : Int) - (j : Int)) % 31 * v) % 31 = (-(j : Int) * v) % 31 := by
    rw [Int.mul_emod, Int.emod_emod_of_dvd _ (Int.dvd_refl 31), ← Int.mul_emod, Int.zero_sub]
  simp only [ev, Int.mul_zero, Int.add_zero]
  rw [h1]
  have h2 : (x - (j : Int)) * v = -(j : Int) * v + x * v := by grind
  rw [h2]
  generalize -(j : Int) * v = a
  generalize x * v = b
  omega
/-- The polynomial that is 1 at i, 0 at the others below j. -/
def lp (i : Nat) : Nat → List Int
  | 0 => [1]
  | j + 1 => if j = i then lp i j else prod (lp i j) (lfac i j)
theorem lp_ok (i : Nat) : ∀ j, allOk (lp i j) = true
  | 0 => rfl
  | j + 1 => by rw [lp]; split; exact lp_ok i j; exact prod_ok _ _
theorem lp_length (i : Nat) : ∀ j, (lp i j).length = if i < j then j else j + 1
  | 0 => by simp [lp]
  | j + 1 => by
    have h := lp_length i j
    rw [lp]
    by_cases e : j = i
    · rw [if_pos e, h, if_neg (by omega), if_pos (by omega)]
    · rw [if_neg e, prod_length, h]
      have : (lfac i j).length = 2 := rfl
      rw [this]
      by_cases h2 : i < j
      · rw [if_pos h2, if_neg (by omega), if_pos (by omega)]; omega
      · rw [if_neg h2, if_neg (by omega), if_neg (by omega)]; omega
theorem lp_one {i : Nat} (hi : i ≤ 30) : ∀ j, j ≤ 31 → ev (lp i j) (i : Int) % 31 = 1
  | 0, _ => by simp [lp, ev]
  | j + 1, hj => by
    have h := lp_one hi j (by omega)
    rw [lp]
    by_cases e : j = i
    · rw [if_pos e, h]
    · rw [if_neg e, prod_ev]
      have h1 : (((i : Int) - (j : Int)) * inv31 (((i : Int) - (j : Int)) % 31)) % 31 = 1 := by
        have := inv_one (a := ((i : Int) - (j : Int)) % 31) (okF_mod _) (by omega)
        rw [Int.mul_emod, Int.emod_emod_of_dvd _ (Int.dvd_refl 31), ← Int.mul_emod] at this
        exact this
      have h2 := lfac_ev i j (i : Int)
      rw [h1] at h2
      rw [Int.mul_emod, h, h2]; rfl
theorem lp_none {i : Nat} : ∀ (j m : Nat), m < j → m ≠ i → ev (lp i j) (m : Int) % 31 = 0
  | 0, m, h, _ => absurd h (by omega)
  | j + 1, m, h, hm => by
    rw [lp]
    by_cases e : j = i
    · rw [if_pos e]; exact lp_none j m (by omega) hm
    · rw [if_neg e, prod_ev]
      by_cases hmj : m = j
      · subst hmj
        have h2 := lfac_ev i m (m : Int)
        rw [Int.sub_self, Int.zero_mul] at h2
        rw [Int.mul_emod, h2]; simp
      · rw [Int.mul_emod, lp_none j m (by omega) hm]; simp

def lagS (l out : List Int) (i : Nat) : List Int := tab l.length (fun k => (cof out k + cof l i * cof (lp i l.length) k) % 31)
def lag (l : List Int) : Nat → List Int
  | 0 => List.replicate l.length 0
  | i + 1 => lagS l (lag l i) i
def lagr (l : List Int) : List Int := lag l l.length
theorem lag_length (l : List Int) : ∀ i, (lag l i).length = l.length
  | 0 => by simp [lag]
  | i + 1 => tab_length _ _
theorem lag_ok (l : List Int) : ∀ i, allOk (lag l i) = true
  | 0 => allOk_iff.2 fun x hx => by rw [(List.mem_replicate.1 hx).2]; rfl
  | i + 1 => tab_ok _ _

section
variable {l : List Int} (hl : allOk l = true) (hn : l.length ≤ 9)
include hl hn
theorem lag_ev : ∀ (i m : Nat), i ≤ l.length → m < l.length → ev (lag l i) (m : Int) % 31 = if m < i then cof l m else 0
  | 0, m, _, hm => by
    rw [if_neg (by omega), lag, ev_zero]; rfl
    intro j
    by_cases hj : j < l.length
    · rw [cof_in (by simpa using hj)]; simp
    · exact cof_out (by simp; omega)
  | i + 1, m, hi, hm => by
    have hlp : (lp i l.length).length = l.length := by rw [lp_length, if_pos (by omega)]
    have h1 : ev (lag l (i + 1)) (m : Int) % 31 = ev (tab l.length (fun k => cof (lag l i) k + cof l i * cof (lp i l.length) k)) (m : Int) % 31 := by
      refine ev_mod (by rw [lag_length, tab_length]) (fun j => ?_) _
      by_cases hj : j < l.length
      · rw [lag, lagS, tab_cof hj, tab_cof hj, Int.emod_emod_of_dvd _ (Int.dvd_refl 31)]
      · rw [cof_out (by rw [lag_length]; omega), cof_out (by rw [tab_length]; omega)]
    have h2 : tab l.length (cof (lag l i)) = lag l i := by have := tab_of (lag l i); rw [lag_length] at this; exact this
    have h3 : tab l.length (cof (lp i l.length)) = lp i l.length := by have := tab_of (lp i l.length); rw [hlp] at this; exact this
    rw [h1, ev_tab_add, ev_tab_mul, h2, h3]
    have h4 := lag_ev i m (by omega) hm
    have hr := cof_rng hl i
    by_cases e : m = i
    · subst e
      have h5 := lp_one (i := m) (by omega) l.length (by omega)
      rw [if_neg (by omega)] at h4
      rw [if_pos (by omega), Int.add_emod, h4, Int.mul_emod, h5]
      simp; omega
    · have h5 := lp_none (i := i) l.length m hm e
      have h6 : (cof l i * ev (lp i l.length) (m : Int)) % 31 = 0 := by rw [Int.mul_emod, h5]; simp
      rw [Int.add_emod, h4, h6]
      have hr2 := cof_rng hl m
      by_cases h7 : m < i
      · rw [if_pos h7, if_pos (by omega)]; omega
      · rw [if_neg h7, if_neg (by omega)]; rfl
theorem lagr_spec : (lagr l).length = l.length ∧ allOk (lagr l) = true ∧ ∀ i : Nat, i < l.length → ev (lagr l) (i : Int) % 31 = cof l i := by
  refine ⟨lag_length _ _, lag_ok _ _, fun i hi => ?_⟩
  rw [lagr, lag_ev hl hn _ i (Nat.le_refl _) hi, if_pos hi]

theorem la_l2 {R : List Int} {i : Nat} (hi : i < l.length) {out : List Int} (hol : out.length = l.length) (ho : allOk out = true) (hR : Ev (fun k => spec_l2Through.l0 k l (lagS l out i) ((i : Int) + 1)) R) : ∀ (t q : Nat), q + t = l.length →
    Ev (fun k => spec_l2Through.l2 k l (tab l.length (fun j => if j < q then (cof out j + cof l i * cof (lp i l.length) j) % 31 else cof out j)) (i : Int) (lp i l.length) (q : Int)) R
  | 0, q, hq => by
    obtain ⟨K, h⟩ := hR
    have hlp : (lp i l.length).length = l.length := by rw [lp_length, if_pos (by omega)]
    refine ⟨K + 1, fun k hk => ?_⟩
    obtain ⟨k, rfl⟩ : ∃ m, k = m + 1 := ⟨k - 1, by omega⟩
    dsimp only
    rw [spec_l2Through.l2, if_neg (by omega), w64 (by omega)]
    have e : tab l.length (fun j => if j < q then (cof out j + cof l i * cof (lp i l.length) j) % 31 else cof out j) = lagS l out i := tab_congr fun j hj => by rw [if_pos (by omega)]
    rw [e]
    exact h k (by omega)
  | t + 1, q, hq => by
    obtain ⟨K, h⟩ := la_l2 hi hol ho hR t (q + 1) (by omega)
    have hlp : (lp i l.length).length = l.length := by rw [lp_length, if_pos (by omega)]
    refine ⟨K + 1, fun k hk => ?_⟩
    obtain ⟨k, rfl⟩ : ∃ m, k = m + 1 := ⟨k - 1, by omega⟩
    have r1 := cof_rng ho q
    have r2 := cof_rng hl i
    have r3 := cof_rng (lp_ok i l.length) q
    have r4 := mul_rng r2 r3
    dsimp only
    rw [spec_l2Through.l2, if_pos (by omega), if_pos (by omega), tab_length, if_pos (by omega), if_pos (by omega), if_pos (by omega), rd_cof, tab_cof (by omega), rd_cof, rd_cof, if_neg (by omega), w64 (n := cof l i * _) (by omega), w64 (n := cof out q + _) (by omega), tmod_pos (by omega), Int.toNat_natCast, tab_set, w64 (by omega)]
    have e : tab l.length (fun j => if j = q then (cof out q + cof l i * cof (lp i l.length) q) % 31 else if j < q then (cof out j + cof l i * cof (lp i l.length) j) % 31 else cof out j) = tab l.length (fun j => if j < q + 1 then (cof out j + cof l i * cof (lp i l.length) j) % 31 else cof out j) := tab_congr fun j _ => by
      by_cases h1 : j = q
      · subst h1; rw [if_pos rfl, if_pos (by omega)]
      · rw [if_neg h1]
        by_cases h2 : j < q
        · rw [if_pos h2, if_pos (by omega)]
        · rw [if_neg h2, if_neg (by omega)]
    rw [e]
    exact h k (by omega)
theorem la_l1 {R : List Int} {i : Nat} (hi : i < l.length) {out : List Int} (hol : out.length = l.length) (ho : allOk out = true) (hR : Ev (fun k => spec_l2Through.l0 k l (lagS l out i) ((i : Int) + 1)) R) : ∀ (t j : Nat), j + t = l.length →
    Ev (fun k => spec_l2Through.l1 k l out (i : Int) (lp i j) (j : Int)) R
  | 0, j, hj => by
    obtain ⟨K, h⟩ := la_l2 hl hn hi hol ho hR l.length 0 (by omega)
    have e : tab l.length (fun j => if j < 0 then (cof out j + cof l i * cof (lp i l.length) j) % 31 else cof out j) = out := by
      have : tab l.length (fun j => if j < 0 then (cof out j + cof l i * cof (lp i l.length) j) % 31 else cof out j) = tab l.length (cof out) := tab_congr fun j _ => by rw [if_neg (by omega)]
      rw [this, ← hol, tab_of]
    dsimp only at h
    rw [e] at h
    refine ⟨K + 1, fun k hk => ?_⟩
    obtain ⟨k, rfl⟩ : ∃ m, k = m + 1 := ⟨k - 1, by omega⟩
    dsimp only
    rw [spec_l2Through.l1, if_neg (by omega), show j = l.length by omega]
    exact h k (by omega)
  | t + 1, j, hj => by
    obtain ⟨K, h⟩ := la_l1 hi hol ho hR t (j + 1) (by omega)
    dsimp only at h
    by_cases e : j = i
    · rw [lp, if_pos e] at h
      refine ⟨K + 1, fun k hk => ?_⟩
      obtain ⟨k, rfl⟩ : ∃ m, k = m + 1 := ⟨k - 1, by omega⟩
      dsimp only
      rw [spec_l2Through.l1, if_pos (by omega), if_pos (by omega), w64 (by omega)]
      exact h k (by omega)
    · rw [lp, if_neg e] at h
      have hlpl := lp_length i j
      obtain ⟨K2, h2⟩ := l2Mul_ev (a := lp i j) (b := lfac i j) (lp_ok i j) (lfac_ok i j) (by rw [hlpl]; split <;> omega) (by simp [lfac])
      dsimp only at h2
      refine ⟨K + K2 + 41, fun k hk => ?_⟩
      obtain ⟨k, rfl⟩ : ∃ m, k = m + 1 := ⟨k - 1, by omega⟩
      dsimp only
      rw [spec_l2Through.l1, if_pos (by omega), if_neg (by omega), sFieldDif, fdif_ok (okF_iff.2 (by omega)) (okF_iff.2 (by omega))]
      simp only [Option.bind_some]
      rw [l1Inv_eq (okF_mod _) k (by omega)]
      simp only [Option.bind_some]
      rw [sFieldDif, fdif_ok rfl (okF_iff.2 (by omega))]
      simp only [Option.bind_some]
      rw [sFieldMul, fmul_ok (okF_mod _) (inv_ok (okF_mod _))]
      simp only [Option.bind_some]
      have hm := h2 k (by omega)
      unfold lfac at hm
      rw [hm]
      simp only [Option.bind_some]
      rw [w64 (by omega)]
      have := h k (by omega)
      unfold lfac at this
      exact this
theorem la_l0 : ∀ (t i : Nat), i + t = l.length → Ev (fun k => spec_l2Through.l0 k l (lag l i) (i : Int)) (lagr l)
  | 0, i, hi => by
    refine ⟨1, fun k hk => ?_⟩
    obtain ⟨k, rfl⟩ : ∃ m, k = m + 1 := ⟨k - 1, by omega⟩
    dsimp only
    rw [spec_l2Through.l0, if_neg (by omega), show i = l.length by omega]; rfl
  | t + 1, i, hi => by
    have h0 := la_l0 t (i + 1) (by omega)
    obtain ⟨K, h⟩ := la_l1 hl hn (i := i) (by omega) (lag_length l i) (lag_ok l i) h0 l.length 0 (by omega)
    refine ⟨K + 1, fun k hk => ?_⟩
    obtain ⟨k, rfl⟩ : ∃ m, k = m + 1 := ⟨k - 1, by omega⟩
    dsimp only
    rw [spec_l2Through.l0, if_pos (by omega)]
    exact h k (by omega)
theorem l2Through_ev : Ev (fun k => spec_l2Through.f k l) (lagr l) := by
  obtain ⟨K, h⟩ := la_l0 hl hn l.length 0 (by omega)
  refine ⟨K, fun k hk => ?_⟩
  dsimp only
  unfold spec_l2Through.f
  rw [if_pos (by omega), Int.toNat_natCast, if_pos (by omega)]
  exact h k hk
end

end Go.Proofs.Ytdamainjflpgpaa.P

/- PolyThrough, of the program and of the reference: the one polynomial of as many numbers as there are values, with these values; none, where they are no polynomial's. Conditions: lists of fewer than 2^40 numbers. -/
namespace Go.Proofs.Ytdamainjflpgpaa.P
open Go.RowKit Go.Proofs.Ytdamainjflpgpaa.Num Go.Proofs.YtdamainjflpgpaaW.PrintWords

theorem newton_lagr {l : List Int} (hl : allOk l = true) (hn : l.length ≤ 9) : newton l = lagr l := by
  obtain ⟨a1, a2, a3⟩ := newton_spec hl hn
  obtain ⟨b1, b2, b3⟩ := lagr_spec hl hn
  exact same_of_values (n := l.length) (by omega) a1 b1 a2 b2 fun i hi => by rw [a3 i hi, b3 i hi]
def polyThrough (l : List Int) : List Int := if polyOk l then lagr l else []
theorem polyThrough_length (l : List Int) : (polyThrough l).length ≤ 9 := by
  unfold polyThrough
  split
  · rename_i h
    obtain ⟨h1, h2⟩ := polyOk_iff.1 h
    rw [(lagr_spec h1 h2).1]; exact h2
  · simp
theorem iPolyThrough (l : List Int) : impl_PolyThrough.f l = some (polyThrough l) := by
  unfold impl_PolyThrough.f polyThrough
  rw [iPolyOk]
  cases h : polyOk l
  · rfl
  · obtain ⟨h1, h2⟩ := polyOk_iff.1 h
    simp only [Option.bind_some, if_true]
    rw [through_ev h1 h2, newton_lagr h1 h2]; rfl
theorem sPolyThrough (l : List Int) (hm : l.length < 1099511627776) : Ev (fun k => spec_PolyThrough.f k l) (polyThrough l) := by
  obtain ⟨K, h⟩ := sPolyOk l hm
  dsimp only at h
  unfold polyThrough
  cases hp : polyOk l
  · exact ⟨K, fun k hk => by dsimp only; unfold spec_PolyThrough.f; rw [h k hk, hp]; rfl⟩
  · obtain ⟨h1, h2⟩ := polyOk_iff.1 hp
    obtain ⟨K2, h3⟩ := l2Through_ev h1 h2
    dsimp only at h3
    exact ⟨K + K2, fun k hk => by dsimp only; unfold spec_PolyThrough.f; rw [h k (by omega), hp]; simp only [Option.bind_some, if_true]; rw [h3 k (by omega)]; rfl⟩

end Go.Proofs.Ytdamainjflpgpaa.P
