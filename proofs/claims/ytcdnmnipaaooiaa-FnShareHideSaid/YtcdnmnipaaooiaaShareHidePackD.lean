import Derived.Test.YtcdnmnipaaooiaaKitG
import Derived.Test.YtcdnmnipaaooiaaShareHidePackA
import Derived.Test.YtcdnmnipaaooiaaShareHidePackB
import Derived.KernelRfl
import Derived.Test.YtcdnmnipaaooiaaKitI
import Derived.Test.YtcdnmnipaaooiaaShareHidePackC
import Derived.SizedLaws
import Derived.ChangeSlices
-- Written by a program of this session (wip/tools/pack.py): texts of this seat laid one behind the other, without what the claim does not reach
section
namespace Go.Proofs.Ytcdnmnipaaooiaa.P
open Go.RowKit Go.Proofs.Ytcdnmnipaaooiaa.Num
/-- A number of the field. -/
def okF (a : Int) : Bool := decide (0 ≤ a ∧ a ≤ 30)
def fsum (a b : Int) : Int := if okF a && okF b then (a + b) % 31 else 0
def fdif (a b : Int) : Int := if okF a && okF b then (a - b) % 31 else 0
theorem okF_iff {a : Int} : okF a = true ↔ 0 ≤ a ∧ a ≤ 30 := by simp [okF]
theorem okF_mod (a : Int) : okF (a % 31) = true := by rw [okF_iff]; omega
theorem fsum_ok {a b : Int} (ha : okF a = true) (hb : okF b = true) : fsum a b = (a + b) % 31 := by simp [fsum, ha, hb]
theorem fdif_ok {a b : Int} (ha : okF a = true) (hb : okF b = true) : fdif a b = (a - b) % 31 := by simp [fdif, ha, hb]
theorem okF_fsum (a b : Int) : okF (fsum a b) = true := by unfold fsum; split; exact okF_mod _; rfl
theorem l6In_eq (a b c : Int) : spec_l6In.f a b c = some (decide (b ≤ a ∧ a ≤ c)) := by
  unfold spec_l6In.f
  by_cases h : a ≥ b
  · rw [if_pos h]; simp [show b ≤ a from h]
  · rw [if_neg h]; simp [show ¬ b ≤ a from h]
theorem within_eq (a b c : Int) : impl_within.f a b c = some (decide (b ≤ a ∧ a ≤ c)) := by
  unfold impl_within.f
  by_cases h : a ≥ b
  · rw [if_pos h]; simp [show b ≤ a from h]
  · rw [if_neg h]; simp [show ¬ b ≤ a from h]
theorem sFieldOk (a : Int) : spec_FieldOk.f a = some (okF a) := by simp [spec_FieldOk.f, l6In_eq, okF]
theorem iFieldOk (a : Int) : impl_FieldOk.f a = some (okF a) := by simp [impl_FieldOk.f, within_eq, okF]
theorem loNum_eq {a : Int} (h : 0 ≤ a) : laws_loNum.f a = some (a % 31) := by unfold laws_loNum.f; rw [tmod_pos h]
theorem elementOf_eq (a : Int) : impl_elementOf.f a = some (a % 31) := by unfold impl_elementOf.f; rw [elem_eq]
theorem plus_eq {a b : Int} (h : -4611686018427387904 ≤ a ∧ a ≤ 4611686018427387903) (h' : -4611686018427387904 ≤ b ∧ b ≤ 4611686018427387903) : impl_element_plus.f a b = some ((a + b) % 31) := by
  unfold impl_element_plus.f; rw [w64 (by omega), elementOf_eq]; rfl
theorem plus_ok {a b : Int} (h : okF a = true) (h' : okF b = true) : impl_element_plus.f a b = some ((a + b) % 31) := by
  rw [okF_iff] at h h'; exact plus_eq (by omega) (by omega)
theorem sFieldDif (a b : Int) : spec_FieldDif.f a b = some (fdif a b) := by
  unfold spec_FieldDif.f fdif
  simp only [sFieldOk, Option.bind_some]
  cases ha : okF a <;> simp only [Bool.false_and, Bool.true_and, Bool.false_eq_true, if_false, if_true]
  cases hb : okF b <;> simp only [Bool.false_eq_true, if_false, if_true]
  rw [okF_iff] at ha hb
  rw [w64 (n := a + 31) (by omega), w64 (by omega), tmod_pos (by omega)]
  congr 1; omega
theorem iFieldSum (a b : Int) : impl_FieldSum.f a b = some (fsum a b) := by
  unfold impl_FieldSum.f fsum
  simp only [iFieldOk, Option.bind_some]
  cases ha : okF a <;> simp only [Bool.false_and, Bool.true_and, Bool.false_eq_true, if_false, if_true]
  cases hb : okF b <;> simp only [Bool.false_eq_true, if_false, if_true]
  rw [plus_ok ha hb]; rfl
end Go.Proofs.Ytcdnmnipaaooiaa.P
end

section
namespace Go.Proofs.Ytcdnmnipaaooiaa.P
open Go.RowKit Go.Proofs.Ytcdnmnipaaooiaa.Num Go.Proofs.YtcdnmnipaaooiaaW.PrintWords
/-- A code's bytes. -/
def Bytes (l : List Int) : Prop := ∀ x ∈ l, 0 ≤ x ∧ x ≤ 255
theorem bytes_of {l : List Int} (h : ∀ x ∈ l, (Lit.int .u8 x).wf = true) : Bytes l := fun x hx => bounds_u8 (h x hx)
theorem Bytes.take {l : List Int} (h : Bytes l) (n : Nat) : Bytes (l.take n) := fun x hx => h x (List.mem_of_mem_take hx)
theorem Bytes.rd {l : List Int} (h : Bytes l) (i : Int) : 0 ≤ rd l i ∧ rd l i ≤ 255 := by
  unfold Go.Proofs.YtcdnmnipaaooiaaW.PrintWords.rd
  rw [List.getD_eq_getElem?_getD]
  cases e : l[i.toNat]? with
  | none => simp
  | some x => exact h x (List.mem_of_getElem? e)
/-- The reader, behind its opening: it has not read much. -/
structure Rd (l : List Int) (p : Int) : Prop where
  bytes : Bytes l
  len : l.length ≤ 2000
  lo : 0 ≤ p
  hi : p ≤ 1000000
theorem open_ev {l : List Int} (h : Bytes l) : ∃ b, spec_l6Open.f l = some (b, 0) ∧ Bytes b ∧ b.length ≤ 2000 := by
  unfold spec_l6Open.f
  by_cases hl : (l.length : Int) > 2000
  · rw [if_pos hl, if_pos (by omega)]
    exact ⟨_, rfl, h.take _, by simp; omega⟩
  · rw [if_neg hl]
    exact ⟨_, rfl, h, by omega⟩
theorem pick_ev {l : List Int} {p n : Int} (h : Rd l p) (hn : 1 ≤ n ∧ n ≤ 1000000) :
    ∃ v, (∀ k, 1 ≤ k → spec_l6Rd_pick.f k l p n = some (v, p + 1)) ∧ 0 ≤ v ∧ v < n := by
  obtain ⟨hb, hl, h0, h1⟩ := h
  unfold spec_l6Rd_pick.f
  rw [w64 (n := p + 1) (by omega)]
  simp only [show ¬ n < 1 by omega, if_false]
  by_cases e : l.length = 0
  · refine ⟨0, fun k hk => ?_, by omega, by omega⟩
    obtain ⟨k, rfl⟩ : ∃ m, k = m + 1 := ⟨k - 1, by omega⟩
    simp [spec_l6Rd_pick.j0, e]
  · have e' : ((l.length : Int) == 0) = false := by rw [beq_eq_false_iff_ne]; omega
    rw [e']
    have w1 : wrap64 (p + 1 - 1) = p := by rw [w64 (by omega)]; omega
    by_cases hp : p < (l.length : Int)
    · have hr := hb.rd p
      refine ⟨rd l p % n, fun k hk => ?_, Int.emod_nonneg _ (by omega), Int.emod_lt_of_pos _ (by omega)⟩
      obtain ⟨k, rfl⟩ : ∃ m, k = m + 1 := ⟨k - 1, by omega⟩
      simp only [spec_l6Rd_pick.j0, Bool.false_eq_true, if_false]
      rw [w1, if_pos hp, if_pos h0, if_neg (by omega), w64 (n := rd l p) (by omega), tmod_pos (by omega)]
    · have q1 : Int.tmod p (l.length : Int) = p % (l.length : Int) := tmod_pos h0
      have q2 : wrap64 (wrap64 (p * 7) + 3) = p * 7 + 3 := by rw [w64 (n := p * 7) (by omega), w64 (by omega)]
      have q3 : Int.tmod (p * 7 + 3) (l.length : Int) = (p * 7 + 3) % (l.length : Int) := tmod_pos (by omega)
      have b1 := Int.emod_nonneg p (b := (l.length : Int)) (by omega)
      have b2 := Int.emod_lt_of_pos p (b := (l.length : Int)) (by omega)
      have b3 := Int.emod_nonneg (p * 7 + 3) (b := (l.length : Int)) (by omega)
      have b4 := Int.emod_lt_of_pos (p * 7 + 3) (b := (l.length : Int)) (by omega)
      have r1 := hb.rd (p % (l.length : Int))
      have r2 := hb.rd ((p * 7 + 3) % (l.length : Int))
      have d1 : Int.tdiv p (l.length : Int) = p / (l.length : Int) := Int.tdiv_eq_ediv_of_nonneg h0
      have d2 : 0 ≤ p / (l.length : Int) := Int.ediv_nonneg h0 (by omega)
      have d3 : p / (l.length : Int) ≤ p := Int.ediv_le_self _ h0
      obtain ⟨X, hX⟩ : ∃ X, rd l (p % (l.length : Int)) * 131 + rd l ((p * 7 + 3) % (l.length : Int)) * 1117 + p * 29 + p / (l.length : Int) * 53 = X := ⟨_, rfl⟩
      have hx0 : 0 ≤ X ∧ X ≤ 1000000000 := by omega
      have hxx : wrap64 (wrap64 (wrap64 (wrap64 (wrap64 (rd l (p % (l.length : Int))) * 131) + wrap64 (wrap64 (rd l ((p * 7 + 3) % (l.length : Int))) * 1117)) + wrap64 (p * 29)) + wrap64 (wrap64 (p / (l.length : Int)) * 53)) = X := by
        rw [w64 (n := rd l (p % (l.length : Int))) (by omega), w64 (n := rd l ((p * 7 + 3) % (l.length : Int))) (by omega), w64 (n := rd l (p % (l.length : Int)) * 131) (by omega), w64 (n := rd l ((p * 7 + 3) % (l.length : Int)) * 1117) (by omega), w64 (n := p * 29) (by omega), w64 (n := p / (l.length : Int)) (by omega), w64 (n := p / (l.length : Int) * 53) (by omega), w64 (n := rd l (p % (l.length : Int)) * 131 + _) (by omega), w64 (n := rd l (p % (l.length : Int)) * 131 + _ + _) (by omega), w64 (by omega)]
        exact hX
      have hd : wrap64 (Int.tdiv X 64) = X / 64 := by rw [Int.tdiv_eq_ediv_of_nonneg hx0.1, w64 (by omega)]
      have hxr := xor_nonneg (x := X) (y := X / 64) (by omega) (by omega)
      refine ⟨bits .xor .i64 X (X / 64) % n, fun k hk => ?_, Int.emod_nonneg _ (by omega), Int.emod_lt_of_pos _ (by omega)⟩
      obtain ⟨k, rfl⟩ : ∃ m, k = m + 1 := ⟨k - 1, by omega⟩
      simp only [spec_l6Rd_pick.j0, Bool.false_eq_true, if_false]
      rw [w1, if_neg hp, if_neg (by omega), q1, q2, q3, d1, if_pos b1, if_pos b2, if_pos b3, if_pos b4, if_neg (by omega), hxx, hd, tmod_pos hxr]
theorem Rd.next {l : List Int} {p : Int} (h : Rd l p) (hp : p < 1000000) : Rd l (p + 1) := ⟨h.bytes, h.len, by have := h.lo; omega, by omega⟩
end Go.Proofs.Ytcdnmnipaaooiaa.P
end

section
namespace Go.Proofs.Ytcdnmnipaaooiaa.P
open Go.RowKit Go.Proofs.Ytcdnmnipaaooiaa.Num Go.Proofs.YtcdnmnipaaooiaaW.PrintWords
theorem list_l0 {c : List Int} (n : Nat) (hn : n ≤ 100) : ∀ (l : List Int) (p : Int), l.length + n ≤ 200 → Rd c p → p + n ≤ 800000 → ∃ r q, (Ev (fun k => spec_l91List.l0 k l (n : Int) c p) (r, q)) ∧ r.length = l.length + n ∧ p ≤ q ∧ q ≤ p + n + 3 := by
  induction n with
  | zero =>
    intro l p hl h hp
    by_cases h0 : l.length = 0
    · refine ⟨l, p, ⟨2, fun k hk => ?_⟩, by omega, by omega, by omega⟩
      obtain ⟨k, rfl⟩ : ∃ m, k = m + 2 := ⟨k - 2, by omega⟩
      simp only [spec_l91List.l0]
      rw [if_neg (by omega), if_neg (by omega)]; rfl
    · obtain ⟨v, e, a, b⟩ := pick_ev h (n := 40) (by omega)
      have h1 := h.next (by omega)
      obtain ⟨v1, e1, a1, b1⟩ := pick_ev h1 (n := (l.length : Int)) (by omega)
      have h2 := h1.next (by omega)
      obtain ⟨v2, e2, a2, b2⟩ := pick_ev h2 (n := 2) (by omega)
      by_cases hv : v = 0
      · refine ⟨l.set v1.toNat (rd [-1, 31] v2), p + 1 + 1 + 1, ⟨3, fun k hk => ?_⟩, by simp, by omega, by omega⟩
        obtain ⟨k, rfl⟩ : ∃ m, k = m + 3 := ⟨k - 3, by omega⟩
        simp only [spec_l91List.l0]
        rw [if_neg (by omega), if_pos (by omega), e _ (by omega)]
        simp only [Option.bind_some, spec_l91List.j1]
        rw [hv, e1 _ (by omega)]
        simp only [Option.bind_some, beq_self_eq_true, if_true]
        rw [e2 _ (by omega)]
        simp only [Option.bind_some]
        rw [if_pos a2, if_pos (by simpa using b2), if_pos a1, if_pos b1]
      · refine ⟨l, p + 1, ⟨3, fun k hk => ?_⟩, by omega, by omega, by omega⟩
        obtain ⟨k, rfl⟩ : ∃ m, k = m + 3 := ⟨k - 3, by omega⟩
        simp only [spec_l91List.l0]
        rw [if_neg (by omega), if_pos (by omega), e _ (by omega)]
        simp only [Option.bind_some, spec_l91List.j1]
        rw [beq_eq_false_iff_ne.2 hv]; rfl
  | succ n ih =>
    intro l p hl h hp
    obtain ⟨v, e, a, b⟩ := pick_ev h (n := 31) (by omega)
    obtain ⟨r, q, ⟨K, hK⟩, h1, h2, h3⟩ := ih (by omega) (l ++ [v]) (p + 1) (by simp; omega) (h.next (by omega)) (by omega)
    refine ⟨r, q, ⟨K + 2, fun k hk => ?_⟩, by simp at h1; omega, by omega, by omega⟩
    obtain ⟨k, rfl⟩ : ∃ m, k = m + 1 := ⟨k - 1, by omega⟩
    simp only [spec_l91List.l0]
    rw [if_pos (by omega), e _ (by omega)]
    simp only [Option.bind_some]
    rw [if_pos (by omega), w64 (by omega), show ((n + 1 : Nat) : Int) - 1 = (n : Int) by omega]
    exact hK k (by omega)
theorem list_ev {c : List Int} {p : Int} (m : Nat) (hm : m ≤ 50) (h : Rd c p) (hp : p ≤ 700000) : ∃ r q, (Ev (fun k => spec_l91List.f k c p (m : Int)) (r, q)) ∧ r.length ≤ m ∧ p ≤ q ∧ q ≤ p + 100 := by
  obtain ⟨v, e, a, b⟩ := pick_ev h (n := (m : Int) + 1) (by omega)
  obtain ⟨n, rfl⟩ := Int.eq_ofNat_of_zero_le a
  obtain ⟨r, q, ⟨K, hK⟩, h1, h2, h3⟩ := list_l0 (c := c) n (by omega) [] (p + 1) (by simp; omega) (h.next (by omega)) (by omega)
  refine ⟨r, q, ⟨K + 1, fun k hk => ?_⟩, by simp at h1; omega, by omega, by omega⟩
  dsimp only
  unfold spec_l91List.f
  rw [w64 (by omega), e _ (by omega)]
  exact hK k (by omega)
end Go.Proofs.Ytcdnmnipaaooiaa.P
end

section
namespace Go.Proofs.Ytcdnmnipaaooiaa.P
open Go.RowKit Go.Proofs.Ytcdnmnipaaooiaa.Num
/-- All numbers of the field. -/
def allOk (l : List Int) : Bool := l.all okF
theorem allOk_iff {l : List Int} : allOk l = true ↔ ∀ x ∈ l, okF x = true := by simp [allOk, List.all_eq_true]
/-- The value of a polynomial, over the whole numbers. -/
def ev : List Int → Int → Int
  | [], _ => 0
  | c :: l, x => c + x * ev l x
def cof (l : List Int) (j : Nat) : Int := l.getD j 0
theorem cof_out {l : List Int} {j : Nat} (h : l.length ≤ j) : cof l j = 0 := by simp [cof, List.getD_eq_getElem?_getD, List.getElem?_eq_none h]
theorem cof_in {l : List Int} {j : Nat} (h : j < l.length) : cof l j = l[j] := by simp [cof, List.getD_eq_getElem?_getD, List.getElem?_eq_getElem h]
theorem cof_rng {l : List Int} (h : allOk l = true) (j : Nat) : 0 ≤ cof l j ∧ cof l j ≤ 30 := by
  rcases Nat.lt_or_ge j l.length with hj | hj
  · rw [cof_in hj]; exact okF_iff.1 (allOk_iff.1 h _ (List.getElem_mem hj))
  · rw [cof_out hj]; omega
theorem list_of_cof {a b : List Int} (hl : a.length = b.length) (h : ∀ j, j < a.length → cof a j = cof b j) : a = b := by
  apply List.ext_getElem hl
  intro i h1 h2
  have := h i h1
  rwa [cof_in h1, cof_in h2] at this
/-- Coefficient j of the product. -/
def S : List Int → List Int → Nat → Int
  | [], _, _ => 0
  | x :: a, b, j => x * cof b j + match j with | 0 => 0 | j + 1 => S a b j
/-- What is left of a polynomial, one root taken out. -/
def quo (r : Int) : List Int → List Int
  | [] => []
  | [_] => []
  | _ :: c :: l => ev (c :: l) r :: quo r (c :: l)
/-- How many of the numbers from s on, d of them, p holds of. -/
def cntN (p : Nat → Bool) : Nat → Nat → Nat
  | _, 0 => 0
  | s, d + 1 => (if p s then 1 else 0) + cntN p (s + 1) d
/-- The roots among the numbers of the field. -/
def roots (l : List Int) (d : Nat) : Nat := cntN (fun i => decide (ev l (i : Int) % 31 = 0)) 0 d
end Go.Proofs.Ytcdnmnipaaooiaa.P
end

section
namespace Go.Proofs.Ytcdnmnipaaooiaa.P
open Go.RowKit Go.Proofs.Ytcdnmnipaaooiaa.Num Go.Proofs.YtcdnmnipaaooiaaW.PrintWords
/-- What an Ev gives at one number of rounds, and from there on. -/
theorem Ev.at_ {α : Type} {g : Nat → Option α} {r : α} (h : Ev g r) : ∃ K, ∀ k, K ≤ k → g k = some r := h
theorem rd_nat (l : List Int) (i : Nat) : rd l (i : Int) = l.getD i 0 := rfl
theorem rd_lt {l : List Int} {i : Nat} (h : i < l.length) : rd l (i : Int) = l[i] := by simp [rd_nat, List.getD_eq_getElem?_getD, List.getElem?_eq_getElem h]
/-- Two lists of one length are the same from i on. -/
theorem drop_eq {a b : List Int} {i : Nat} (ha : i < a.length) (hb : i < b.length) : a.drop i = b.drop i ↔ a[i] = b[i] ∧ a.drop (i + 1) = b.drop (i + 1) := by
  rw [List.drop_eq_getElem_cons ha, List.drop_eq_getElem_cons hb, List.cons.injEq]
theorem loInts_loop (a b : List Int) (hl : a.length = b.length) (hm : a.length < 1099511627776) (d : Nat) : ∀ i : Nat, i + d = a.length → Ev (fun k => laws_loInts.l0 k a b (i : Int)) (decide (a.drop i = b.drop i)) := by
  induction d with
  | zero =>
    intro i hi
    refine ⟨1, fun k hk => ?_⟩
    obtain ⟨k, rfl⟩ : ∃ m, k = m + 1 := ⟨k - 1, by omega⟩
    simp only [laws_loInts.l0]
    rw [if_neg (by omega), List.drop_of_length_le (by omega), List.drop_of_length_le (by omega)]
    simp
  | succ d ih =>
    intro i hi
    have hia : i < a.length := by omega
    have hib : i < b.length := by omega
    obtain ⟨K, h⟩ := ih (i + 1) (by omega)
    refine ⟨K + 1, fun k hk => ?_⟩
    obtain ⟨k, rfl⟩ : ∃ m, k = m + 1 := ⟨k - 1, by omega⟩
    simp only [laws_loInts.l0]
    rw [if_pos (by omega), if_pos (by omega), if_pos (by omega), rd_lt hia, rd_lt hib, w64 (by omega)]
    by_cases e : a[i] = b[i]
    · rw [if_pos e]
      refine (h k (by omega)).trans ?_
      simp [drop_eq hia hib, e]
    · rw [if_neg e]
      simp [drop_eq hia hib, e]
theorem loInts_ev (a b : List Int) (hm : a.length < 1099511627776) : Ev (fun k => laws_loInts.f k a b) (decide (a = b)) := by
  unfold laws_loInts.f
  by_cases hl : a.length = b.length
  · obtain ⟨K, h⟩ := loInts_loop a b hl hm a.length 0 (by omega)
    exact ⟨K, fun k hk => by dsimp only; rw [if_pos (by omega)]; exact h k hk⟩
  · exact ⟨0, fun k _ => by dsimp only; rw [if_neg (by omega)]; simp; intro e; exact hl (by rw [e])⟩
end Go.Proofs.Ytcdnmnipaaooiaa.P
end

section
namespace Go.Proofs.Ytcdnmnipaaooiaa.P
open Go.RowKit Go.Proofs.Ytcdnmnipaaooiaa.Num Go.Proofs.YtcdnmnipaaooiaaW.PrintWords
theorem okN_okF : okN = okF := rfl
def shareOk (l : List Int) : Bool := allOk l && decide (l.length ≤ 20)
theorem shareOk_iff {l : List Int} : shareOk l = true ↔ allOk l = true ∧ l.length ≤ 20 := by simp [shareOk]
theorem allOk_drop {l : List Int} {i : Nat} (h : i < l.length) : allOk (l.drop i) = (okF l[i] && allOk (l.drop (i + 1))) := by
  rw [List.drop_eq_getElem_cons h]; rfl
theorem sShareOk_loop (l : List Int) (hm : l.length < 1099511627776) (d : Nat) : ∀ i : Nat, i + d = l.length → Ev (fun k => spec_ShareOk.l0 k l (i : Int)) (allOk (l.drop i) && decide (l.length ≤ 20)) := by
  induction d with
  | zero =>
    intro i hi
    obtain rfl : i = l.length := by omega
    refine ⟨1, fun k hk => ?_⟩
    obtain ⟨k, rfl⟩ : ∃ m, k = m + 1 := ⟨k - 1, by omega⟩
    simp only [spec_ShareOk.l0]
    rw [if_neg (by omega), List.drop_length]
    congr 1
    simp [allOk]; omega
  | succ d ih =>
    intro i hi
    obtain ⟨K, h⟩ := ih (i + 1) (by omega)
    refine ⟨K + 1, fun k hk => ?_⟩
    obtain ⟨k, rfl⟩ : ∃ m, k = m + 1 := ⟨k - 1, by omega⟩
    have hia : i < l.length := by omega
    simp only [spec_ShareOk.l0]
    rw [if_pos (by omega), if_pos (by omega), rd_lt hia, sFieldOk, allOk_drop hia]
    simp only [Option.bind_some]
    cases ho : okF l[i]
    · simp
    · rw [if_pos rfl, w64 (by omega)]
      exact (h k (by omega)).trans (by simp)
theorem sShareOk (l : List Int) (hm : l.length < 1099511627776) : Ev (fun k => spec_ShareOk.f k l) (shareOk l) := sShareOk_loop l hm l.length 0 (by omega)
end Go.Proofs.Ytcdnmnipaaooiaa.P
end

section
namespace Go.Proofs.Ytcdnmnipaaooiaa.P
open Go.RowKit Go.Proofs.Ytcdnmnipaaooiaa.Num Go.Proofs.YtcdnmnipaaooiaaW.PrintWords
/-- What comes of two lists of field numbers, of one length. -/
def pairOk (a b : List Int) : Bool := shareOk a && shareOk b && decide (a.length = b.length)
theorem okAll_eq (a b : List Int) : okAll a b = pairOk a b := by
  unfold okAll pairOk shareOk allOk
  rw [okN_okF, Bool.and_comm (a.all okF), Bool.and_comm (b.all okF)]
theorem pairOk_iff {a b : List Int} : pairOk a b = true ↔ allOk a = true ∧ a.length ≤ 20 ∧ allOk b = true ∧ b.length = a.length := by
  simp only [pairOk, Bool.and_eq_true, shareOk_iff, decide_eq_true_eq]
  constructor
  · rintro ⟨⟨⟨h1, h2⟩, h3, h4⟩, h5⟩; exact ⟨h1, h2, h3, h5.symm⟩
  · rintro ⟨h1, h2, h3, h4⟩; exact ⟨⟨⟨h1, h2⟩, h3, by omega⟩, h4.symm⟩
theorem both_length (f : Nat) (a b : List Int) : (both f a b).length = a.length := by simp [both]
theorem both_at (f : Nat) (a b : List Int) {i : Nat} (h : i < a.length) : (both f a b)[i]'(by rw [both_length]; exact h) = mk f (cof a i) (cof b i) := by simp [both, outs, cof]
theorem both_take (f : Nat) (a b : List Int) {i : Nat} (h : i < a.length) : (both f a b).take i ++ [mk f (cof a i) (cof b i)] = (both f a b).take (i + 1) := by
  rw [List.take_succ_eq_append_getElem (by rw [both_length]; exact h), both_at f a b h]
theorem mk49 {x y : Int} (hx : 0 ≤ x ∧ x ≤ 30) (hy : 0 ≤ y ∧ y ≤ 30) : mk 49 x y = fdif x y := by
  rw [fdif_ok (okF_iff.2 hx) (okF_iff.2 hy)]
  unfold mk
  rw [if_neg (by decide), if_pos rfl, w64 (by omega)]
theorem both50 {a b : List Int} (h : b.length = a.length) : both 50 a b = b := by
  apply List.ext_getElem (by rw [both_length, h])
  intro i h1 h2
  rw [both_at 50 a b (by omega), cof_in h2]
  rfl
theorem l3Dif_loop {a b : List Int} (ha : allOk a = true) (hb : allOk b = true) (hl : b.length = a.length) (h20 : a.length ≤ 20) (d : Nat) :
    ∀ i : Nat, i + d = a.length → Ev (fun k => spec_l3Dif.l0 k a b ((both 49 a b).take i) (i : Int)) (both 49 a b) := by
  induction d with
  | zero =>
    intro i hi
    refine ⟨1, fun k hk => ?_⟩
    obtain ⟨k, rfl⟩ : ∃ m, k = m + 1 := ⟨k - 1, by omega⟩
    simp only [spec_l3Dif.l0]
    rw [if_neg (by omega), List.take_of_length_le (by rw [both_length]; omega)]
  | succ d ih =>
    intro i hi
    obtain ⟨K, h⟩ := ih (i + 1) (by omega)
    refine ⟨K + 1, fun k hk => ?_⟩
    obtain ⟨k, rfl⟩ : ∃ m, k = m + 1 := ⟨k - 1, by omega⟩
    simp only [spec_l3Dif.l0]
    rw [if_pos (by omega), if_pos (by omega), if_pos (by omega), show rd a (i : Int) = cof a i from rfl, show rd b (i : Int) = cof b i from rfl, sFieldDif, ← mk49 (cof_rng ha i) (cof_rng hb i)]
    simp only [Option.bind_some]
    rw [if_pos (by rw [List.length_take, both_length]; omega), both_take 49 a b (by omega), w64 (by omega)]
    exact h k (by omega)
theorem l3Dif_ev {a b : List Int} (h : pairOk a b = true) : Ev (fun k => spec_l3Dif.f k a b) (both 49 a b) := by
  obtain ⟨h1, h2, h3, h4⟩ := pairOk_iff.1 h
  exact l3Dif_loop h1 h3 h4 h2 a.length 0 (by omega)
theorem share_def (f : Nat) (a b : List Int) : share f a b = if pairOk a b then (both f a b, true) else ([], false) := by unfold share; rw [okAll_eq]
theorem share_len (f : Nat) (a b : List Int) : (share f a b).1.length ≤ 20 := by
  rw [share_def]
  cases h : pairOk a b
  · simp
  · rw [if_pos rfl, both_length]; exact (pairOk_iff.1 h).2.1
/-- What is made for hiding. -/
def madeS (a b : List Int) : List Int × List Int × Bool := if pairOk a b then (both 49 a b, b, true) else ([], [], false)
theorem iShareDrawn (a b : List Int) : impl_ShareDrawn.f a b = some (share 49 a b) := rfl
theorem iShareMake (a b : List Int) : impl_ShareMake.f a b = some (madeS a b) := by
  unfold impl_ShareMake.f madeS
  rw [okAll_eq]
  cases h : pairOk a b
  · rfl
  · rw [if_pos rfl, if_pos rfl, both50 (pairOk_iff.1 h).2.2.2]
theorem sShareDrawn (a b : List Int) (hma : a.length < 1099511627776) (hmb : b.length < 1099511627776) : Ev (fun k => spec_ShareDrawn.f k a b) (share 49 a b) := by
  obtain ⟨K1, h1⟩ := sShareOk a hma
  obtain ⟨K2, h2⟩ := sShareOk b hmb
  dsimp only at h1 h2
  cases h : pairOk a b
  · refine ⟨K1 + K2, fun k hk => ?_⟩
    dsimp only
    unfold spec_ShareDrawn.f
    rw [share_def, h, h1 _ (by omega)]
    simp only [Option.bind_some]
    cases ha : shareOk a
    · rfl
    rw [if_pos rfl, h2 _ (by omega)]
    simp only [Option.bind_some]
    cases hb : shareOk b
    · rfl
    rw [if_pos rfl, if_neg]
    · rfl
    · intro hl
      simp only [pairOk, ha, hb, Bool.true_and, decide_eq_false_iff_not] at h
      omega
  · obtain ⟨K3, h3⟩ := l3Dif_ev h
    dsimp only at h3
    refine ⟨K1 + K2 + K3, fun k hk => ?_⟩
    have h' := h
    simp only [pairOk, Bool.and_eq_true, decide_eq_true_eq] at h'
    dsimp only
    unfold spec_ShareDrawn.f
    rw [share_def, h, h1 _ (by omega), h'.1.1]
    simp only [Option.bind_some, if_true]
    rw [h2 _ (by omega), h'.1.2]
    simp only [Option.bind_some, if_true]
    rw [if_pos (by omega), h3 _ (by omega)]
    rfl
end Go.Proofs.Ytcdnmnipaaooiaa.P
end

section
namespace Go.Proofs.Ytcdnmnipaaooiaa.P
open Go.RowKit Go.Proofs.Ytcdnmnipaaooiaa.Num Go.Proofs.YtcdnmnipaaooiaaW.PrintWords
theorem two_l0 {c a : List Int} (ha : a.length ≤ 50) (d : Nat) : ∀ (l : List Int) (p : Int), l.length + d = a.length → Rd c p → p + d ≤ 800000 → ∃ b q, (Ev (fun k => spec_l91Two.l0 k a l (l.length : Int) c p) (a, b, q)) ∧ b.length ≤ a.length + 1 := by
  induction d with
  | zero =>
    intro l p hl h hp
    obtain ⟨v, e, a0, b0⟩ := pick_ev h (n := 20) (by omega)
    have h1 := h.next (by omega)
    by_cases v0 : v = 0
    · refine ⟨l ++ [1], p + 1, ⟨2, fun k hk => ?_⟩, by simp; omega⟩
      obtain ⟨k, rfl⟩ : ∃ m, k = m + 2 := ⟨k - 2, by omega⟩
      simp only [spec_l91Two.l0]
      rw [if_neg (by omega), e _ (by omega)]
      simp only [Option.bind_some]
      rw [if_pos v0, if_pos (by omega)]
    by_cases v1 : v = 1
    · by_cases hl0 : (l.length : Int) > 0
      · obtain ⟨v2, e2, a2, b2⟩ := pick_ev h1 (n := (l.length : Int)) (by omega)
        refine ⟨l.set v2.toNat (-1), p + 1 + 1, ⟨2, fun k hk => ?_⟩, by simp; omega⟩
        obtain ⟨k, rfl⟩ : ∃ m, k = m + 2 := ⟨k - 2, by omega⟩
        simp only [spec_l91Two.l0]
        rw [if_neg (by omega), e _ (by omega)]
        simp only [Option.bind_some]
        rw [if_neg v0, if_pos v1, if_pos hl0, e2 _ (by omega)]
        simp only [Option.bind_some]
        rw [if_pos a2, if_pos b2]
      · refine ⟨l, p + 1, ⟨2, fun k hk => ?_⟩, by omega⟩
        obtain ⟨k, rfl⟩ : ∃ m, k = m + 2 := ⟨k - 2, by omega⟩
        simp only [spec_l91Two.l0]
        rw [if_neg (by omega), e _ (by omega)]
        simp only [Option.bind_some]
        rw [if_neg v0, if_pos v1, if_neg hl0]
    · refine ⟨l, p + 1, ⟨2, fun k hk => ?_⟩, by omega⟩
      obtain ⟨k, rfl⟩ : ∃ m, k = m + 2 := ⟨k - 2, by omega⟩
      simp only [spec_l91Two.l0]
      rw [if_neg (by omega), e _ (by omega)]
      simp only [Option.bind_some]
      rw [if_neg v0, if_neg v1]
  | succ d ih =>
    intro l p hl h hp
    obtain ⟨v, e, a0, b0⟩ := pick_ev h (n := 31) (by omega)
    obtain ⟨b, q, ⟨K, hK⟩, h1⟩ := ih (l ++ [v]) (p + 1) (by simp; omega) (h.next (by omega)) (by omega)
    refine ⟨b, q, ⟨K + 2, fun k hk => ?_⟩, h1⟩
    obtain ⟨k, rfl⟩ : ∃ m, k = m + 1 := ⟨k - 1, by omega⟩
    simp only [spec_l91Two.l0]
    rw [if_pos (by omega), e _ (by omega)]
    simp only [Option.bind_some]
    rw [if_pos (by omega), w64 (by omega), show (l.length : Int) + 1 = ((l ++ [v]).length : Int) by simp]
    exact hK k (by omega)
theorem two_ev {c : List Int} (hb : Bytes c) (hl : c.length ≤ 2000) : ∃ a b q, (Ev (fun k => spec_l91Two.f k c 0) (a, b, q)) ∧ a.length ≤ 12 ∧ b.length ≤ 13 := by
  obtain ⟨a, q, ⟨K, e⟩, h1, h2, h3⟩ := list_ev (c := c) (p := 0) 12 (by omega) ⟨hb, hl, by omega, by omega⟩ (by omega)
  obtain ⟨b, q', ⟨K2, e'⟩, h4⟩ := two_l0 (c := c) (a := a) (by omega) a.length [] q (by simp) ⟨hb, hl, by omega, by omega⟩ (by omega)
  change ∀ k, K ≤ k → spec_l91List.f k c 0 12 = _ at e
  exact ⟨a, b, q', ⟨K + K2, fun k hk => by dsimp only; unfold spec_l91Two.f; rw [e k (by omega)]; exact e' k (by omega)⟩, h1, by omega⟩
def Vec (n : Nat) (l : List Int) : Prop := allOk l = true ∧ l.length = n
theorem Vec.rng {n : Nat} {l : List Int} (h : Vec n l) (j : Nat) : 0 ≤ cof l j ∧ cof l j ≤ 30 := cof_rng h.1 j
theorem of_pair {a b : List Int} (h : pairOk a b = true) : ∃ n, n ≤ 20 ∧ Vec n a ∧ Vec n b := by
  obtain ⟨h1, h2, h3, h4⟩ := pairOk_iff.1 h
  exact ⟨a.length, h2, ⟨h1, rfl⟩, h3, h4⟩
theorem pair_of {n : Nat} {a b : List Int} (hn : n ≤ 20) (ha : Vec n a) (hb : Vec n b) : pairOk a b = true := pairOk_iff.2 ⟨ha.1, by rw [ha.2]; exact hn, hb.1, by rw [ha.2, hb.2]⟩
theorem share_vec (f : Nat) {n : Nat} {a b : List Int} (hn : n ≤ 20) (ha : Vec n a) (hb : Vec n b) : share f a b = (both f a b, true) := by rw [share_def, pair_of hn ha hb, if_pos rfl]
theorem made_vec {n : Nat} {a b : List Int} (hn : n ≤ 20) (ha : Vec n a) (hb : Vec n b) : madeS a b = (both 49 a b, b, true) := by unfold madeS; rw [pair_of hn ha hb, if_pos rfl]
theorem mk49e {x y : Int} (hx : 0 ≤ x ∧ x ≤ 30) (hy : 0 ≤ y ∧ y ≤ 30) : mk 49 x y = (x - y) % 31 := by rw [mk49 hx hy, fdif_ok (okF_iff.2 hx) (okF_iff.2 hy)]
theorem cof_dif {n : Nat} {a b : List Int} (ha : Vec n a) (hb : Vec n b) {j : Nat} (h : j < n) : cof (both 49 a b) j = (cof a j - cof b j) % 31 := by
  rw [cof_in (by rw [both_length, ha.2]; exact h), both_at 49 a b (by rw [ha.2]; exact h), mk49e (ha.rng j) (hb.rng j)]
theorem vec_of {n : Nat} {l : List Int} (hl : l.length = n) (h : ∀ j, j < n → 0 ≤ cof l j ∧ cof l j ≤ 30) : Vec n l := by
  refine ⟨allOk_iff.2 fun x hx => ?_, hl⟩
  obtain ⟨i, hi, rfl⟩ := List.getElem_of_mem hx
  rw [← cof_in hi]
  exact okF_iff.2 (h i (by omega))
theorem vec_dif {n : Nat} {a b : List Int} (ha : Vec n a) (hb : Vec n b) : Vec n (both 49 a b) := vec_of (by rw [both_length, ha.2]) fun j hj => by rw [cof_dif ha hb hj]; omega
theorem vec_ext {n : Nat} {a b : List Int} (ha : a.length = n) (hb : b.length = n) (h : ∀ j, j < n → cof a j = cof b j) : a = b := list_of_cof (by rw [ha, hb]) fun j hj => h j (by omega)
end Go.Proofs.Ytcdnmnipaaooiaa.P
end

section
namespace Go.Proofs.Ytcdnmnipaaooiaa.P
open Go.RowKit Go.Proofs.Ytcdnmnipaaooiaa.Num Go.Proofs.YtcdnmnipaaooiaaW.PrintWords
theorem loSome_loop (s : Int) (hs : 0 ≤ s ∧ s ≤ 1099511627776) (n : Nat) (hn : n ≤ 1000) (d : Nat) : ∀ (l : List Int) (i : Nat), i + d = n → l.length = i → (∀ x ∈ l, 0 ≤ x ∧ x ≤ 30) → ∃ r, Ev (fun k => laws_loSome.l0 k s (n : Int) l (i : Int)) r ∧ r.length = n ∧ ∀ x ∈ r, 0 ≤ x ∧ x ≤ 30 := by
  induction d with
  | zero =>
    intro l i hi hl h
    refine ⟨l, ⟨1, fun k hk => ?_⟩, by omega, h⟩
    obtain ⟨k, rfl⟩ : ∃ m, k = m + 1 := ⟨k - 1, by omega⟩
    simp only [laws_loSome.l0]
    rw [if_neg (by omega)]
  | succ d ih =>
    intro l i hi hl h
    have m1 : 0 ≤ s * ((i : Int) + 3) ∧ s * ((i : Int) + 3) ≤ 1099511627776 * 1003 := ⟨Int.mul_nonneg hs.1 (by omega), Int.le_trans (Int.mul_le_mul_of_nonneg_right hs.2 (by omega)) (Int.mul_le_mul_of_nonneg_left (by omega) (by omega))⟩
    have m2 : 0 ≤ (i : Int) * (i : Int) ∧ (i : Int) * (i : Int) ≤ 1000 * 1000 := ⟨Int.mul_nonneg (by omega) (by omega), Int.le_trans (Int.mul_le_mul_of_nonneg_right (show (i : Int) ≤ 1000 by omega) (show (0 : Int) ≤ (i : Int) by omega)) (Int.mul_le_mul_of_nonneg_left (show (i : Int) ≤ 1000 by omega) (show (0 : Int) ≤ 1000 by omega))⟩
    obtain ⟨r, ⟨K, hr⟩, lr, hx⟩ := ih (l ++ [(s * ((i : Int) + 3) + (i : Int) * (i : Int)) % 31]) (i + 1) (by omega) (by simp; omega) (by
      intro x hx
      rcases List.mem_append.1 hx with hx | hx
      · exact h x hx
      · rw [List.mem_singleton.1 hx]; omega)
    refine ⟨r, ⟨K + 1, fun k hk => ?_⟩, lr, hx⟩
    obtain ⟨k, rfl⟩ : ∃ m, k = m + 1 := ⟨k - 1, by omega⟩
    simp only [laws_loSome.l0]
    rw [if_pos (by omega), w64 (n := (i : Int) + 3) (by omega), w64 (n := s * ((i : Int) + 3)) (by omega), w64 (n := (i : Int) * (i : Int)) (by omega), w64 (n := _ + _) (by omega), loNum_eq (by omega), w64 (by omega)]
    simp only [Option.bind_some]
    rw [if_pos (by omega)]
    exact hr k (by omega)
theorem loSome_ev (s : Int) (hs : 0 ≤ s ∧ s ≤ 1099511627776) (n : Nat) (hn : n ≤ 1000) : ∃ r, Ev (fun k => laws_loSome.f k s (n : Int)) r ∧ r.length = n ∧ ∀ x ∈ r, 0 ≤ x ∧ x ≤ 30 := loSome_loop s hs n hn n [] 0 (by omega) rfl (by simp)
end Go.Proofs.Ytcdnmnipaaooiaa.P
end

section
namespace Go.Proofs.Ytcdnmnipaaooiaa.Pure
open Go.RowKit Go.Proofs.Ytcdnmnipaaooiaa.P Go.Proofs.Ytcdnmnipaaooiaa.Num Go.Proofs.YtcdnmnipaaooiaaW.PrintWords Go.Proofs.YtcdnmnipaaooiaaW.PrintLast
set_option linter.unusedSimpArgs false
set_option linter.unusedVariables false
theorem drawShareDrawn_ev {l : List Int} (h : Bytes l) : ∃ a b, Ev (fun k => spec_DrawShareDrawn.f k l) (a, b) ∧ a.length ≤ 12 ∧ b.length ≤ 13 := by
  obtain ⟨c, ho, hb, hl⟩ := open_ev h
  obtain ⟨a, b, q, ⟨K, e⟩, h1, h2⟩ := two_ev hb hl
  dsimp only at e
  exact ⟨a, b, ⟨K, fun k hk => by dsimp only; unfold spec_DrawShareDrawn.f; rw [ho]; simp only [Option.bind_some]; rw [e k hk]; rfl⟩, h1, h2⟩
theorem hide_eq {n : Nat} {a b : List Int} (ha : Vec n a) (hb : Vec n b) : both 49 a (both 49 a b) = b := by
  refine vec_ext (vec_dif ha (vec_dif ha hb)).2 hb.2 fun j hj => ?_
  have h1 := ha.rng j
  have h2 := hb.rng j
  rw [cof_dif ha (vec_dif ha hb) hj, cof_dif ha hb hj]
  omega
theorem cof_put {l : List Int} {i j : Nat} {x : Int} (hi : i < l.length) : cof (l.set j x) i = if j = i then x else cof l i := by
  rw [cof_in (by rw [List.length_set]; exact hi), List.getElem_set, cof_in hi]
theorem put_vec {n : Nat} {d : List Int} (hd : Vec n d) (j : Nat) {x : Int} (hx : 0 ≤ x ∧ x ≤ 30) : Vec n (d.set j x) :=
  vec_of (by rw [List.length_set, hd.2]) fun i hi => by
    rw [cof_put (by rw [hd.2]; exact hi)]
    split
    · exact hx
    · exact hd.rng i
theorem fsum_rng (x y : Int) : 0 ≤ fsum x y ∧ fsum x y ≤ 30 := okF_iff.1 (okF_fsum x y)
theorem hide_ne {n : Nat} {a b : List Int} (ha : Vec n a) (hb : Vec n b) {j : Nat} (hj : j < n) : both 49 a ((both 49 a b).set j (fsum (cof (both 49 a b) j) 1)) ≠ b := by
  intro e
  have hd := vec_dif ha hb
  have hp := put_vec hd j (fsum_rng (cof (both 49 a b) j) 1)
  have h := congrArg (fun l => cof l j) e
  have h1 := ha.rng j
  have h2 := hb.rng j
  have h3 := hd.rng j
  try dsimp only at h
  rw [cof_dif ha hp hj, cof_put (by rw [hd.2]; exact hj), if_pos rfl, fsum_ok (okF_iff.2 h3) rfl, cof_dif ha hb hj] at h
  omega
theorem FnShareHide : laws_FnShareHide.Pure := by
  intro l m _ _ hw _ _ hm
  unfold laws_FnShareHide.f
  by_cases h : (l.length : Int) > 1048576
  · exact ⟨1, by rw [if_pos h]; rfl⟩
  by_cases h' : (m.length : Int) > 1048576
  · exact ⟨1, by rw [if_neg h, decide_eq_true h']; rfl⟩
  obtain ⟨a, b, ⟨K1, h1⟩, la, lb⟩ := drawShareDrawn_ev (bytes_of hw)
  obtain ⟨K2, h2⟩ := sShareDrawn a b (by omega) (by omega)
  have h3 := iShareDrawn a b
  obtain ⟨r, ok, e⟩ : ∃ r ok, share 49 a b = (r, ok) := ⟨_, _, rfl⟩
  have hr : r.length ≤ 20 := by have := share_len 49 a b; rw [e] at this; exact this
  obtain ⟨K4, h4⟩ := loInts_ev r r (by omega)
  obtain ⟨p, ⟨K5, h5⟩, lp, rp⟩ := loSome_ev (m.length : Int) (by omega) a.length (by omega)
  obtain ⟨K6, h6⟩ := loInts_ev b b (by omega)
  obtain ⟨K7, h7⟩ := loInts_ev (both 49 a (r.set ((m.length : Int) % (r.length : Int)).toNat (fsum (rd r ((m.length : Int) % (r.length : Int))) 1))) b (by rw [both_length]; omega)
  dsimp only at h1 h2 h4 h5 h6 h7
  refine ⟨K1 + K2 + K4 + K5 + K6 + K7 + 5, ?_⟩
  rw [if_neg h, decide_eq_false h']
  simp only [laws_FnShareHide.j0, Bool.false_eq_true, if_false]
  rw [h1 _ (by omega)]
  simp only [Option.bind_some]
  rw [h2 _ (by omega), h3, e]
  simp only [Option.bind_some, bne_self_eq_false, Bool.false_eq_true, if_false]
  rw [h4 _ (by omega)]
  simp only [Option.bind_some, decide_true, if_true, laws_FnShareHide.j1]
  cases hp : pairOk a b
  · rw [share_def, hp] at e
    simp only [Bool.false_eq_true, if_false, Prod.mk.injEq] at e
    obtain ⟨rfl, rfl⟩ := e
    simp only [Bool.not_false, if_true, beq_self_eq_true]
    rw [h4 _ (by omega)]
    simp only [Option.bind_some, decide_true]
  · obtain ⟨n, hn, va, vb⟩ := of_pair hp
    rw [share_vec 49 hn va vb] at e
    simp only [Prod.mk.injEq] at e
    obtain ⟨rfl, rfl⟩ := e
    have vp : Vec n p := ⟨allOk_iff.2 fun x hx => okF_iff.2 (rp x hx), by rw [lp, va.2]⟩
    have vd := vec_dif va vb
    simp only [Bool.not_true, Bool.false_eq_true, if_false]
    rw [iShareMake, made_vec hn va vd]
    simp only [Option.bind_some]
    rw [h5 _ (by omega)]
    simp only [Option.bind_some]
    rw [iShareDrawn, share_vec 49 hn vp vb]
    simp only [Option.bind_some]
    rw [iShareMake, made_vec hn vp (vec_dif vp vb)]
    simp only [Option.bind_some, List.nil_append, List.length_nil]
    rw [if_pos (by omega)]
    by_cases h0 : ((both 49 a b).length : Int) = 0
    · rw [if_pos h0]
      simp only [if_true]
    · rw [if_neg h0]
      have m1 := Int.emod_nonneg (m.length : Int) h0
      have m2 := Int.emod_lt_of_pos (m.length : Int) (show (0 : Int) < ((both 49 a b).length : Int) by omega)
      rw [if_pos m1, if_pos m2]
      obtain ⟨j, hj⟩ := Int.eq_ofNat_of_zero_le m1
      rw [hj] at m2 h7 ⊢
      have hjn : j < n := by rw [vd.2] at m2; omega
      rw [iFieldSum]
      simp only [Option.bind_some]
      rw [show rd (both 49 a b) (j : Int) = cof (both 49 a b) j from rfl, Int.toNat_natCast] at h7 ⊢
      have vq := put_vec vd j (fsum_rng (cof (both 49 a b) j) 1)
      rw [iShareMake, made_vec hn va vq]
      simp only [Option.bind_some, if_true]
      rw [hide_eq va vb, h6 _ (by omega)]
      simp only [Option.bind_some, decide_true, if_true]
      rw [hide_eq vp vb, h6 _ (by omega)]
      simp only [Option.bind_some, decide_true, if_true]
      rw [h7 _ (by omega), decide_eq_false (hide_ne va vb hjn)]
      rfl
end Go.Proofs.Ytcdnmnipaaooiaa.Pure
end

section
namespace Go.Proofs.YtcdnmnipaaooiaaW.PrintWords
open Go.ChangeShapes Go.WideShapes
/-- A row's slice of whole numbers is no longer than its weight allows. -/
theorem sized_ints {H : Type} {enc : TypeId × Value → H} {P : Program} {W : World} {base : Nat} {spare : Nat → Bool} {held : Bool} {t e : TypeId} {k : IntKind} {a : Option Addr} {len cap : Nat} {d : DataW H} {ps : List MemPlace} {ts : List TypeId} {ds : List (DataW H)} {j : Nat}
    (hsz : (DataW.weightsEach P ts ds).all (· ≤ reachBytes) = true) (ht : ts[j]? = some t) (hd : ds[j]? = some d) (hu : P.underlying t = some (.slice e)) (he : P.underlying e = some (.int k)) (hc : P.cellsOf e = 1) {B : Nat} (hB : P.bytesOf e = B)
    (h : DataW.Trod enc P W base spare held t (.slice a len cap) d ps) : len * B ≤ 140737488351232 := by
  obtain ⟨fuel, hf⟩ := h
  rcases open_ints hu he hc hf with ⟨hcs, _⟩ | ⟨x, l, c, zs, hcs, _, hl, _, hz, hx, _, _⟩
  · simp [Value.cells] at hcs
    obtain ⟨rfl, rfl, rfl⟩ := hcs
    simp
  · simp [Value.cells] at hcs
    obtain ⟨rfl, rfl, rfl⟩ := hcs
    obtain ⟨hx, _⟩ := Prod.mk.inj hx
    subst hx
    have z := sized_slice hsz ht hd hu
    rw [hB] at z
    have hl2 : len ≤ zs.length := by
      rw [hz]
      split
      · exact hl
      · exact Nat.le_refl _
    have h1 : (lits (H := H) k (zs.take len)).length + (lits (H := H) k (zs.drop len)).length = zs.length := by
      simp [lits]
      omega
    rw [h1] at z
    exact Nat.le_trans (Nat.mul_le_mul_right _ hl2) z
end Go.Proofs.YtcdnmnipaaooiaaW.PrintWords
end
