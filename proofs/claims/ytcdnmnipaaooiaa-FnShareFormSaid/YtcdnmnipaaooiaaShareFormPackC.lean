import Derived.Test.YtcdnmnipaaooiaaKitG
import Derived.Test.YtcdnmnipaaooiaaShareFormPackA
import Derived.KernelRfl
import Derived.Test.YtcdnmnipaaooiaaKitI
import Derived.Test.YtcdnmnipaaooiaaShareFormPackB
import Derived.SizedLaws
import Derived.ChangeSlices
-- Written by a program of this session (wip/tools/pack.py): texts of this seat laid one behind the other, without what the claim does not reach
section
namespace Go.Proofs.Ytcdnmnipaaooiaa.P
open Go.RowKit Go.Proofs.Ytcdnmnipaaooiaa.Num
/-- A number of the field. -/
def okF (a : Int) : Bool := decide (0 ≤ a ∧ a ≤ 30)
theorem l6In_eq (a b c : Int) : spec_l6In.f a b c = some (decide (b ≤ a ∧ a ≤ c)) := by
  unfold spec_l6In.f
  by_cases h : a ≥ b
  · rw [if_pos h]; simp [show b ≤ a from h]
  · rw [if_neg h]; simp [show ¬ b ≤ a from h]
theorem sFieldOk (a : Int) : spec_FieldOk.f a = some (okF a) := by simp [spec_FieldOk.f, l6In_eq, okF]
end Go.Proofs.Ytcdnmnipaaooiaa.P
end

section
namespace Go.Proofs.Ytcdnmnipaaooiaa.P
open Go.RowKit Go.Proofs.Ytcdnmnipaaooiaa.Num Go.Proofs.YtcdnmnipaaooiaaW.PrintWords
/-- A code's bytes. -/
def Bytes (l : List Int) : Prop := ∀ x ∈ l, 0 ≤ x ∧ x ≤ 255
theorem bytes_of {l : List Int} (h : ∀ x ∈ l, (Lit.int .u8 x).wf = true) : Bytes l := fun x hx => bounds_u8 (h x hx)
theorem Bytes.take {l : List Int} (h : Bytes l) (n : Nat) : Bytes (l.take n) := fun x hx => h x (List.mem_of_mem_take hx)
theorem Bytes.rd {l : List Int} (h : Bytes l) (i : Int) : 0 ≤ rd l i ∧ rd l i ≤ 255 := by
  unfold Go.Proofs.YtcdnmnipaaooiaaW.PrintWords.rd
  rw [List.getD_eq_getElem?_getD]
  cases e : l[i.toNat]? with
  | none => simp
  | some x => exact h x (List.mem_of_getElem? e)
/-- The reader, behind its opening: it has not read much. -/
structure Rd (l : List Int) (p : Int) : Prop where
  bytes : Bytes l
  len : l.length ≤ 2000
  lo : 0 ≤ p
  hi : p ≤ 1000000
theorem open_ev {l : List Int} (h : Bytes l) : ∃ b, spec_l6Open.f l = some (b, 0) ∧ Bytes b ∧ b.length ≤ 2000 := by
  unfold spec_l6Open.f
  by_cases hl : (l.length : Int) > 2000
  · rw [if_pos hl, if_pos (by omega)]
    exact ⟨_, rfl, h.take _, by simp; omega⟩
  · rw [if_neg hl]
    exact ⟨_, rfl, h, by omega⟩
theorem pick_ev {l : List Int} {p n : Int} (h : Rd l p) (hn : 1 ≤ n ∧ n ≤ 1000000) :
    ∃ v, (∀ k, 1 ≤ k → spec_l6Rd_pick.f k l p n = some (v, p + 1)) ∧ 0 ≤ v ∧ v < n := by
  obtain ⟨hb, hl, h0, h1⟩ := h
  unfold spec_l6Rd_pick.f
  rw [w64 (n := p + 1) (by omega)]
  simp only [show ¬ n < 1 by omega, if_false]
  by_cases e : l.length = 0
  · refine ⟨0, fun k hk => ?_, by omega, by omega⟩
    obtain ⟨k, rfl⟩ : ∃ m, k = m + 1 := ⟨k - 1, by omega⟩
    simp [spec_l6Rd_pick.j0, e]
  · have e' : ((l.length : Int) == 0) = false := by rw [beq_eq_false_iff_ne]; omega
    rw [e']
    have w1 : wrap64 (p + 1 - 1) = p := by rw [w64 (by omega)]; omega
    by_cases hp : p < (l.length : Int)
    · have hr := hb.rd p
      refine ⟨rd l p % n, fun k hk => ?_, Int.emod_nonneg _ (by omega), Int.emod_lt_of_pos _ (by omega)⟩
      obtain ⟨k, rfl⟩ : ∃ m, k = m + 1 := ⟨k - 1, by omega⟩
      simp only [spec_l6Rd_pick.j0, Bool.false_eq_true, if_false]
      rw [w1, if_pos hp, if_pos h0, if_neg (by omega), w64 (n := rd l p) (by omega), tmod_pos (by omega)]
    · have q1 : Int.tmod p (l.length : Int) = p % (l.length : Int) := tmod_pos h0
      have q2 : wrap64 (wrap64 (p * 7) + 3) = p * 7 + 3 := by rw [w64 (n := p * 7) (by omega), w64 (by omega)]
      have q3 : Int.tmod (p * 7 + 3) (l.length : Int) = (p * 7 + 3) % (l.length : Int) := tmod_pos (by omega)
      have b1 := Int.emod_nonneg p (b := (l.length : Int)) (by omega)
      have b2 := Int.emod_lt_of_pos p (b := (l.length : Int)) (by omega)
      have b3 := Int.emod_nonneg (p * 7 + 3) (b := (l.length : Int)) (by omega)
      have b4 := Int.emod_lt_of_pos (p * 7 + 3) (b := (l.length : Int)) (by omega)
      have r1 := hb.rd (p % (l.length : Int))
      have r2 := hb.rd ((p * 7 + 3) % (l.length : Int))
      have d1 : Int.tdiv p (l.length : Int) = p / (l.length : Int) := Int.tdiv_eq_ediv_of_nonneg h0
      have d2 : 0 ≤ p / (l.length : Int) := Int.ediv_nonneg h0 (by omega)
      have d3 : p / (l.length : Int) ≤ p := Int.ediv_le_self _ h0
      obtain ⟨X, hX⟩ : ∃ X, rd l (p % (l.length : Int)) * 131 + rd l ((p * 7 + 3) % (l.length : Int)) * 1117 + p * 29 + p / (l.length : Int) * 53 = X := ⟨_, rfl⟩
      have hx0 : 0 ≤ X ∧ X ≤ 1000000000 := by omega
      have hxx : wrap64 (wrap64 (wrap64 (wrap64 (wrap64 (rd l (p % (l.length : Int))) * 131) + wrap64 (wrap64 (rd l ((p * 7 + 3) % (l.length : Int))) * 1117)) + wrap64 (p * 29)) + wrap64 (wrap64 (p / (l.length : Int)) * 53)) = X := by
        rw [w64 (n := rd l (p % (l.length : Int))) (by omega), w64 (n := rd l ((p * 7 + 3) % (l.length : Int))) (by omega), w64 (n := rd l (p % (l.length : Int)) * 131) (by omega), w64 (n := rd l ((p * 7 + 3) % (l.length : Int)) * 1117) (by omega), w64 (n := p * 29) (by omega), w64 (n := p / (l.length : Int)) (by omega), w64 (n := p / (l.length : Int) * 53) (by omega), w64 (n := rd l (p % (l.length : Int)) * 131 + _) (by omega), w64 (n := rd l (p % (l.length : Int)) * 131 + _ + _) (by omega), w64 (by omega)]
        exact hX
      have hd : wrap64 (Int.tdiv X 64) = X / 64 := by rw [Int.tdiv_eq_ediv_of_nonneg hx0.1, w64 (by omega)]
      have hxr := xor_nonneg (x := X) (y := X / 64) (by omega) (by omega)
      refine ⟨bits .xor .i64 X (X / 64) % n, fun k hk => ?_, Int.emod_nonneg _ (by omega), Int.emod_lt_of_pos _ (by omega)⟩
      obtain ⟨k, rfl⟩ : ∃ m, k = m + 1 := ⟨k - 1, by omega⟩
      simp only [spec_l6Rd_pick.j0, Bool.false_eq_true, if_false]
      rw [w1, if_neg hp, if_neg (by omega), q1, q2, q3, d1, if_pos b1, if_pos b2, if_pos b3, if_pos b4, if_neg (by omega), hxx, hd, tmod_pos hxr]
theorem Rd.next {l : List Int} {p : Int} (h : Rd l p) (hp : p < 1000000) : Rd l (p + 1) := ⟨h.bytes, h.len, by have := h.lo; omega, by omega⟩
end Go.Proofs.Ytcdnmnipaaooiaa.P
end

section
namespace Go.Proofs.Ytcdnmnipaaooiaa.P
open Go.RowKit Go.Proofs.Ytcdnmnipaaooiaa.Num Go.Proofs.YtcdnmnipaaooiaaW.PrintWords
theorem list_l0 {c : List Int} (n : Nat) (hn : n ≤ 100) : ∀ (l : List Int) (p : Int), l.length + n ≤ 200 → Rd c p → p + n ≤ 800000 → ∃ r q, (Ev (fun k => spec_l91List.l0 k l (n : Int) c p) (r, q)) ∧ r.length = l.length + n ∧ p ≤ q ∧ q ≤ p + n + 3 := by
  induction n with
  | zero =>
    intro l p hl h hp
    by_cases h0 : l.length = 0
    · refine ⟨l, p, ⟨2, fun k hk => ?_⟩, by omega, by omega, by omega⟩
      obtain ⟨k, rfl⟩ : ∃ m, k = m + 2 := ⟨k - 2, by omega⟩
      simp only [spec_l91List.l0]
      rw [if_neg (by omega), if_neg (by omega)]; rfl
    · obtain ⟨v, e, a, b⟩ := pick_ev h (n := 40) (by omega)
      have h1 := h.next (by omega)
      obtain ⟨v1, e1, a1, b1⟩ := pick_ev h1 (n := (l.length : Int)) (by omega)
      have h2 := h1.next (by omega)
      obtain ⟨v2, e2, a2, b2⟩ := pick_ev h2 (n := 2) (by omega)
      by_cases hv : v = 0
      · refine ⟨l.set v1.toNat (rd [-1, 31] v2), p + 1 + 1 + 1, ⟨3, fun k hk => ?_⟩, by simp, by omega, by omega⟩
        obtain ⟨k, rfl⟩ : ∃ m, k = m + 3 := ⟨k - 3, by omega⟩
        simp only [spec_l91List.l0]
        rw [if_neg (by omega), if_pos (by omega), e _ (by omega)]
        simp only [Option.bind_some, spec_l91List.j1]
        rw [hv, e1 _ (by omega)]
        simp only [Option.bind_some, beq_self_eq_true, if_true]
        rw [e2 _ (by omega)]
        simp only [Option.bind_some]
        rw [if_pos a2, if_pos (by simpa using b2), if_pos a1, if_pos b1]
      · refine ⟨l, p + 1, ⟨3, fun k hk => ?_⟩, by omega, by omega, by omega⟩
        obtain ⟨k, rfl⟩ : ∃ m, k = m + 3 := ⟨k - 3, by omega⟩
        simp only [spec_l91List.l0]
        rw [if_neg (by omega), if_pos (by omega), e _ (by omega)]
        simp only [Option.bind_some, spec_l91List.j1]
        rw [beq_eq_false_iff_ne.2 hv]; rfl
  | succ n ih =>
    intro l p hl h hp
    obtain ⟨v, e, a, b⟩ := pick_ev h (n := 31) (by omega)
    obtain ⟨r, q, ⟨K, hK⟩, h1, h2, h3⟩ := ih (by omega) (l ++ [v]) (p + 1) (by simp; omega) (h.next (by omega)) (by omega)
    refine ⟨r, q, ⟨K + 2, fun k hk => ?_⟩, by simp at h1; omega, by omega, by omega⟩
    obtain ⟨k, rfl⟩ : ∃ m, k = m + 1 := ⟨k - 1, by omega⟩
    simp only [spec_l91List.l0]
    rw [if_pos (by omega), e _ (by omega)]
    simp only [Option.bind_some]
    rw [if_pos (by omega), w64 (by omega), show ((n + 1 : Nat) : Int) - 1 = (n : Int) by omega]
    exact hK k (by omega)
theorem list_ev {c : List Int} {p : Int} (m : Nat) (hm : m ≤ 50) (h : Rd c p) (hp : p ≤ 700000) : ∃ r q, (Ev (fun k => spec_l91List.f k c p (m : Int)) (r, q)) ∧ r.length ≤ m ∧ p ≤ q ∧ q ≤ p + 100 := by
  obtain ⟨v, e, a, b⟩ := pick_ev h (n := (m : Int) + 1) (by omega)
  obtain ⟨n, rfl⟩ := Int.eq_ofNat_of_zero_le a
  obtain ⟨r, q, ⟨K, hK⟩, h1, h2, h3⟩ := list_l0 (c := c) n (by omega) [] (p + 1) (by simp; omega) (h.next (by omega)) (by omega)
  refine ⟨r, q, ⟨K + 1, fun k hk => ?_⟩, by simp at h1; omega, by omega, by omega⟩
  dsimp only
  unfold spec_l91List.f
  rw [w64 (by omega), e _ (by omega)]
  exact hK k (by omega)
end Go.Proofs.Ytcdnmnipaaooiaa.P
end

section
namespace Go.Proofs.Ytcdnmnipaaooiaa.P
open Go.RowKit Go.Proofs.Ytcdnmnipaaooiaa.Num
/-- All numbers of the field. -/
def allOk (l : List Int) : Bool := l.all okF
theorem allOk_iff {l : List Int} : allOk l = true ↔ ∀ x ∈ l, okF x = true := by simp [allOk, List.all_eq_true]
/-- The value of a polynomial, over the whole numbers. -/
def ev : List Int → Int → Int
  | [], _ => 0
  | c :: l, x => c + x * ev l x
def cof (l : List Int) (j : Nat) : Int := l.getD j 0
theorem cof_in {l : List Int} {j : Nat} (h : j < l.length) : cof l j = l[j] := by simp [cof, List.getD_eq_getElem?_getD, List.getElem?_eq_getElem h]
/-- Coefficient j of the product. -/
def S : List Int → List Int → Nat → Int
  | [], _, _ => 0
  | x :: a, b, j => x * cof b j + match j with | 0 => 0 | j + 1 => S a b j
/-- What is left of a polynomial, one root taken out. -/
def quo (r : Int) : List Int → List Int
  | [] => []
  | [_] => []
  | _ :: c :: l => ev (c :: l) r :: quo r (c :: l)
/-- How many of the numbers from s on, d of them, p holds of. -/
def cntN (p : Nat → Bool) : Nat → Nat → Nat
  | _, 0 => 0
  | s, d + 1 => (if p s then 1 else 0) + cntN p (s + 1) d
/-- The roots among the numbers of the field. -/
def roots (l : List Int) (d : Nat) : Nat := cntN (fun i => decide (ev l (i : Int) % 31 = 0)) 0 d
end Go.Proofs.Ytcdnmnipaaooiaa.P
end

section
namespace Go.Proofs.Ytcdnmnipaaooiaa.P
open Go.RowKit Go.Proofs.Ytcdnmnipaaooiaa.Num Go.Proofs.YtcdnmnipaaooiaaW.PrintWords
/-- What an Ev gives at one number of rounds, and from there on. -/
theorem Ev.at_ {α : Type} {g : Nat → Option α} {r : α} (h : Ev g r) : ∃ K, ∀ k, K ≤ k → g k = some r := h
theorem rd_nat (l : List Int) (i : Nat) : rd l (i : Int) = l.getD i 0 := rfl
theorem rd_lt {l : List Int} {i : Nat} (h : i < l.length) : rd l (i : Int) = l[i] := by simp [rd_nat, List.getD_eq_getElem?_getD, List.getElem?_eq_getElem h]
end Go.Proofs.Ytcdnmnipaaooiaa.P
end

section
namespace Go.Proofs.Ytcdnmnipaaooiaa.P
open Go.RowKit Go.Proofs.Ytcdnmnipaaooiaa.Num Go.Proofs.YtcdnmnipaaooiaaW.PrintWords
theorem okN_okF : okN = okF := rfl
def shareOk (l : List Int) : Bool := allOk l && decide (l.length ≤ 20)
theorem shareOk_iff {l : List Int} : shareOk l = true ↔ allOk l = true ∧ l.length ≤ 20 := by simp [shareOk]
theorem allOk_drop {l : List Int} {i : Nat} (h : i < l.length) : allOk (l.drop i) = (okF l[i] && allOk (l.drop (i + 1))) := by
  rw [List.drop_eq_getElem_cons h]; rfl
theorem sShareOk_loop (l : List Int) (hm : l.length < 1099511627776) (d : Nat) : ∀ i : Nat, i + d = l.length → Ev (fun k => spec_ShareOk.l0 k l (i : Int)) (allOk (l.drop i) && decide (l.length ≤ 20)) := by
  induction d with
  | zero =>
    intro i hi
    obtain rfl : i = l.length := by omega
    refine ⟨1, fun k hk => ?_⟩
    obtain ⟨k, rfl⟩ : ∃ m, k = m + 1 := ⟨k - 1, by omega⟩
    simp only [spec_ShareOk.l0]
    rw [if_neg (by omega), List.drop_length]
    congr 1
    simp [allOk]; omega
  | succ d ih =>
    intro i hi
    obtain ⟨K, h⟩ := ih (i + 1) (by omega)
    refine ⟨K + 1, fun k hk => ?_⟩
    obtain ⟨k, rfl⟩ : ∃ m, k = m + 1 := ⟨k - 1, by omega⟩
    have hia : i < l.length := by omega
    simp only [spec_ShareOk.l0]
    rw [if_pos (by omega), if_pos (by omega), rd_lt hia, sFieldOk, allOk_drop hia]
    simp only [Option.bind_some]
    cases ho : okF l[i]
    · simp
    · rw [if_pos rfl, w64 (by omega)]
      exact (h k (by omega)).trans (by simp)
theorem sShareOk (l : List Int) (hm : l.length < 1099511627776) : Ev (fun k => spec_ShareOk.f k l) (shareOk l) := sShareOk_loop l hm l.length 0 (by omega)
theorem elementsOk_eq (l : List Int) (a : Nat) : impl_elementsOk.f l (a : Int) = some (allOk l && decide (l.length ≤ a)) := by
  unfold impl_elementsOk.f allOk
  rw [okN_okF, Bool.and_comm]
  congr 2
  simp
theorem iShareOk (l : List Int) : impl_ShareOk.f l = some (shareOk l) := by
  unfold impl_ShareOk.f
  rw [show (20 : Int) = ((20 : Nat) : Int) from rfl, elementsOk_eq]; rfl
end Go.Proofs.Ytcdnmnipaaooiaa.P
end

section
namespace Go.Proofs.Ytcdnmnipaaooiaa.P
open Go.RowKit Go.Proofs.Ytcdnmnipaaooiaa.Num Go.Proofs.YtcdnmnipaaooiaaW.PrintWords
/-- What comes of two lists of field numbers, of one length. -/
def pairOk (a b : List Int) : Bool := shareOk a && shareOk b && decide (a.length = b.length)
theorem okAll_eq (a b : List Int) : okAll a b = pairOk a b := by
  unfold okAll pairOk shareOk allOk
  rw [okN_okF, Bool.and_comm (a.all okF), Bool.and_comm (b.all okF)]
theorem pairOk_iff {a b : List Int} : pairOk a b = true ↔ allOk a = true ∧ a.length ≤ 20 ∧ allOk b = true ∧ b.length = a.length := by
  simp only [pairOk, Bool.and_eq_true, shareOk_iff, decide_eq_true_eq]
  constructor
  · rintro ⟨⟨⟨h1, h2⟩, h3, h4⟩, h5⟩; exact ⟨h1, h2, h3, h5.symm⟩
  · rintro ⟨h1, h2, h3, h4⟩; exact ⟨⟨⟨h1, h2⟩, h3, by omega⟩, h4.symm⟩
theorem both_length (f : Nat) (a b : List Int) : (both f a b).length = a.length := by simp [both]
theorem both_at (f : Nat) (a b : List Int) {i : Nat} (h : i < a.length) : (both f a b)[i]'(by rw [both_length]; exact h) = mk f (cof a i) (cof b i) := by simp [both, outs, cof]
theorem both50 {a b : List Int} (h : b.length = a.length) : both 50 a b = b := by
  apply List.ext_getElem (by rw [both_length, h])
  intro i h1 h2
  rw [both_at 50 a b (by omega), cof_in h2]
  rfl
theorem share_def (f : Nat) (a b : List Int) : share f a b = if pairOk a b then (both f a b, true) else ([], false) := by unfold share; rw [okAll_eq]
/-- What is made for hiding. -/
def madeS (a b : List Int) : List Int × List Int × Bool := if pairOk a b then (both 49 a b, b, true) else ([], [], false)
theorem iShareBack (a b : List Int) : impl_ShareBack.f a b = some (share 47 a b) := rfl
theorem iShareDrawn (a b : List Int) : impl_ShareDrawn.f a b = some (share 49 a b) := rfl
theorem iShareMake (a b : List Int) : impl_ShareMake.f a b = some (madeS a b) := by
  unfold impl_ShareMake.f madeS
  rw [okAll_eq]
  cases h : pairOk a b
  · rfl
  · rw [if_pos rfl, if_pos rfl, both50 (pairOk_iff.1 h).2.2.2]
end Go.Proofs.Ytcdnmnipaaooiaa.P
end

section
namespace Go.Proofs.Ytcdnmnipaaooiaa.P
open Go.RowKit Go.Proofs.Ytcdnmnipaaooiaa.Num Go.Proofs.YtcdnmnipaaooiaaW.PrintWords
theorem drawShareOk_ev {l : List Int} (h : Bytes l) : ∃ a, Ev (fun k => spec_DrawShareOk.f k l) a ∧ a.length ≤ 22 := by
  obtain ⟨c, ho, hb, hl⟩ := open_ev h
  obtain ⟨a, q, ⟨K, e⟩, h1, h2, h3⟩ := list_ev (c := c) (p := 0) 22 (by omega) ⟨hb, hl, by omega, by omega⟩ (by omega)
  change ∀ k, K ≤ k → spec_l91List.f k c 0 22 = _ at e
  have hr : Rd c q := ⟨hb, hl, by omega, by omega⟩
  by_cases h0 : (a.length : Int) > 0
  · obtain ⟨v, e1, a1, b1⟩ := pick_ev hr (n := 4) (by omega)
    have hr1 := hr.next (by omega)
    by_cases v0 : v = 0
    · obtain ⟨v2, e2, a2, b2⟩ := pick_ev hr1 (n := (a.length : Int)) (by omega)
      have hr2 := hr1.next (by omega)
      obtain ⟨v3, e3, a3, b3⟩ := pick_ev hr2 (n := 40) (by omega)
      refine ⟨a.set v2.toNat (wrap64 (v3 - 4)), ⟨K + 2, fun k hk => ?_⟩, by simp; omega⟩
      obtain ⟨k, rfl⟩ : ∃ m, k = m + 1 := ⟨k - 1, by omega⟩
      dsimp only
      unfold spec_DrawShareOk.f
      rw [ho]
      simp only [Option.bind_some]
      rw [e _ (by omega)]
      simp only [Option.bind_some]
      rw [if_pos h0, e1 _ (by omega)]
      simp only [Option.bind_some, spec_DrawShareOk.j0]
      rw [v0, e2 _ (by omega)]
      simp only [Option.bind_some, beq_self_eq_true, if_true]
      rw [e3 _ (by omega)]
      simp only [Option.bind_some]
      rw [if_pos a2, if_pos b2]
    · refine ⟨a, ⟨K + 2, fun k hk => ?_⟩, h1⟩
      obtain ⟨k, rfl⟩ : ∃ m, k = m + 1 := ⟨k - 1, by omega⟩
      dsimp only
      unfold spec_DrawShareOk.f
      rw [ho]
      simp only [Option.bind_some]
      rw [e _ (by omega)]
      simp only [Option.bind_some]
      rw [if_pos h0, e1 _ (by omega)]
      simp only [Option.bind_some, spec_DrawShareOk.j0]
      rw [beq_eq_false_iff_ne.2 v0]; rfl
  · refine ⟨a, ⟨K + 2, fun k hk => ?_⟩, h1⟩
    obtain ⟨k, rfl⟩ : ∃ m, k = m + 1 := ⟨k - 1, by omega⟩
    dsimp only
    unfold spec_DrawShareOk.f
    rw [ho]
    simp only [Option.bind_some]
    rw [e _ (by omega)]
    simp only [Option.bind_some]
    rw [if_neg h0]
    simp only [spec_DrawShareOk.j0, Bool.false_eq_true, if_false]
end Go.Proofs.Ytcdnmnipaaooiaa.P
end

section
namespace Go.Proofs.Ytcdnmnipaaooiaa.Pure
open Go.RowKit Go.Proofs.Ytcdnmnipaaooiaa.P Go.Proofs.Ytcdnmnipaaooiaa.Num Go.Proofs.YtcdnmnipaaooiaaW.PrintWords Go.Proofs.YtcdnmnipaaooiaaW.PrintLast
set_option linter.unusedSimpArgs false
set_option linter.unusedVariables false
theorem FnShareForm : laws_FnShareForm.Pure := by
  intro l m _ _ hw _ _ hm
  unfold laws_FnShareForm.f
  by_cases h : (l.length : Int) > 1048576
  · exact ⟨1, by rw [if_pos h]; rfl⟩
  by_cases h' : (m.length : Int) > 1048576
  · exact ⟨1, by rw [if_neg h, decide_eq_true h']; rfl⟩
  obtain ⟨a, ⟨K1, h1⟩, la⟩ := drawShareOk_ev (bytes_of hw)
  obtain ⟨K2, h2⟩ := sShareOk a (by omega)
  have h3 := iShareOk a
  dsimp only at h1 h2
  refine ⟨K1 + K2 + 5, ?_⟩
  rw [if_neg h, decide_eq_false h']
  simp only [laws_FnShareForm.j0, Bool.false_eq_true, if_false]
  rw [h1 _ (by omega)]
  simp only [Option.bind_some]
  rw [h3]
  simp only [Option.bind_some]
  rw [h2 _ (by omega)]
  simp only [Option.bind_some, bne_self_eq_false, Bool.false_eq_true, if_false, laws_FnShareForm.j1]
  cases ho : shareOk a
  · simp only [Bool.not_false, if_true]
    rw [h2 _ (by omega), ho]
    rfl
  · obtain ⟨oa, l20⟩ := shareOk_iff.1 ho
    have far : ∀ (b c : List Int), b.length ≠ c.length → pairOk b c = false := fun b c hbc => by
      cases hp : pairOk b c with
      | false => rfl
      | true => exact absurd (pairOk_iff.1 hp).2.2.2.symm hbc
    have f1 : madeS a (a ++ [1]) = ([], [], false) := by unfold madeS; rw [far _ _ (by simp)]; rfl
    have f2 : share 47 a (a ++ [0]) = ([], false) := by rw [share_def, far _ _ (by simp)]; rfl
    have f3 : share 49 (a ++ [0]) a = ([], false) := by rw [share_def, far _ _ (by simp)]; rfl
    have hw : wrap64 ((a.length : Int) + 1) = (a.length : Int) + 1 := w64 (by omega)
    have m1 := Int.emod_nonneg (m.length : Int) (show (a.length : Int) + 1 ≠ 0 by omega)
    have m2 := Int.emod_lt_of_pos (m.length : Int) (show (0 : Int) < (a.length : Int) + 1 by omega)
    simp only [Bool.not_true, Bool.false_eq_true, if_false]
    rw [hw, if_neg (by omega)]
    simp only [Option.bind_some, List.nil_append, List.length_nil]
    rw [if_pos (by omega)]
    try simp only [Option.bind_some]
    rw [if_pos (by omega), iShareMake, f1]
    try simp only [Option.bind_some]
    rw [if_pos (by omega)]
    try simp only [Option.bind_some]
    rw [if_pos (by omega), iShareBack, f2]
    try simp only [Option.bind_some]
    rw [if_pos (by omega)]
    try simp only [Option.bind_some]
    rw [if_pos (by omega), iShareDrawn, f3]
    try simp only [Option.bind_some]
    rw [if_pos m1, if_pos (by omega), iShareOk]
    have ht : shareOk (a.take ((m.length : Int) % ((a.length : Int) + 1)).toNat) = true := shareOk_iff.2 ⟨allOk_iff.2 fun x hx => allOk_iff.1 oa x (List.mem_of_mem_take hx), by rw [List.length_take]; omega⟩
    rw [ht]
    simp only [Option.bind_some, if_true, Bool.false_eq_true, if_false]
    rw [decide_eq_true (by omega)]
end Go.Proofs.Ytcdnmnipaaooiaa.Pure
end

section
namespace Go.Proofs.YtcdnmnipaaooiaaW.PrintWords
open Go.ChangeShapes Go.WideShapes
/-- A row's slice of whole numbers is no longer than its weight allows. -/
theorem sized_ints {H : Type} {enc : TypeId × Value → H} {P : Program} {W : World} {base : Nat} {spare : Nat → Bool} {held : Bool} {t e : TypeId} {k : IntKind} {a : Option Addr} {len cap : Nat} {d : DataW H} {ps : List MemPlace} {ts : List TypeId} {ds : List (DataW H)} {j : Nat}
    (hsz : (DataW.weightsEach P ts ds).all (· ≤ reachBytes) = true) (ht : ts[j]? = some t) (hd : ds[j]? = some d) (hu : P.underlying t = some (.slice e)) (he : P.underlying e = some (.int k)) (hc : P.cellsOf e = 1) {B : Nat} (hB : P.bytesOf e = B)
    (h : DataW.Trod enc P W base spare held t (.slice a len cap) d ps) : len * B ≤ 140737488351232 := by
  obtain ⟨fuel, hf⟩ := h
  rcases open_ints hu he hc hf with ⟨hcs, _⟩ | ⟨x, l, c, zs, hcs, _, hl, _, hz, hx, _, _⟩
  · simp [Value.cells] at hcs
    obtain ⟨rfl, rfl, rfl⟩ := hcs
    simp
  · simp [Value.cells] at hcs
    obtain ⟨rfl, rfl, rfl⟩ := hcs
    obtain ⟨hx, _⟩ := Prod.mk.inj hx
    subst hx
    have z := sized_slice hsz ht hd hu
    rw [hB] at z
    have hl2 : len ≤ zs.length := by
      rw [hz]
      split
      · exact hl
      · exact Nat.le_refl _
    have h1 : (lits (H := H) k (zs.take len)).length + (lits (H := H) k (zs.drop len)).length = zs.length := by
      simp [lits]
      omega
    rw [h1] at z
    exact Nat.le_trans (Nat.mul_le_mul_right _ hl2) z
end Go.Proofs.YtcdnmnipaaooiaaW.PrintWords
end
