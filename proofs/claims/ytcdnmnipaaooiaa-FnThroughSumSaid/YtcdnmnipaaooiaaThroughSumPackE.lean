import Derived.Test.YtcdnmnipaaooiaaThroughSumPackD
import Derived.Test.YtcdnmnipaaooiaaThroughSumPackA
import Derived.Test.YtcdnmnipaaooiaaKthG
import Derived.Test.YtcdnmnipaaooiaaThroughSumPackC
import Derived.Test.YtcdnmnipaaooiaaKthI
import Derived.SizedLaws
import Derived.ChangeSlices
-- Written by a program of this session (wip/tools/pack.py): texts of this seat laid one behind the other, without what the claim does not reach
section
namespace Go.Proofs.Ytcdnmnipaaooiaa.P
open Go.RowKit Go.Proofs.Ytcdnmnipaaooiaa.Num Go.Proofs.YtcdnmnipaaooiaaW.PrintWords
def Bytes (l : List Int) : Prop := ∀ x ∈ l, 0 ≤ x ∧ x ≤ 255
theorem bytes_of {l : List Int} (h : ∀ x ∈ l, (Lit.int .u8 x).wf = true) : Bytes l := fun x hx => bounds_u8 (h x hx)
theorem Bytes.take {l : List Int} (h : Bytes l) (n : Nat) : Bytes (l.take n) := fun x hx => h x (List.mem_of_mem_take hx)
theorem Bytes.rd {l : List Int} (h : Bytes l) (i : Int) : 0 ≤ rd l i ∧ rd l i ≤ 255 := by
  unfold Go.Proofs.YtcdnmnipaaooiaaW.PrintWords.rd
  rw [List.getD_eq_getElem?_getD]
  cases e : l[i.toNat]? with
  | none => simp
  | some x => exact h x (List.mem_of_getElem? e)
structure Rd (l : List Int) (p : Int) : Prop where
  bytes : Bytes l
  len : l.length ≤ 2000
  lo : 0 ≤ p
  hi : p ≤ 1000000
theorem open_ev {l : List Int} (h : Bytes l) : ∃ b, spec_l6Open.f l = some (b, 0) ∧ Bytes b ∧ b.length ≤ 2000 := by
  unfold spec_l6Open.f
  by_cases hl : (l.length : Int) > 2000
  · rw [if_pos hl, if_pos (by omega)]
    exact ⟨_, rfl, h.take _, by simp; omega⟩
  · rw [if_neg hl]
    exact ⟨_, rfl, h, by omega⟩
theorem pick_ev {l : List Int} {p n : Int} (h : Rd l p) (hn : 1 ≤ n ∧ n ≤ 1000000) :
    ∃ v, (∀ k, 1 ≤ k → spec_l6Rd_pick.f k l p n = some (v, p + 1)) ∧ 0 ≤ v ∧ v < n := by
  obtain ⟨hb, hl, h0, h1⟩ := h
  unfold spec_l6Rd_pick.f
  rw [w64 (n := p + 1) (by omega)]
  simp only [show ¬ n < 1 by omega, if_false]
  by_cases e : l.length = 0
  · refine ⟨0, fun k hk => ?_, by omega, by omega⟩
    obtain ⟨k, rfl⟩ : ∃ m, k = m + 1 := ⟨k - 1, by omega⟩
    simp [spec_l6Rd_pick.j0, e]
  · have e' : ((l.length : Int) == 0) = false := by rw [beq_eq_false_iff_ne]; omega
    rw [e']
    have w1 : wrap64 (p + 1 - 1) = p := by rw [w64 (by omega)]; omega
    by_cases hp : p < (l.length : Int)
    · have hr := hb.rd p
      refine ⟨rd l p % n, fun k hk => ?_, Int.emod_nonneg _ (by omega), Int.emod_lt_of_pos _ (by omega)⟩
      obtain ⟨k, rfl⟩ : ∃ m, k = m + 1 := ⟨k - 1, by omega⟩
      simp only [spec_l6Rd_pick.j0, Bool.false_eq_true, if_false]
      rw [w1, if_pos hp, if_pos h0, if_neg (by omega), w64 (n := rd l p) (by omega), tmod_pos (by omega)]
    · have q1 : Int.tmod p (l.length : Int) = p % (l.length : Int) := tmod_pos h0
      have q2 : wrap64 (wrap64 (p * 7) + 3) = p * 7 + 3 := by rw [w64 (n := p * 7) (by omega), w64 (by omega)]
      have q3 : Int.tmod (p * 7 + 3) (l.length : Int) = (p * 7 + 3) % (l.length : Int) := tmod_pos (by omega)
      have b1 := Int.emod_nonneg p (b := (l.length : Int)) (by omega)
      have b2 := Int.emod_lt_of_pos p (b := (l.length : Int)) (by omega)
      have b3 := Int.emod_nonneg (p * 7 + 3) (b := (l.length : Int)) (by omega)
      have b4 := Int.emod_lt_of_pos (p * 7 + 3) (b := (l.length : Int)) (by omega)
      have r1 := hb.rd (p % (l.length : Int))
      have r2 := hb.rd ((p * 7 + 3) % (l.length : Int))
      have d1 : Int.tdiv p (l.length : Int) = p / (l.length : Int) := Int.tdiv_eq_ediv_of_nonneg h0
      have d2 : 0 ≤ p / (l.length : Int) := Int.ediv_nonneg h0 (by omega)
      have d3 : p / (l.length : Int) ≤ p := Int.ediv_le_self _ h0
      obtain ⟨X, hX⟩ : ∃ X, rd l (p % (l.length : Int)) * 131 + rd l ((p * 7 + 3) % (l.length : Int)) * 1117 + p * 29 + p / (l.length : Int) * 53 = X := ⟨_, rfl⟩
      have hx0 : 0 ≤ X ∧ X ≤ 1000000000 := by omega
      have hxx : wrap64 (wrap64 (wrap64 (wrap64 (wrap64 (rd l (p % (l.length : Int))) * 131) + wrap64 (wrap64 (rd l ((p * 7 + 3) % (l.length : Int))) * 1117)) + wrap64 (p * 29)) + wrap64 (wrap64 (p / (l.length : Int)) * 53)) = X := by
        rw [w64 (n := rd l (p % (l.length : Int))) (by omega), w64 (n := rd l ((p * 7 + 3) % (l.length : Int))) (by omega), w64 (n := rd l (p % (l.length : Int)) * 131) (by omega), w64 (n := rd l ((p * 7 + 3) % (l.length : Int)) * 1117) (by omega), w64 (n := p * 29) (by omega), w64 (n := p / (l.length : Int)) (by omega), w64 (n := p / (l.length : Int) * 53) (by omega), w64 (n := rd l (p % (l.length : Int)) * 131 + _) (by omega), w64 (n := rd l (p % (l.length : Int)) * 131 + _ + _) (by omega), w64 (by omega)]
        exact hX
      have hd : wrap64 (Int.tdiv X 64) = X / 64 := by rw [Int.tdiv_eq_ediv_of_nonneg hx0.1, w64 (by omega)]
      have hxr := xor_nonneg (x := X) (y := X / 64) (by omega) (by omega)
      refine ⟨bits .xor .i64 X (X / 64) % n, fun k hk => ?_, Int.emod_nonneg _ (by omega), Int.emod_lt_of_pos _ (by omega)⟩
      obtain ⟨k, rfl⟩ : ∃ m, k = m + 1 := ⟨k - 1, by omega⟩
      simp only [spec_l6Rd_pick.j0, Bool.false_eq_true, if_false]
      rw [w1, if_neg hp, if_neg (by omega), q1, q2, q3, d1, if_pos b1, if_pos b2, if_pos b3, if_pos b4, if_neg (by omega), hxx, hd, tmod_pos hxr]
theorem Rd.next {l : List Int} {p : Int} (h : Rd l p) (hp : p < 1000000) : Rd l (p + 1) := ⟨h.bytes, h.len, by have := h.lo; omega, by omega⟩
end Go.Proofs.Ytcdnmnipaaooiaa.P
end

section
namespace Go.Proofs.Ytcdnmnipaaooiaa.P
open Go.RowKit Go.Proofs.Ytcdnmnipaaooiaa.Num Go.Proofs.YtcdnmnipaaooiaaW.PrintWords
theorem list_l0 {c : List Int} (n : Nat) (hn : n ≤ 100) : ∀ (l : List Int) (p : Int), l.length + n ≤ 200 → Rd c p → p + n ≤ 800000 → ∃ r q, (Ev (fun k => spec_l91List.l0 k l (n : Int) c p) (r, q)) ∧ r.length = l.length + n ∧ p ≤ q ∧ q ≤ p + n + 3 := by
  induction n with
  | zero =>
    intro l p hl h hp
    by_cases h0 : l.length = 0
    · refine ⟨l, p, ⟨2, fun k hk => ?_⟩, by omega, by omega, by omega⟩
      obtain ⟨k, rfl⟩ : ∃ m, k = m + 2 := ⟨k - 2, by omega⟩
      simp only [spec_l91List.l0]
      rw [if_neg (by omega), if_neg (by omega)]; rfl
    · obtain ⟨v, e, a, b⟩ := pick_ev h (n := 40) (by omega)
      have h1 := h.next (by omega)
      obtain ⟨v1, e1, a1, b1⟩ := pick_ev h1 (n := (l.length : Int)) (by omega)
      have h2 := h1.next (by omega)
      obtain ⟨v2, e2, a2, b2⟩ := pick_ev h2 (n := 2) (by omega)
      by_cases hv : v = 0
      · refine ⟨l.set v1.toNat (rd [-1, 31] v2), p + 1 + 1 + 1, ⟨3, fun k hk => ?_⟩, by simp, by omega, by omega⟩
        obtain ⟨k, rfl⟩ : ∃ m, k = m + 3 := ⟨k - 3, by omega⟩
        simp only [spec_l91List.l0]
        rw [if_neg (by omega), if_pos (by omega), e _ (by omega)]
        simp only [Option.bind_some, spec_l91List.j1]
        rw [hv, e1 _ (by omega)]
        simp only [Option.bind_some, beq_self_eq_true, if_true]
        rw [e2 _ (by omega)]
        simp only [Option.bind_some]
        rw [if_pos a2, if_pos (by simpa using b2), if_pos a1, if_pos b1]
      · refine ⟨l, p + 1, ⟨3, fun k hk => ?_⟩, by omega, by omega, by omega⟩
        obtain ⟨k, rfl⟩ : ∃ m, k = m + 3 := ⟨k - 3, by omega⟩
        simp only [spec_l91List.l0]
        rw [if_neg (by omega), if_pos (by omega), e _ (by omega)]
        simp only [Option.bind_some, spec_l91List.j1]
        rw [beq_eq_false_iff_ne.2 hv]; rfl
  | succ n ih =>
    intro l p hl h hp
    obtain ⟨v, e, a, b⟩ := pick_ev h (n := 31) (by omega)
    obtain ⟨r, q, ⟨K, hK⟩, h1, h2, h3⟩ := ih (by omega) (l ++ [v]) (p + 1) (by simp; omega) (h.next (by omega)) (by omega)
    refine ⟨r, q, ⟨K + 2, fun k hk => ?_⟩, by simp at h1; omega, by omega, by omega⟩
    obtain ⟨k, rfl⟩ : ∃ m, k = m + 1 := ⟨k - 1, by omega⟩
    simp only [spec_l91List.l0]
    rw [if_pos (by omega), e _ (by omega)]
    simp only [Option.bind_some]
    rw [if_pos (by omega), w64 (by omega), show ((n + 1 : Nat) : Int) - 1 = (n : Int) by omega]
    exact hK k (by omega)
theorem list_ev {c : List Int} {p : Int} (m : Nat) (hm : m ≤ 50) (h : Rd c p) (hp : p ≤ 700000) : ∃ r q, (Ev (fun k => spec_l91List.f k c p (m : Int)) (r, q)) ∧ r.length ≤ m ∧ p ≤ q ∧ q ≤ p + 100 := by
  obtain ⟨v, e, a, b⟩ := pick_ev h (n := (m : Int) + 1) (by omega)
  obtain ⟨n, rfl⟩ := Int.eq_ofNat_of_zero_le a
  obtain ⟨r, q, ⟨K, hK⟩, h1, h2, h3⟩ := list_l0 (c := c) n (by omega) [] (p + 1) (by simp; omega) (h.next (by omega)) (by omega)
  refine ⟨r, q, ⟨K + 1, fun k hk => ?_⟩, by simp at h1; omega, by omega, by omega⟩
  dsimp only
  unfold spec_l91List.f
  rw [w64 (by omega), e _ (by omega)]
  exact hK k (by omega)
theorem drawPolyThrough_ev {l : List Int} (h : Bytes l) : ∃ a, Ev (fun k => spec_DrawPolyThrough.f k l) a ∧ a.length ≤ 9 := by
  obtain ⟨c, ho, hb, hl⟩ := open_ev h
  obtain ⟨a, q, ⟨K, e⟩, h1, h2, h3⟩ := list_ev (c := c) (p := 0) 9 (by omega) ⟨hb, hl, by omega, by omega⟩ (by omega)
  change ∀ k, K ≤ k → spec_l91List.f k c 0 9 = _ at e
  exact ⟨a, ⟨K, fun k hk => by dsimp only; unfold spec_DrawPolyThrough.f; rw [ho]; simp only [Option.bind_some]; rw [e k (by omega)]; rfl⟩, h1⟩
end Go.Proofs.Ytcdnmnipaaooiaa.P
end

section
namespace Go.Proofs.Ytcdnmnipaaooiaa.P
open Go.RowKit Go.Proofs.Ytcdnmnipaaooiaa.Num Go.Proofs.YtcdnmnipaaooiaaW.PrintWords
def pairOk (a b : List Int) : Bool := shareOk a && shareOk b && decide (a.length = b.length)
theorem okAll_eq (a b : List Int) : okAll a b = pairOk a b := by
  unfold okAll pairOk shareOk allOk
  rw [okN_okF, Bool.and_comm (a.all okF), Bool.and_comm (b.all okF)]
theorem pairOk_iff {a b : List Int} : pairOk a b = true ↔ allOk a = true ∧ a.length ≤ 20 ∧ allOk b = true ∧ b.length = a.length := by
  simp only [pairOk, Bool.and_eq_true, shareOk_iff, decide_eq_true_eq]
  constructor
  · rintro ⟨⟨⟨h1, h2⟩, h3, h4⟩, h5⟩; exact ⟨h1, h2, h3, h5.symm⟩
  · rintro ⟨h1, h2, h3, h4⟩; exact ⟨⟨⟨h1, h2⟩, h3, by omega⟩, h4.symm⟩
theorem both_length (f : Nat) (a b : List Int) : (both f a b).length = a.length := by simp [both]
theorem both_at (f : Nat) (a b : List Int) {i : Nat} (h : i < a.length) : (both f a b)[i]'(by rw [both_length]; exact h) = mk f (cof a i) (cof b i) := by simp [both, outs, cof]
theorem mk47 {x y : Int} (hx : 0 ≤ x ∧ x ≤ 30) (hy : 0 ≤ y ∧ y ≤ 30) : mk 47 x y = fsum x y := by
  rw [fsum_ok (okF_iff.2 hx) (okF_iff.2 hy)]
  unfold mk
  rw [if_pos rfl, w64 (by omega)]
theorem share_def (f : Nat) (a b : List Int) : share f a b = if pairOk a b then (both f a b, true) else ([], false) := by unfold share; rw [okAll_eq]
theorem iShareSum (a b : List Int) : impl_ShareSum.f a b = some (share 47 a b) := rfl
end Go.Proofs.Ytcdnmnipaaooiaa.P
end

section
namespace Go.Proofs.Ytcdnmnipaaooiaa.P
open Go.RowKit Go.Proofs.Ytcdnmnipaaooiaa.Num Go.Proofs.YtcdnmnipaaooiaaW.PrintWords
def Vec (n : Nat) (l : List Int) : Prop := allOk l = true ∧ l.length = n
theorem Vec.rng {n : Nat} {l : List Int} (h : Vec n l) (j : Nat) : 0 ≤ cof l j ∧ cof l j ≤ 30 := cof_rng h.1 j
theorem pair_of {n : Nat} {a b : List Int} (hn : n ≤ 20) (ha : Vec n a) (hb : Vec n b) : pairOk a b = true := pairOk_iff.2 ⟨ha.1, by rw [ha.2]; exact hn, hb.1, by rw [ha.2, hb.2]⟩
theorem share_vec (f : Nat) {n : Nat} {a b : List Int} (hn : n ≤ 20) (ha : Vec n a) (hb : Vec n b) : share f a b = (both f a b, true) := by rw [share_def, pair_of hn ha hb, if_pos rfl]
theorem mk47e {x y : Int} (hx : 0 ≤ x ∧ x ≤ 30) (hy : 0 ≤ y ∧ y ≤ 30) : mk 47 x y = (x + y) % 31 := by rw [mk47 hx hy, fsum_ok (okF_iff.2 hx) (okF_iff.2 hy)]
theorem cof_sum {n : Nat} {a b : List Int} (ha : Vec n a) (hb : Vec n b) {j : Nat} (h : j < n) : cof (both 47 a b) j = (cof a j + cof b j) % 31 := by
  rw [cof_in (by rw [both_length, ha.2]; exact h), both_at 47 a b (by rw [ha.2]; exact h), mk47e (ha.rng j) (hb.rng j)]
theorem vec_of {n : Nat} {l : List Int} (hl : l.length = n) (h : ∀ j, j < n → 0 ≤ cof l j ∧ cof l j ≤ 30) : Vec n l := by
  refine ⟨allOk_iff.2 fun x hx => ?_, hl⟩
  obtain ⟨i, hi, rfl⟩ := List.getElem_of_mem hx
  rw [← cof_in hi]
  exact okF_iff.2 (h i (by omega))
theorem vec_sum {n : Nat} {a b : List Int} (ha : Vec n a) (hb : Vec n b) : Vec n (both 47 a b) := vec_of (by rw [both_length, ha.2]) fun j hj => by rw [cof_sum ha hb hj]; omega
end Go.Proofs.Ytcdnmnipaaooiaa.P
end

section
namespace Go.Proofs.Ytcdnmnipaaooiaa.P
open Go.RowKit Go.Proofs.Ytcdnmnipaaooiaa.Num Go.Proofs.YtcdnmnipaaooiaaW.PrintWords
theorem loSome_loop (s : Int) (hs : 0 ≤ s ∧ s ≤ 1099511627776) (n : Nat) (hn : n ≤ 1000) (d : Nat) : ∀ (l : List Int) (i : Nat), i + d = n → l.length = i → (∀ x ∈ l, 0 ≤ x ∧ x ≤ 30) → ∃ r, Ev (fun k => laws_loSome.l0 k s (n : Int) l (i : Int)) r ∧ r.length = n ∧ ∀ x ∈ r, 0 ≤ x ∧ x ≤ 30 := by
  induction d with
  | zero =>
    intro l i hi hl h
    refine ⟨l, ⟨1, fun k hk => ?_⟩, by omega, h⟩
    obtain ⟨k, rfl⟩ : ∃ m, k = m + 1 := ⟨k - 1, by omega⟩
    simp only [laws_loSome.l0]
    rw [if_neg (by omega)]
  | succ d ih =>
    intro l i hi hl h
    have m1 : 0 ≤ s * ((i : Int) + 3) ∧ s * ((i : Int) + 3) ≤ 1099511627776 * 1003 := ⟨Int.mul_nonneg hs.1 (by omega), Int.le_trans (Int.mul_le_mul_of_nonneg_right hs.2 (by omega)) (Int.mul_le_mul_of_nonneg_left (by omega) (by omega))⟩
    have m2 : 0 ≤ (i : Int) * (i : Int) ∧ (i : Int) * (i : Int) ≤ 1000 * 1000 := ⟨Int.mul_nonneg (by omega) (by omega), Int.le_trans (Int.mul_le_mul_of_nonneg_right (show (i : Int) ≤ 1000 by omega) (show (0 : Int) ≤ (i : Int) by omega)) (Int.mul_le_mul_of_nonneg_left (show (i : Int) ≤ 1000 by omega) (show (0 : Int) ≤ 1000 by omega))⟩
    obtain ⟨r, ⟨K, hr⟩, lr, hx⟩ := ih (l ++ [(s * ((i : Int) + 3) + (i : Int) * (i : Int)) % 31]) (i + 1) (by omega) (by simp; omega) (by
      intro x hx
      rcases List.mem_append.1 hx with hx | hx
      · exact h x hx
      · rw [List.mem_singleton.1 hx]; omega)
    refine ⟨r, ⟨K + 1, fun k hk => ?_⟩, lr, hx⟩
    obtain ⟨k, rfl⟩ : ∃ m, k = m + 1 := ⟨k - 1, by omega⟩
    simp only [laws_loSome.l0]
    rw [if_pos (by omega), w64 (n := (i : Int) + 3) (by omega), w64 (n := s * ((i : Int) + 3)) (by omega), w64 (n := (i : Int) * (i : Int)) (by omega), w64 (n := _ + _) (by omega), loNum_eq (by omega), w64 (by omega)]
    simp only [Option.bind_some]
    rw [if_pos (by omega)]
    exact hr k (by omega)
theorem loSome_ev (s : Int) (hs : 0 ≤ s ∧ s ≤ 1099511627776) (n : Nat) (hn : n ≤ 1000) : ∃ r, Ev (fun k => laws_loSome.f k s (n : Int)) r ∧ r.length = n ∧ ∀ x ∈ r, 0 ≤ x ∧ x ≤ 30 := loSome_loop s hs n hn n [] 0 (by omega) rfl (by simp)
end Go.Proofs.Ytcdnmnipaaooiaa.P
end

section
namespace Go.Proofs.Ytcdnmnipaaooiaa.Pure
open Go.RowKit Go.Proofs.Ytcdnmnipaaooiaa.P Go.Proofs.Ytcdnmnipaaooiaa.Num Go.Proofs.YtcdnmnipaaooiaaW.PrintWords Go.Proofs.YtcdnmnipaaooiaaW.PrintLast
set_option linter.unusedSimpArgs false
set_option linter.unusedVariables false
theorem ev_sum {n : Nat} {a b : List Int} (ha : Vec n a) (hb : Vec n b) (x : Int) : ev (both 47 a b) x % 31 = (ev a x + ev b x) % 31 := by
  have h : ev (both 47 a b) x % 31 = ev (tab n (fun j => cof a j + cof b j)) x % 31 := by
    refine ev_mod (by rw [(vec_sum ha hb).2, tab_length]) (fun j => ?_) x
    by_cases hj : j < n
    · rw [cof_sum ha hb hj, tab_cof hj]; omega
    · rw [cof_out (by rw [(vec_sum ha hb).2]; omega), cof_out (by rw [tab_length]; omega)]
  rw [h, ev_tab_add, ev_tab_long a n x (by rw [ha.2]; omega), ev_tab_long b n x (by rw [hb.2]; omega)]
theorem lagr_sum {n : Nat} {a b : List Int} (hn : n ≤ 9) (ha : Vec n a) (hb : Vec n b) : lagr (both 47 a b) = both 47 (lagr a) (lagr b) := by
  obtain ⟨s1, s2, s3⟩ := lagr_spec ha.1 (by rw [ha.2]; exact hn)
  obtain ⟨t1, t2, t3⟩ := lagr_spec hb.1 (by rw [hb.2]; exact hn)
  have hs := vec_sum ha hb
  obtain ⟨u1, u2, u3⟩ := lagr_spec hs.1 (by rw [hs.2]; exact hn)
  have va : Vec n (lagr a) := ⟨s2, by rw [s1, ha.2]⟩
  have vb : Vec n (lagr b) := ⟨t2, by rw [t1, hb.2]⟩
  refine same_of_values (n := n) (by omega) (by rw [u1, hs.2]) (vec_sum va vb).2 u2 (vec_sum va vb).1 fun i hi => ?_
  rw [u3 i (by rw [hs.2]; exact hi), cof_sum ha hb hi, ev_sum va vb]
  have h1 := s3 i (by rw [ha.2]; exact hi)
  have h2 := t3 i (by rw [hb.2]; exact hi)
  omega
theorem FnThroughSum : laws_FnThroughSum.Pure := by
  intro l m _ _ hw _ _ hm
  unfold laws_FnThroughSum.f
  by_cases h : (l.length : Int) > 1048576
  · exact ⟨1, by rw [if_pos h]; rfl⟩
  by_cases h' : (m.length : Int) > 1048576
  · exact ⟨1, by rw [if_neg h, decide_eq_true h']; rfl⟩
  obtain ⟨p, ⟨K1, e1⟩, hp⟩ := drawPolyThrough_ev (bytes_of hw)
  have hr := polyThrough_length p
  obtain ⟨r, er⟩ : ∃ r, polyThrough p = r := ⟨_, rfl⟩
  rw [er] at hr
  obtain ⟨K2, e2⟩ := sPolyThrough p (by omega)
  obtain ⟨K3, e3⟩ := loInts_ev r r (by omega)
  obtain ⟨K4, e4⟩ := sPolyOk p (by omega)
  obtain ⟨c, ⟨K5, e5⟩, hcl, hcr⟩ := loSome_ev (m.length : Int) (by omega) p.length (by omega)
  obtain ⟨K6, e6⟩ := loInts_ev (both 47 r (lagr c)) (both 47 r (lagr c)) (by rw [both_length]; omega)
  dsimp only at e1 e2 e3 e4 e5 e6
  rw [er] at e2
  refine ⟨K1 + K2 + K3 + K4 + K5 + K6 + 5, ?_⟩
  rw [if_neg h, decide_eq_false h']
  simp only [laws_FnThroughSum.j0, Bool.false_eq_true, if_false]
  rw [e1 _ (by omega)]
  simp only [Option.bind_some]
  rw [iPolyThrough, er]
  simp only [Option.bind_some]
  rw [e2 _ (by omega)]
  simp only [Option.bind_some]
  rw [e3 _ (by omega)]
  simp only [Option.bind_some, decide_true, if_true]
  rw [e4 _ (by omega)]
  simp only [Option.bind_some, laws_FnThroughSum.j1]
  cases hk : polyOk p
  · simp only [Bool.not_false, if_true]
    rw [e2 _ (by omega)]
    simp only [Option.bind_some]
    rw [e3 _ (by omega)]
    simp only [Option.bind_some, decide_true]
  · obtain ⟨o1, o2⟩ := polyOk_iff.1 hk
    have vp : Vec p.length p := ⟨o1, rfl⟩
    have vc : Vec p.length c := ⟨allOk_iff.2 fun x hx => okF_iff.2 (hcr x hx), hcl⟩
    have er' : lagr p = r := by rw [← er, polyThrough, hk]; rfl
    have hck : polyThrough c = lagr c := by rw [polyThrough, polyOk_iff.2 ⟨vc.1, by omega⟩]; rfl
    have hsk : polyThrough (both 47 p c) = both 47 r (lagr c) := by
      have hs := vec_sum vp vc
      rw [polyThrough, polyOk_iff.2 ⟨hs.1, by rw [hs.2]; omega⟩, if_pos rfl, lagr_sum o2 vp vc, er']
    obtain ⟨s1, s2, _⟩ := lagr_spec o1 o2
    rw [er'] at s1 s2
    obtain ⟨t1, t2, _⟩ := lagr_spec vc.1 (by omega)
    have vr : Vec p.length r := ⟨s2, s1⟩
    have vt : Vec p.length (lagr c) := ⟨t2, by omega⟩
    simp only [Bool.not_true, Bool.false_eq_true, if_false]
    rw [e5 _ (by omega)]
    simp only [Option.bind_some]
    rw [iShareSum, share_vec 47 (by omega) vp vc]
    simp only [Option.bind_some]
    rw [iPolyThrough, hck]
    simp only [Option.bind_some]
    rw [iShareSum, share_vec 47 (by omega) vr vt]
    simp only [Option.bind_some, if_true]
    rw [iPolyThrough, hsk]
    simp only [Option.bind_some]
    rw [e6 _ (by omega)]
    simp only [Option.bind_some, decide_true]
end Go.Proofs.Ytcdnmnipaaooiaa.Pure
end

section
namespace Go.Proofs.YtcdnmnipaaooiaaW.PrintWords
open Go.ChangeShapes Go.WideShapes
theorem sized_ints {H : Type} {enc : TypeId × Value → H} {P : Program} {W : World} {base : Nat} {spare : Nat → Bool} {held : Bool} {t e : TypeId} {k : IntKind} {a : Option Addr} {len cap : Nat} {d : DataW H} {ps : List MemPlace} {ts : List TypeId} {ds : List (DataW H)} {j : Nat}
    (hsz : (DataW.weightsEach P ts ds).all (· ≤ reachBytes) = true) (ht : ts[j]? = some t) (hd : ds[j]? = some d) (hu : P.underlying t = some (.slice e)) (he : P.underlying e = some (.int k)) (hc : P.cellsOf e = 1) {B : Nat} (hB : P.bytesOf e = B)
    (h : DataW.Trod enc P W base spare held t (.slice a len cap) d ps) : len * B ≤ 140737488351232 := by
  obtain ⟨fuel, hf⟩ := h
  rcases open_ints hu he hc hf with ⟨hcs, _⟩ | ⟨x, l, c, zs, hcs, _, hl, _, hz, hx, _, _⟩
  · simp [Value.cells] at hcs
    obtain ⟨rfl, rfl, rfl⟩ := hcs
    simp
  · simp [Value.cells] at hcs
    obtain ⟨rfl, rfl, rfl⟩ := hcs
    obtain ⟨hx, _⟩ := Prod.mk.inj hx
    subst hx
    have z := sized_slice hsz ht hd hu
    rw [hB] at z
    have hl2 : len ≤ zs.length := by
      rw [hz]
      split
      · exact hl
      · exact Nat.le_refl _
    have h1 : (lits (H := H) k (zs.take len)).length + (lits (H := H) k (zs.drop len)).length = zs.length := by
      simp [lits]
      omega
    rw [h1] at z
    exact Nat.le_trans (Nat.mul_le_mul_right _ hl2) z
end Go.Proofs.YtcdnmnipaaooiaaW.PrintWords
end
