import Derived.Test.YtcdnmnipaaooiaaShareAgainPackB
import Derived.Test.YtcdnmnipaaooiaaKitI
import Derived.Test.YtcdnmnipaaooiaaShareAgainPackA
import Derived.Test.YtcdnmnipaaooiaaKitG
import Derived.SizedLaws
import Derived.ChangeSlices
-- Written by a program of this session (wip/tools/pack.py): texts of this seat laid one behind the other, without what the claim does not reach
section
namespace Go.Proofs.Ytcdnmnipaaooiaa.P
open Go.RowKit Go.Proofs.Ytcdnmnipaaooiaa.Num Go.Proofs.YtcdnmnipaaooiaaW.PrintWords
/-- What comes of two lists of field numbers, of one length. -/
def pairOk (a b : List Int) : Bool := shareOk a && shareOk b && decide (a.length = b.length)
theorem okAll_eq (a b : List Int) : okAll a b = pairOk a b := by
  unfold okAll pairOk shareOk allOk
  rw [okN_okF, Bool.and_comm (a.all okF), Bool.and_comm (b.all okF)]
theorem pairOk_iff {a b : List Int} : pairOk a b = true ↔ allOk a = true ∧ a.length ≤ 20 ∧ allOk b = true ∧ b.length = a.length := by
  simp only [pairOk, Bool.and_eq_true, shareOk_iff, decide_eq_true_eq]
  constructor
  · rintro ⟨⟨⟨h1, h2⟩, h3, h4⟩, h5⟩; exact ⟨h1, h2, h3, h5.symm⟩
  · rintro ⟨h1, h2, h3, h4⟩; exact ⟨⟨⟨h1, h2⟩, h3, by omega⟩, h4.symm⟩
theorem both_length (f : Nat) (a b : List Int) : (both f a b).length = a.length := by simp [both]
theorem both_at (f : Nat) (a b : List Int) {i : Nat} (h : i < a.length) : (both f a b)[i]'(by rw [both_length]; exact h) = mk f (cof a i) (cof b i) := by simp [both, outs, cof]
theorem both_take (f : Nat) (a b : List Int) {i : Nat} (h : i < a.length) : (both f a b).take i ++ [mk f (cof a i) (cof b i)] = (both f a b).take (i + 1) := by
  rw [List.take_succ_eq_append_getElem (by rw [both_length]; exact h), both_at f a b h]
theorem mk47 {x y : Int} (hx : 0 ≤ x ∧ x ≤ 30) (hy : 0 ≤ y ∧ y ≤ 30) : mk 47 x y = fsum x y := by
  rw [fsum_ok (okF_iff.2 hx) (okF_iff.2 hy)]
  unfold mk
  rw [if_pos rfl, w64 (by omega)]
theorem mk49 {x y : Int} (hx : 0 ≤ x ∧ x ≤ 30) (hy : 0 ≤ y ∧ y ≤ 30) : mk 49 x y = fdif x y := by
  rw [fdif_ok (okF_iff.2 hx) (okF_iff.2 hy)]
  unfold mk
  rw [if_neg (by decide), if_pos rfl, w64 (by omega)]
theorem l3Sum_loop {a b : List Int} (ha : allOk a = true) (hb : allOk b = true) (hl : b.length = a.length) (h20 : a.length ≤ 20) (d : Nat) :
    ∀ i : Nat, i + d = a.length → Ev (fun k => spec_l3Sum.l0 k a b ((both 47 a b).take i) (i : Int)) (both 47 a b) := by
  induction d with
  | zero =>
    intro i hi
    refine ⟨1, fun k hk => ?_⟩
    obtain ⟨k, rfl⟩ : ∃ m, k = m + 1 := ⟨k - 1, by omega⟩
    simp only [spec_l3Sum.l0]
    rw [if_neg (by omega), List.take_of_length_le (by rw [both_length]; omega)]
  | succ d ih =>
    intro i hi
    obtain ⟨K, h⟩ := ih (i + 1) (by omega)
    refine ⟨K + 1, fun k hk => ?_⟩
    obtain ⟨k, rfl⟩ : ∃ m, k = m + 1 := ⟨k - 1, by omega⟩
    simp only [spec_l3Sum.l0]
    rw [if_pos (by omega), if_pos (by omega), if_pos (by omega), show rd a (i : Int) = cof a i from rfl, show rd b (i : Int) = cof b i from rfl, sFieldSum, ← mk47 (cof_rng ha i) (cof_rng hb i)]
    simp only [Option.bind_some]
    rw [if_pos (by rw [List.length_take, both_length]; omega), both_take 47 a b (by omega), w64 (by omega)]
    exact h k (by omega)
theorem l3Sum_ev {a b : List Int} (h : pairOk a b = true) : Ev (fun k => spec_l3Sum.f k a b) (both 47 a b) := by
  obtain ⟨h1, h2, h3, h4⟩ := pairOk_iff.1 h
  exact l3Sum_loop h1 h3 h4 h2 a.length 0 (by omega)
theorem share_def (f : Nat) (a b : List Int) : share f a b = if pairOk a b then (both f a b, true) else ([], false) := by unfold share; rw [okAll_eq]
theorem share_len (f : Nat) (a b : List Int) : (share f a b).1.length ≤ 20 := by
  rw [share_def]
  cases h : pairOk a b
  · simp
  · rw [if_pos rfl, both_length]; exact (pairOk_iff.1 h).2.1
/-- What is made for hiding. -/
def made (a b : List Int) : List Int × List Int × Bool := if pairOk a b then (both 49 a b, b, true) else ([], [], false)
theorem iShareSum (a b : List Int) : impl_ShareSum.f a b = some (share 47 a b) := rfl
theorem iShareBack (a b : List Int) : impl_ShareBack.f a b = some (share 47 a b) := rfl
theorem iShareDrawn (a b : List Int) : impl_ShareDrawn.f a b = some (share 49 a b) := rfl
theorem sShareBack (a b : List Int) (hma : a.length < 1099511627776) (hmb : b.length < 1099511627776) : Ev (fun k => spec_ShareBack.f k a b) (share 47 a b) := by
  obtain ⟨K1, h1⟩ := sShareOk a hma
  obtain ⟨K2, h2⟩ := sShareOk b hmb
  dsimp only at h1 h2
  cases h : pairOk a b
  · refine ⟨K1 + K2, fun k hk => ?_⟩
    dsimp only
    unfold spec_ShareBack.f
    rw [share_def, h, h1 _ (by omega)]
    simp only [Option.bind_some]
    cases ha : shareOk a
    · rfl
    rw [if_pos rfl, h2 _ (by omega)]
    simp only [Option.bind_some]
    cases hb : shareOk b
    · rfl
    rw [if_pos rfl, if_neg]
    · rfl
    · intro hl
      simp only [pairOk, ha, hb, Bool.true_and, decide_eq_false_iff_not] at h
      omega
  · obtain ⟨K3, h3⟩ := l3Sum_ev h
    dsimp only at h3
    refine ⟨K1 + K2 + K3, fun k hk => ?_⟩
    have h' := h
    simp only [pairOk, Bool.and_eq_true, decide_eq_true_eq] at h'
    dsimp only
    unfold spec_ShareBack.f
    rw [share_def, h, h1 _ (by omega), h'.1.1]
    simp only [Option.bind_some, if_true]
    rw [h2 _ (by omega), h'.1.2]
    simp only [Option.bind_some, if_true]
    rw [if_pos (by omega), h3 _ (by omega)]
    rfl
end Go.Proofs.Ytcdnmnipaaooiaa.P
end

section
namespace Go.Proofs.Ytcdnmnipaaooiaa.P
open Go.RowKit Go.Proofs.Ytcdnmnipaaooiaa.Num Go.Proofs.YtcdnmnipaaooiaaW.PrintWords
theorem two_l0 {c a : List Int} (ha : a.length ≤ 50) (d : Nat) : ∀ (l : List Int) (p : Int), l.length + d = a.length → Rd c p → p + d ≤ 800000 → ∃ b q, (Ev (fun k => spec_l91Two.l0 k a l (l.length : Int) c p) (a, b, q)) ∧ b.length ≤ a.length + 1 := by
  induction d with
  | zero =>
    intro l p hl h hp
    obtain ⟨v, e, a0, b0⟩ := pick_ev h (n := 20) (by omega)
    have h1 := h.next (by omega)
    by_cases v0 : v = 0
    · refine ⟨l ++ [1], p + 1, ⟨2, fun k hk => ?_⟩, by simp; omega⟩
      obtain ⟨k, rfl⟩ : ∃ m, k = m + 2 := ⟨k - 2, by omega⟩
      simp only [spec_l91Two.l0]
      rw [if_neg (by omega), e _ (by omega)]
      simp only [Option.bind_some]
      rw [if_pos v0, if_pos (by omega)]
    by_cases v1 : v = 1
    · by_cases hl0 : (l.length : Int) > 0
      · obtain ⟨v2, e2, a2, b2⟩ := pick_ev h1 (n := (l.length : Int)) (by omega)
        refine ⟨l.set v2.toNat (-1), p + 1 + 1, ⟨2, fun k hk => ?_⟩, by simp; omega⟩
        obtain ⟨k, rfl⟩ : ∃ m, k = m + 2 := ⟨k - 2, by omega⟩
        simp only [spec_l91Two.l0]
        rw [if_neg (by omega), e _ (by omega)]
        simp only [Option.bind_some]
        rw [if_neg v0, if_pos v1, if_pos hl0, e2 _ (by omega)]
        simp only [Option.bind_some]
        rw [if_pos a2, if_pos b2]
      · refine ⟨l, p + 1, ⟨2, fun k hk => ?_⟩, by omega⟩
        obtain ⟨k, rfl⟩ : ∃ m, k = m + 2 := ⟨k - 2, by omega⟩
        simp only [spec_l91Two.l0]
        rw [if_neg (by omega), e _ (by omega)]
        simp only [Option.bind_some]
        rw [if_neg v0, if_pos v1, if_neg hl0]
    · refine ⟨l, p + 1, ⟨2, fun k hk => ?_⟩, by omega⟩
      obtain ⟨k, rfl⟩ : ∃ m, k = m + 2 := ⟨k - 2, by omega⟩
      simp only [spec_l91Two.l0]
      rw [if_neg (by omega), e _ (by omega)]
      simp only [Option.bind_some]
      rw [if_neg v0, if_neg v1]
  | succ d ih =>
    intro l p hl h hp
    obtain ⟨v, e, a0, b0⟩ := pick_ev h (n := 31) (by omega)
    obtain ⟨b, q, ⟨K, hK⟩, h1⟩ := ih (l ++ [v]) (p + 1) (by simp; omega) (h.next (by omega)) (by omega)
    refine ⟨b, q, ⟨K + 2, fun k hk => ?_⟩, h1⟩
    obtain ⟨k, rfl⟩ : ∃ m, k = m + 1 := ⟨k - 1, by omega⟩
    simp only [spec_l91Two.l0]
    rw [if_pos (by omega), e _ (by omega)]
    simp only [Option.bind_some]
    rw [if_pos (by omega), w64 (by omega), show (l.length : Int) + 1 = ((l ++ [v]).length : Int) by simp]
    exact hK k (by omega)
theorem two_ev {c : List Int} (hb : Bytes c) (hl : c.length ≤ 2000) : ∃ a b q, (Ev (fun k => spec_l91Two.f k c 0) (a, b, q)) ∧ a.length ≤ 12 ∧ b.length ≤ 13 := by
  obtain ⟨a, q, ⟨K, e⟩, h1, h2, h3⟩ := list_ev (c := c) (p := 0) 12 (by omega) ⟨hb, hl, by omega, by omega⟩ (by omega)
  obtain ⟨b, q', ⟨K2, e'⟩, h4⟩ := two_l0 (c := c) (a := a) (by omega) a.length [] q (by simp) ⟨hb, hl, by omega, by omega⟩ (by omega)
  change ∀ k, K ≤ k → spec_l91List.f k c 0 12 = _ at e
  exact ⟨a, b, q', ⟨K + K2, fun k hk => by dsimp only; unfold spec_l91Two.f; rw [e k (by omega)]; exact e' k (by omega)⟩, h1, by omega⟩
theorem drawShareBack_ev {l : List Int} (h : Bytes l) : ∃ a b, Ev (fun k => spec_DrawShareBack.f k l) (a, b) ∧ a.length ≤ 12 ∧ b.length ≤ 13 := by
  obtain ⟨c, ho, hb, hl⟩ := open_ev h
  obtain ⟨a, b, q, ⟨K, e⟩, h1, h2⟩ := two_ev hb hl
  dsimp only at e
  exact ⟨a, b, ⟨K, fun k hk => by dsimp only; unfold spec_DrawShareBack.f; rw [ho]; simp only [Option.bind_some]; rw [e k hk]; rfl⟩, h1, h2⟩
def Vec (n : Nat) (l : List Int) : Prop := allOk l = true ∧ l.length = n
theorem Vec.rng {n : Nat} {l : List Int} (h : Vec n l) (j : Nat) : 0 ≤ cof l j ∧ cof l j ≤ 30 := cof_rng h.1 j
theorem of_pair {a b : List Int} (h : pairOk a b = true) : ∃ n, n ≤ 20 ∧ Vec n a ∧ Vec n b := by
  obtain ⟨h1, h2, h3, h4⟩ := pairOk_iff.1 h
  exact ⟨a.length, h2, ⟨h1, rfl⟩, h3, h4⟩
theorem pair_of {n : Nat} {a b : List Int} (hn : n ≤ 20) (ha : Vec n a) (hb : Vec n b) : pairOk a b = true := pairOk_iff.2 ⟨ha.1, by rw [ha.2]; exact hn, hb.1, by rw [ha.2, hb.2]⟩
theorem share_vec (f : Nat) {n : Nat} {a b : List Int} (hn : n ≤ 20) (ha : Vec n a) (hb : Vec n b) : share f a b = (both f a b, true) := by rw [share_def, pair_of hn ha hb, if_pos rfl]
theorem mk47e {x y : Int} (hx : 0 ≤ x ∧ x ≤ 30) (hy : 0 ≤ y ∧ y ≤ 30) : mk 47 x y = (x + y) % 31 := by rw [mk47 hx hy, fsum_ok (okF_iff.2 hx) (okF_iff.2 hy)]
theorem mk49e {x y : Int} (hx : 0 ≤ x ∧ x ≤ 30) (hy : 0 ≤ y ∧ y ≤ 30) : mk 49 x y = (x - y) % 31 := by rw [mk49 hx hy, fdif_ok (okF_iff.2 hx) (okF_iff.2 hy)]
theorem cof_sum {n : Nat} {a b : List Int} (ha : Vec n a) (hb : Vec n b) {j : Nat} (h : j < n) : cof (both 47 a b) j = (cof a j + cof b j) % 31 := by
  rw [cof_in (by rw [both_length, ha.2]; exact h), both_at 47 a b (by rw [ha.2]; exact h), mk47e (ha.rng j) (hb.rng j)]
theorem cof_dif {n : Nat} {a b : List Int} (ha : Vec n a) (hb : Vec n b) {j : Nat} (h : j < n) : cof (both 49 a b) j = (cof a j - cof b j) % 31 := by
  rw [cof_in (by rw [both_length, ha.2]; exact h), both_at 49 a b (by rw [ha.2]; exact h), mk49e (ha.rng j) (hb.rng j)]
theorem vec_of {n : Nat} {l : List Int} (hl : l.length = n) (h : ∀ j, j < n → 0 ≤ cof l j ∧ cof l j ≤ 30) : Vec n l := by
  refine ⟨allOk_iff.2 fun x hx => ?_, hl⟩
  obtain ⟨i, hi, rfl⟩ := List.getElem_of_mem hx
  rw [← cof_in hi]
  exact okF_iff.2 (h i (by omega))
theorem vec_sum {n : Nat} {a b : List Int} (ha : Vec n a) (hb : Vec n b) : Vec n (both 47 a b) := vec_of (by rw [both_length, ha.2]) fun j hj => by rw [cof_sum ha hb hj]; omega
theorem vec_dif {n : Nat} {a b : List Int} (ha : Vec n a) (hb : Vec n b) : Vec n (both 49 a b) := vec_of (by rw [both_length, ha.2]) fun j hj => by rw [cof_dif ha hb hj]; omega
theorem vec_ext {n : Nat} {a b : List Int} (ha : a.length = n) (hb : b.length = n) (h : ∀ j, j < n → cof a j = cof b j) : a = b := list_of_cof (by rw [ha, hb]) fun j hj => h j (by omega)
theorem again_eq {n : Nat} {a b m : List Int} (ha : Vec n a) (hb : Vec n b) (hm : Vec n m) : both 47 (both 47 a m) (both 49 b m) = both 47 a b := by
  refine vec_ext (vec_sum (vec_sum ha hm) (vec_dif hb hm)).2 (vec_sum ha hb).2 fun j hj => ?_
  rw [cof_sum (vec_sum ha hm) (vec_dif hb hm) hj, cof_sum ha hm hj, cof_dif hb hm hj, cof_sum ha hb hj]
  omega
end Go.Proofs.Ytcdnmnipaaooiaa.P
end

section
namespace Go.Proofs.Ytcdnmnipaaooiaa.P
open Go.RowKit Go.Proofs.Ytcdnmnipaaooiaa.Num Go.Proofs.YtcdnmnipaaooiaaW.PrintWords
theorem loSome_loop (s : Int) (hs : 0 ≤ s ∧ s ≤ 1099511627776) (n : Nat) (hn : n ≤ 1000) (d : Nat) : ∀ (l : List Int) (i : Nat), i + d = n → l.length = i → (∀ x ∈ l, 0 ≤ x ∧ x ≤ 30) → ∃ r, Ev (fun k => laws_loSome.l0 k s (n : Int) l (i : Int)) r ∧ r.length = n ∧ ∀ x ∈ r, 0 ≤ x ∧ x ≤ 30 := by
  induction d with
  | zero =>
    intro l i hi hl h
    refine ⟨l, ⟨1, fun k hk => ?_⟩, by omega, h⟩
    obtain ⟨k, rfl⟩ : ∃ m, k = m + 1 := ⟨k - 1, by omega⟩
    simp only [laws_loSome.l0]
    rw [if_neg (by omega)]
  | succ d ih =>
    intro l i hi hl h
    have m1 : 0 ≤ s * ((i : Int) + 3) ∧ s * ((i : Int) + 3) ≤ 1099511627776 * 1003 := ⟨Int.mul_nonneg hs.1 (by omega), Int.le_trans (Int.mul_le_mul_of_nonneg_right hs.2 (by omega)) (Int.mul_le_mul_of_nonneg_left (by omega) (by omega))⟩
    have m2 : 0 ≤ (i : Int) * (i : Int) ∧ (i : Int) * (i : Int) ≤ 1000 * 1000 := ⟨Int.mul_nonneg (by omega) (by omega), Int.le_trans (Int.mul_le_mul_of_nonneg_right (show (i : Int) ≤ 1000 by omega) (show (0 : Int) ≤ (i : Int) by omega)) (Int.mul_le_mul_of_nonneg_left (show (i : Int) ≤ 1000 by omega) (show (0 : Int) ≤ 1000 by omega))⟩
    obtain ⟨r, ⟨K, hr⟩, lr, hx⟩ := ih (l ++ [(s * ((i : Int) + 3) + (i : Int) * (i : Int)) % 31]) (i + 1) (by omega) (by simp; omega) (by
      intro x hx
      rcases List.mem_append.1 hx with hx | hx
      · exact h x hx
      · rw [List.mem_singleton.1 hx]; omega)
    refine ⟨r, ⟨K + 1, fun k hk => ?_⟩, lr, hx⟩
    obtain ⟨k, rfl⟩ : ∃ m, k = m + 1 := ⟨k - 1, by omega⟩
    simp only [laws_loSome.l0]
    rw [if_pos (by omega), w64 (n := (i : Int) + 3) (by omega), w64 (n := s * ((i : Int) + 3)) (by omega), w64 (n := (i : Int) * (i : Int)) (by omega), w64 (n := _ + _) (by omega), loNum_eq (by omega), w64 (by omega)]
    simp only [Option.bind_some]
    rw [if_pos (by omega)]
    exact hr k (by omega)
theorem loSome_ev (s : Int) (hs : 0 ≤ s ∧ s ≤ 1099511627776) (n : Nat) (hn : n ≤ 1000) : ∃ r, Ev (fun k => laws_loSome.f k s (n : Int)) r ∧ r.length = n ∧ ∀ x ∈ r, 0 ≤ x ∧ x ≤ 30 := loSome_loop s hs n hn n [] 0 (by omega) rfl (by simp)
end Go.Proofs.Ytcdnmnipaaooiaa.P
end

section
namespace Go.Proofs.Ytcdnmnipaaooiaa.Pure
open Go.RowKit Go.Proofs.Ytcdnmnipaaooiaa.P Go.Proofs.Ytcdnmnipaaooiaa.Num Go.Proofs.YtcdnmnipaaooiaaW.PrintWords Go.Proofs.YtcdnmnipaaooiaaW.PrintLast
set_option linter.unusedSimpArgs false
set_option linter.unusedVariables false
theorem FnShareAgain : laws_FnShareAgain.Pure := by
  intro l m _ _ hw _ _ hm
  unfold laws_FnShareAgain.f
  by_cases h : (l.length : Int) > 1048576
  · exact ⟨1, by rw [if_pos h]; rfl⟩
  by_cases h' : (m.length : Int) > 1048576
  · exact ⟨1, by rw [if_neg h, decide_eq_true h']; rfl⟩
  obtain ⟨a, b, ⟨K1, h1⟩, la, lb⟩ := drawShareBack_ev (bytes_of hw)
  obtain ⟨K2, h2⟩ := sShareBack a b (by omega) (by omega)
  have h3 := iShareBack a b
  obtain ⟨r, ok, e⟩ : ∃ r ok, share 47 a b = (r, ok) := ⟨_, _, rfl⟩
  have hr : r.length ≤ 20 := by have := share_len 47 a b; rw [e] at this; exact this
  obtain ⟨K4, h4⟩ := loInts_ev r r (by omega)
  obtain ⟨p, ⟨K5, h5⟩, lp, rp⟩ := loSome_ev (m.length : Int) (by omega) a.length (by omega)
  dsimp only at h1 h2 h4 h5
  refine ⟨K1 + K2 + K4 + K5 + 5, ?_⟩
  rw [if_neg h, decide_eq_false h']
  simp only [laws_FnShareAgain.j0, Bool.false_eq_true, if_false]
  rw [h1 _ (by omega)]
  simp only [Option.bind_some]
  rw [h2 _ (by omega), h3, e]
  simp only [Option.bind_some, bne_self_eq_false, Bool.false_eq_true, if_false]
  rw [h4 _ (by omega)]
  simp only [Option.bind_some, decide_true, if_true, laws_FnShareAgain.j1]
  cases hp : pairOk a b
  · rw [share_def, hp] at e
    simp only [Bool.false_eq_true, if_false, Prod.mk.injEq] at e
    obtain ⟨rfl, rfl⟩ := e
    simp only [Bool.not_false, if_true, beq_self_eq_true]
    rw [h4 _ (by omega)]
    simp only [Option.bind_some, decide_true]
  · obtain ⟨n, hn, va, vb⟩ := of_pair hp
    rw [share_vec 47 hn va vb] at e
    simp only [Prod.mk.injEq] at e
    obtain ⟨rfl, rfl⟩ := e
    simp only [Bool.not_true, Bool.false_eq_true, if_false]
    have vp : Vec n p := ⟨allOk_iff.2 fun x hx => okF_iff.2 (rp x hx), by rw [lp, va.2]⟩
    rw [h5 _ (by omega)]
    simp only [Option.bind_some]
    rw [iShareSum, share_vec 47 hn va vp, iShareDrawn, share_vec 49 hn vb vp]
    simp only [Option.bind_some]
    rw [iShareBack, share_vec 47 hn (vec_sum va vp) (vec_dif vb vp), again_eq va vb vp]
    simp only [Option.bind_some, if_true]
    rw [h4 _ (by omega)]
    simp only [Option.bind_some, decide_true]
end Go.Proofs.Ytcdnmnipaaooiaa.Pure
end

section
namespace Go.Proofs.YtcdnmnipaaooiaaW.PrintWords
open Go.ChangeShapes Go.WideShapes
/-- A row's slice of whole numbers is no longer than its weight allows. -/
theorem sized_ints {H : Type} {enc : TypeId × Value → H} {P : Program} {W : World} {base : Nat} {spare : Nat → Bool} {held : Bool} {t e : TypeId} {k : IntKind} {a : Option Addr} {len cap : Nat} {d : DataW H} {ps : List MemPlace} {ts : List TypeId} {ds : List (DataW H)} {j : Nat}
    (hsz : (DataW.weightsEach P ts ds).all (· ≤ reachBytes) = true) (ht : ts[j]? = some t) (hd : ds[j]? = some d) (hu : P.underlying t = some (.slice e)) (he : P.underlying e = some (.int k)) (hc : P.cellsOf e = 1) {B : Nat} (hB : P.bytesOf e = B)
    (h : DataW.Trod enc P W base spare held t (.slice a len cap) d ps) : len * B ≤ 140737488351232 := by
  obtain ⟨fuel, hf⟩ := h
  rcases open_ints hu he hc hf with ⟨hcs, _⟩ | ⟨x, l, c, zs, hcs, _, hl, _, hz, hx, _, _⟩
  · simp [Value.cells] at hcs
    obtain ⟨rfl, rfl, rfl⟩ := hcs
    simp
  · simp [Value.cells] at hcs
    obtain ⟨rfl, rfl, rfl⟩ := hcs
    obtain ⟨hx, _⟩ := Prod.mk.inj hx
    subst hx
    have z := sized_slice hsz ht hd hu
    rw [hB] at z
    have hl2 : len ≤ zs.length := by
      rw [hz]
      split
      · exact hl
      · exact Nat.le_refl _
    have h1 : (lits (H := H) k (zs.take len)).length + (lits (H := H) k (zs.drop len)).length = zs.length := by
      simp [lits]
      omega
    rw [h1] at z
    exact Nat.le_trans (Nat.mul_le_mul_right _ hl2) z
end Go.Proofs.YtcdnmnipaaooiaaW.PrintWords
end
