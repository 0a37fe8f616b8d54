/- Polynomials as lists of whole numbers, and modulo 31: values, products, roots. Plain facts on lists; no condition but those that each bears. -/
import Derived.Test.YtnkdgonekadibaaMod
namespace Go.Proofs.Ytnkdgonekadibaa.P
open Go.RowKit Go.Proofs.Ytnkdgonekadibaa.Num

/-- All numbers of the field. -/
def allOk (l : List Int) : Bool := l.all okF
theorem allOk_iff {l : List Int} : allOk l = true ↔ ∀ x ∈ l, okF x = true := by simp [allOk, List.all_eq_true]
theorem allOk_cons {x : Int} {l : List Int} : allOk (x :: l) = (okF x && allOk l) := rfl

/-- The value of a polynomial, over the whole numbers. -/
def ev : List Int → Int → Int
  | [], _ => 0
  | c :: l, x => c + x * ev l x

theorem ev_cons (c : Int) (l : List Int) (x : Int) : ev (c :: l) x = c + x * ev l x := rfl

def cof (l : List Int) (j : Nat) : Int := l.getD j 0
theorem cof_nil (j : Nat) : cof [] j = 0 := rfl
theorem cof_zero (c : Int) (l : List Int) : cof (c :: l) 0 = c := rfl
theorem cof_succ (c : Int) (l : List Int) (j : Nat) : cof (c :: l) (j + 1) = cof l j := by simp [cof]
theorem cof_out {l : List Int} {j : Nat} (h : l.length ≤ j) : cof l j = 0 := by simp [cof, List.getD_eq_getElem?_getD, List.getElem?_eq_none h]
theorem cof_in {l : List Int} {j : Nat} (h : j < l.length) : cof l j = l[j] := by simp [cof, List.getD_eq_getElem?_getD, List.getElem?_eq_getElem h]
theorem cof_rng {l : List Int} (h : allOk l = true) (j : Nat) : 0 ≤ cof l j ∧ cof l j ≤ 30 := by
  rcases Nat.lt_or_ge j l.length with hj | hj
  · rw [cof_in hj]; exact okF_iff.1 (allOk_iff.1 h _ (List.getElem_mem hj))
  · rw [cof_out hj]; omega
theorem list_of_cof {a b : List Int} (hl : a.length = b.length) (h : ∀ j, j < a.length → cof a j = cof b j) : a = b := by
  apply List.ext_getElem hl
  intro i h1 h2
  have := h i h1
  rwa [cof_in h1, cof_in h2] at this

theorem ev_zero {l : List Int} (h : ∀ j, cof l j = 0) (x : Int) : ev l x = 0 := by
  induction l with
  | nil => rfl
  | cons c l ih =>
    have h0 := h 0
    rw [cof_zero] at h0
    rw [ev, h0, ih (fun j => by have := h (j + 1); rwa [cof_succ] at this)]
    omega

/-- The value modulo 31 depends on the coefficients modulo 31 alone. -/
theorem ev_mod {a b : List Int} (hl : a.length = b.length) (h : ∀ j, cof a j % 31 = cof b j % 31) (x : Int) : ev a x % 31 = ev b x % 31 := by
  induction a generalizing b with
  | nil => cases b with
    | nil => rfl
    | cons _ _ => cases hl
  | cons c a ih =>
    cases b with
    | nil => cases hl
    | cons d b =>
      have h0 := h 0
      rw [cof_zero, cof_zero] at h0
      have hi := ih (b := b) (by simpa using hl) (fun j => by have := h (j + 1); rwa [cof_succ, cof_succ] at this)
      rw [ev, ev, Int.add_emod, Int.mul_emod, h0, hi, ← Int.mul_emod, ← Int.add_emod]

/-! ### products -/
/-- Coefficient j of the product. -/
def S : List Int → List Int → Nat → Int
  | [], _, _ => 0
  | x :: a, b, j => x * cof b j + match j with | 0 => 0 | j + 1 => S a b j
theorem S_zero (x : Int) (a b : List Int) : S (x :: a) b 0 = x * cof b 0 := by simp [S]
theorem S_succ (x : Int) (a b : List Int) (j : Nat) : S (x :: a) b (j + 1) = x * cof b (j + 1) + S a b j := rfl
theorem S_snoc (a : List Int) (x : Int) (b : List Int) : ∀ j, S (a ++ [x]) b j = S a b j + if a.length ≤ j then x * cof b (j - a.length) else 0 := by
  induction a with
  | nil =>
    intro j
    cases j with
    | zero => simp [S]
    | succ j => simp [S]
  | cons y a ih =>
    intro j
    cases j with
    | zero => rw [List.cons_append, S_zero, S_zero]; simp
    | succ j =>
      rw [List.cons_append, S_succ, S_succ, ih j]
      simp only [List.length_cons, Nat.add_le_add_iff_right, Nat.add_sub_add_right]
      omega
theorem S_out (a b : List Int) : ∀ j, a.length + b.length ≤ j + 1 → S a b j = 0 := by
  induction a with
  | nil => intro j _; rfl
  | cons x a ih =>
    intro j h
    simp only [List.length_cons] at h
    cases j with
    | zero =>
      rw [S_zero, cof_out (by omega), Int.mul_zero]
    | succ j => rw [S_succ, ih j (by omega), cof_out (by omega), Int.mul_zero]; rfl

/-- The list of F 0, .., F (n - 1). -/
def tab (n : Nat) (F : Nat → Int) : List Int := (List.range n).map F
theorem tab_length (n : Nat) (F : Nat → Int) : (tab n F).length = n := by simp [tab]
theorem tab_at {n : Nat} {F : Nat → Int} {j : Nat} (h : j < n) : (tab n F)[j]'(by rw [tab_length]; exact h) = F j := by simp [tab]
theorem tab_cof {n : Nat} {F : Nat → Int} {j : Nat} (h : j < n) : cof (tab n F) j = F j := by rw [cof_in (by rw [tab_length]; exact h), tab_at h]
theorem tab_set (n : Nat) (F : Nat → Int) (p : Nat) (v : Int) : (tab n F).set p v = tab n (fun j => if j = p then v else F j) := by
  apply List.ext_getElem
  · simp [tab]
  · intro i h1 h2
    simp only [tab, List.length_set, List.length_map, List.length_range] at h1
    rw [List.getElem_set, tab_at h1, tab_at h1]
    by_cases e : p = i
    · subst e; simp
    · rw [if_neg e, if_neg (fun h => e h.symm)]
theorem tab_congr {n : Nat} {F G : Nat → Int} (h : ∀ j, j < n → F j = G j) : tab n F = tab n G := List.map_congr_left fun j hj => h j (List.mem_range.1 hj)
theorem tab_zero (n : Nat) : tab n (fun _ => 0) = List.replicate n 0 := List.ext_getElem (by simp [tab]) (fun i h1 h2 => by simp [tab])
theorem tab_of (l : List Int) : tab l.length (cof l) = l := list_of_cof (tab_length _ _) (fun j hj => by rw [tab_length] at hj; exact tab_cof hj)
theorem tab_ok (n : Nat) (F : Nat → Int) : allOk (tab n (fun j => F j % 31)) = true := by
  rw [allOk_iff]; intro x hx
  simp only [tab, List.mem_map] at hx
  obtain ⟨j, _, rfl⟩ := hx
  exact okF_mod _

theorem ev_tab_add (n : Nat) : ∀ (F G : Nat → Int) (x : Int), ev (tab n (fun j => F j + G j)) x = ev (tab n F) x + ev (tab n G) x := by
  induction n with
  | zero => intro F G x; rfl
  | succ n ih =>
    intro F G x
    have e : ∀ H : Nat → Int, tab (n + 1) H = H 0 :: tab n (fun j => H (j + 1)) := fun H => by simp [tab, List.range_succ_eq_map]
    rw [e, e, e, ev, ev, ev, ih, Int.mul_add]
    omega
theorem ev_tab_mul (n : Nat) : ∀ (c : Int) (F : Nat → Int) (x : Int), ev (tab n (fun j => c * F j)) x = c * ev (tab n F) x := by
  induction n with
  | zero => intro c F x; exact (Int.mul_zero c).symm
  | succ n ih =>
    intro c F x
    have e : ∀ H : Nat → Int, tab (n + 1) H = H 0 :: tab n (fun j => H (j + 1)) := fun H => by simp [tab, List.range_succ_eq_map]
    rw [e, e, ev, ev, ih, Int.mul_add, Int.mul_left_comm]
theorem tab_cons (n : Nat) (H : Nat → Int) : tab (n + 1) H = H 0 :: tab n (fun j => H (j + 1)) := by simp [tab, List.range_succ_eq_map]
/-- More coefficients that are 0 change no value. -/
theorem ev_tab_long (l : List Int) : ∀ (n : Nat) (x : Int), l.length ≤ n → ev (tab n (cof l)) x = ev l x := by
  induction l with
  | nil => intro n x _; exact ev_zero (fun j => by rcases Nat.lt_or_ge j n with h | h; exact tab_cof h; exact cof_out (by rw [tab_length]; exact h)) x
  | cons c l ih =>
    intro n x h
    obtain ⟨n, rfl⟩ : ∃ m, n = m + 1 := ⟨n - 1, by simp at h; omega⟩
    rw [tab_cons, ev, ev, cof_zero]
    have := ih n x (by simpa using h)
    rw [show (fun j => cof (c :: l) (j + 1)) = cof l from funext fun j => cof_succ c l j, this]

/-- The product's value is the product of the values. -/
theorem ev_S (a b : List Int) : ∀ (n : Nat) (x : Int), a.length + b.length ≤ n + 1 → ev (tab n (S a b)) x = ev a x * ev b x := by
  induction a with
  | nil =>
    intro n x _
    rw [ev, Int.zero_mul]
    exact ev_zero (fun j => by rcases Nat.lt_or_ge j n with h | h; exact tab_cof h; exact cof_out (by rw [tab_length]; exact h)) x
  | cons y a ih =>
    intro n x h
    simp only [List.length_cons] at h
    have e1 : ev (tab n (S (y :: a) b)) x = ev (tab n (fun j => y * cof b j)) x + ev (tab n (fun j => match j with | 0 => 0 | j + 1 => S a b j)) x := by
      rw [← ev_tab_add]; congr 1
    rw [e1, ev_tab_mul, ev_tab_long b n x (by omega), ev, Int.add_mul]
    congr 1
    cases n with
    | zero =>
      have : b.length = 0 := by omega
      have hb : b = [] := List.eq_nil_of_length_eq_zero this
      subst hb
      simp [tab, ev]
    | succ n =>
      rw [tab_cons, ev, ih n x (by omega)]
      simp only
      rw [Int.zero_add, Int.mul_assoc]

/-- A list of numbers from 0 to B - 1 is told by its value at B. -/
theorem ev_digits (B : Int) (hB : 0 < B) : ∀ {a b : List Int}, a.length = b.length → (∀ j, 0 ≤ cof a j ∧ cof a j < B) → (∀ j, 0 ≤ cof b j ∧ cof b j < B) → ev a B = ev b B → a = b := by
  intro a
  induction a with
  | nil => intro b hl _ _ _; exact (List.eq_nil_of_length_eq_zero hl.symm).symm
  | cons c a ih =>
    intro b hl ha hb he
    cases b with
    | nil => cases hl
    | cons d b =>
      have a0 := ha 0
      have b0 := hb 0
      rw [cof_zero] at a0 b0
      rw [ev, ev] at he
      have m1 : (c + B * ev a B) % B = c := by rw [Int.add_mul_emod_self_left, Int.emod_eq_of_lt a0.1 a0.2]
      have m2 : (d + B * ev b B) % B = d := by rw [Int.add_mul_emod_self_left, Int.emod_eq_of_lt b0.1 b0.2]
      have hcd : c = d := by rw [← m1, ← m2, he]
      subst hcd
      have : B * ev a B = B * ev b B := by omega
      have he2 := Int.eq_of_mul_eq_mul_left (by omega) this
      rw [ih (by simpa using hl) (fun j => by have := ha (j + 1); rwa [cof_succ] at this) (fun j => by have := hb (j + 1); rwa [cof_succ] at this) he2]

/-- A bound of a list's numbers. -/
theorem cof_bound (l : List Int) : ∃ B : Int, 0 < B ∧ ∀ j, cof l j < B := by
  induction l with
  | nil => exact ⟨1, by omega, fun j => by rw [cof_nil]; omega⟩
  | cons c l ih =>
    obtain ⟨B, h0, h⟩ := ih
    refine ⟨B + (if 0 ≤ c then c else 0) + 1, by split <;> omega, fun j => ?_⟩
    cases j with
    | zero => rw [cof_zero]; split <;> omega
    | succ j => rw [cof_succ]; have := h j; split <;> omega
/-- Two lists of one length, of numbers from 0 on, with the same values are the same. -/
theorem ev_same {a b : List Int} (hl : a.length = b.length) (ha : ∀ j, 0 ≤ cof a j) (hb : ∀ j, 0 ≤ cof b j) (h : ∀ x, ev a x = ev b x) : a = b := by
  obtain ⟨B1, p1, h1⟩ := cof_bound a
  obtain ⟨B2, p2, h2⟩ := cof_bound b
  exact ev_digits (B1 + B2) (by omega) hl (fun j => ⟨ha j, by have := h1 j; omega⟩) (fun j => ⟨hb j, by have := h2 j; omega⟩) (h _)

theorem S_nonneg {a b : List Int} (ha : ∀ x ∈ a, 0 ≤ x) (hb : ∀ j, 0 ≤ cof b j) : ∀ j, 0 ≤ S a b j := by
  induction a with
  | nil => intro j; exact Int.le_refl 0
  | cons x a ih =>
    intro j
    have hx := ha x (by simp)
    have := Int.mul_nonneg hx (hb j)
    cases j with
    | zero => rw [S_zero]; exact Int.mul_nonneg hx (hb 0)
    | succ j => rw [S_succ]; have h2 := ih (fun y hy => ha y (by simp [hy])) j; have h3 := Int.mul_nonneg hx (hb (j + 1)); omega

/-- The product modulo 31. -/
def prod (a b : List Int) : List Int := if a.length = 0 ∨ b.length = 0 then [] else tab (a.length + b.length - 1) (fun j => S a b j % 31)
theorem prod_def {a b : List Int} (h : ¬ (a.length = 0 ∨ b.length = 0)) : prod a b = tab (a.length + b.length - 1) (fun j => S a b j % 31) := by unfold prod; rw [if_neg h]
theorem prod_length (a b : List Int) : (prod a b).length = if a.length = 0 ∨ b.length = 0 then 0 else a.length + b.length - 1 := by unfold prod; split <;> simp [tab_length]
theorem prod_ok (a b : List Int) : allOk (prod a b) = true := by unfold prod; split; rfl; exact tab_ok _ _
theorem prod_ev (a b : List Int) (x : Int) : ev (prod a b) x % 31 = (ev a x * ev b x) % 31 := by
  unfold prod
  split
  · rename_i h
    rcases h with h | h
    · rw [List.eq_nil_of_length_eq_zero h]; simp [ev]
    · rw [List.eq_nil_of_length_eq_zero h]; simp [ev]
  · rename_i h
    rw [← ev_S a b (a.length + b.length - 1) x (by omega)]
    refine ev_mod (by simp [tab_length]) (fun j => ?_) x
    rcases Nat.lt_or_ge j (a.length + b.length - 1) with hj | hj
    · rw [tab_cof hj, tab_cof hj, Int.emod_emod_of_dvd _ (Int.dvd_refl 31)]
    · rw [cof_out (by rw [tab_length]; exact hj), cof_out (by rw [tab_length]; exact hj)]

/-- Two lists of one length whose products over the whole numbers are the same. -/
theorem S_eq {a b c d : List Int} {n : Nat} (h1 : a.length + b.length = n + 1) (h2 : c.length + d.length = n + 1) (ha : ∀ x ∈ a, 0 ≤ x) (hb : ∀ x ∈ b, 0 ≤ x) (hc : ∀ x ∈ c, 0 ≤ x) (hd : ∀ x ∈ d, 0 ≤ x) (he : ∀ x, ev a x * ev b x = ev c x * ev d x) : ∀ j, j < n → S a b j = S c d j := by
  have nn : ∀ {l : List Int}, (∀ x ∈ l, 0 ≤ x) → ∀ j, 0 ≤ cof l j := fun {l} h j => by
    rcases Nat.lt_or_ge j l.length with hj | hj
    · rw [cof_in hj]; exact h _ (List.getElem_mem hj)
    · rw [cof_out hj]; omega
  have ht : ∀ {p q : List Int}, (∀ x ∈ p, 0 ≤ x) → (∀ x ∈ q, 0 ≤ x) → ∀ j, 0 ≤ cof (tab n (S p q)) j := fun {p q} hp hq j => by
    rcases Nat.lt_or_ge j n with hj | hj
    · rw [tab_cof hj]; exact S_nonneg hp (nn hq) j
    · rw [cof_out (by rw [tab_length]; exact hj)]; omega
  have := ev_same (a := tab n (S a b)) (b := tab n (S c d)) (by simp [tab_length]) (ht ha hb) (ht hc hd) (fun x => by rw [ev_S a b n x (by omega), ev_S c d n x (by omega), he x])
  intro j hj
  have h3 := congrArg (fun l => cof l j) this
  simpa only [tab_cof hj] using h3

theorem allOk_nonneg {l : List Int} (h : allOk l = true) : ∀ x ∈ l, 0 ≤ x := fun x hx => (okF_iff.1 (allOk_iff.1 h x hx)).1

theorem prod_comm {a b : List Int} (ha : allOk a = true) (hb : allOk b = true) : prod a b = prod b a := by
  unfold prod
  by_cases h : a.length = 0 ∨ b.length = 0
  · rw [if_pos h, if_pos h.symm]
  · rw [if_neg h, if_neg (fun h' => h h'.symm), Nat.add_comm b.length a.length]
    refine tab_congr fun j hj => ?_
    rw [S_eq (n := a.length + b.length - 1) (by omega) (by omega) (allOk_nonneg ha) (allOk_nonneg hb) (allOk_nonneg hb) (allOk_nonneg ha) (fun x => Int.mul_comm _ _) j hj]

theorem S_mod_l {b : List Int} : ∀ {a a' : List Int}, a.length = a'.length → (∀ j, cof a j % 31 = cof a' j % 31) → ∀ j, S a b j % 31 = S a' b j % 31 := by
  intro a
  induction a with
  | nil => intro a' hl _ j; rw [List.eq_nil_of_length_eq_zero hl.symm]
  | cons x a ih =>
    intro a' hl h j
    cases a' with
    | nil => cases hl
    | cons y a' =>
      have h0 := h 0
      rw [cof_zero, cof_zero] at h0
      have hx : ∀ z : Int, (x * z) % 31 = (y * z) % 31 := fun z => by rw [Int.mul_emod, h0, ← Int.mul_emod]
      cases j with
      | zero => rw [S_zero, S_zero]; exact hx _
      | succ j =>
        rw [S_succ, S_succ, Int.add_emod, hx, ih (a' := a') (by simpa using hl) (fun j => by have := h (j + 1); rwa [cof_succ, cof_succ] at this) j, ← Int.add_emod]
theorem S_mod_r {b b' : List Int} (h : ∀ j, cof b j % 31 = cof b' j % 31) : ∀ (a : List Int) (j : Nat), S a b j % 31 = S a b' j % 31 := by
  intro a
  induction a with
  | nil => intro j; rfl
  | cons x a ih =>
    intro j
    have hx : ∀ i, (x * cof b i) % 31 = (x * cof b' i) % 31 := fun i => by rw [Int.mul_emod, h i, ← Int.mul_emod]
    cases j with
    | zero => rw [S_zero, S_zero]; exact hx _
    | succ j => rw [S_succ, S_succ, Int.add_emod, hx, ih j, ← Int.add_emod]

/-- The product over the whole numbers. -/
def P0 (a b : List Int) : List Int := tab (a.length + b.length - 1) (S a b)
theorem P0_nonneg {a b : List Int} (ha : ∀ x ∈ a, 0 ≤ x) (hb : ∀ x ∈ b, 0 ≤ x) : ∀ x ∈ P0 a b, 0 ≤ x := by
  intro x hx
  simp only [P0, tab, List.mem_map] at hx
  obtain ⟨j, _, rfl⟩ := hx
  refine S_nonneg ha (fun j => ?_) j
  rcases Nat.lt_or_ge j b.length with hj | hj
  · rw [cof_in hj]; exact hb _ (List.getElem_mem hj)
  · rw [cof_out hj]; omega
theorem prod_P0 {a b : List Int} (h : ¬ (a.length = 0 ∨ b.length = 0)) (j : Nat) : cof (prod a b) j % 31 = cof (P0 a b) j % 31 := by
  unfold prod P0
  rw [if_neg h]
  rcases Nat.lt_or_ge j (a.length + b.length - 1) with hj | hj
  · rw [tab_cof hj, tab_cof hj, Int.emod_emod_of_dvd _ (Int.dvd_refl 31)]
  · rw [cof_out (by rw [tab_length]; exact hj), cof_out (by rw [tab_length]; exact hj)]

theorem prod_assoc {a b c : List Int} (ha : allOk a = true) (hb : allOk b = true) (hc : allOk c = true) : prod (prod a b) c = prod a (prod b c) := by
  by_cases h0 : a.length = 0 ∨ b.length = 0 ∨ c.length = 0
  · have l1 : (prod a b).length = 0 ∨ c.length = 0 := by rw [prod_length]; split <;> omega
    have l2 : a.length = 0 ∨ (prod b c).length = 0 := by rw [prod_length]; split <;> omega
    rw [prod, if_pos l1, prod, if_pos l2]
  · have hab : ¬ (a.length = 0 ∨ b.length = 0) := by omega
    have hbc : ¬ (b.length = 0 ∨ c.length = 0) := by omega
    have lab : (prod a b).length = a.length + b.length - 1 := by rw [prod_length, if_neg hab]
    have lbc : (prod b c).length = b.length + c.length - 1 := by rw [prod_length, if_neg hbc]
    rw [prod_def (a := prod a b) (b := c) (by omega), prod_def (a := a) (b := prod b c) (by omega), lab, lbc]
    rw [show a.length + b.length - 1 + c.length - 1 = a.length + (b.length + c.length - 1) - 1 by omega]
    refine tab_congr fun j hj => ?_
    rw [S_mod_l (a' := P0 a b) (by rw [lab, P0, tab_length]) (prod_P0 hab) j, S_mod_r (b' := P0 b c) (prod_P0 hbc) a j]
    congr 1
    have na := allOk_nonneg ha
    have nb := allOk_nonneg hb
    have nc := allOk_nonneg hc
    refine S_eq (n := a.length + (b.length + c.length - 1) - 1) (by rw [P0, tab_length]; omega) (by rw [P0, tab_length]; omega) (P0_nonneg na nb) nc na (P0_nonneg nb nc) (fun x => ?_) j hj
    rw [P0, P0, ev_S a b _ x (by omega), ev_S b c _ x (by omega), Int.mul_assoc]

theorem prod_one {a : List Int} (ha : allOk a = true) : prod a [1] = a := by
  rw [prod_comm ha rfl]
  by_cases h : a.length = 0
  · rw [List.eq_nil_of_length_eq_zero h]; rfl
  · rw [prod_def (by simp only [List.length_cons, List.length_nil]; omega)]
    refine list_of_cof (by simp [tab_length]) (fun j hj => ?_)
    rw [tab_length] at hj
    rw [tab_cof hj]
    have hr := cof_rng ha j
    have : S [1] a j = cof a j := by cases j <;> simp [S]
    rw [this]; omega
theorem prod_shift {a : List Int} (ha : allOk a = true) (h : a.length ≠ 0) : prod a [0, 1] = 0 :: a := by
  rw [prod_comm ha rfl, prod_def (by simp only [List.length_cons, List.length_nil]; omega)]
  refine list_of_cof (by simp [tab_length]; omega) (fun j hj => ?_)
  rw [tab_length] at hj
  rw [tab_cof hj]
  cases j with
  | zero => simp [S, cof_zero]
  | succ j =>
    have hr := cof_rng ha j
    have : S [0, 1] a (j + 1) = cof a j := by cases j <;> simp [S]
    rw [this, cof_succ]; omega

/-! ### roots -/
/-- What is left of a polynomial, one root taken out. -/
def quo (r : Int) : List Int → List Int
  | [] => []
  | [_] => []
  | _ :: c :: l => ev (c :: l) r :: quo r (c :: l)
theorem quo_length (r : Int) : ∀ l : List Int, (quo r l).length = l.length - 1
  | [] => rfl
  | [_] => rfl
  | _ :: c :: l => by rw [quo, List.length_cons, quo_length r (c :: l)]; simp
theorem quo_ev (r x : Int) : ∀ l : List Int, ev l x = (x - r) * ev (quo r l) x + ev l r
  | [] => by simp [ev, quo]
  | [c] => by simp [ev, quo]
  | a :: c :: l => by
    have ih := quo_ev r x (c :: l)
    rw [quo, ev_cons a, ev_cons a, ev_cons (ev (c :: l) r)]
    generalize ev (c :: l) r = R at ih ⊢
    generalize ev (quo r (c :: l)) x = Q at ih ⊢
    rw [ih]
    have e1 : (x - r) * (R + x * Q) = (x - r) * R + x * ((x - r) * Q) := by rw [Int.mul_add, Int.mul_left_comm]
    have e2 : x * ((x - r) * Q + R) = x * ((x - r) * Q) + x * R := Int.mul_add _ _ _
    have e3 : (x - r) * R = x * R - r * R := Int.sub_mul _ _ _
    omega
/-- All coefficients are 0 modulo 31. -/
def zeroM (l : List Int) : Prop := ∀ j, cof l j % 31 = 0
theorem quo_zero (r : Int) : ∀ l : List Int, ev l r % 31 = 0 → zeroM (quo r l) → zeroM l
  | [], _, _ => fun j => by rw [cof_nil]; rfl
  | [c], he, _ => fun j => by
    cases j with
    | zero => rw [cof_zero]; simpa [ev] using he
    | succ j => rw [cof_succ, cof_nil]; rfl
  | a :: c :: l, he, hz => by
    have h0 := hz 0
    rw [quo, cof_zero] at h0
    have ih := quo_zero r (c :: l) h0 (fun j => by have := hz (j + 1); rwa [quo, cof_succ] at this)
    intro j
    cases j with
    | zero =>
      rw [cof_zero]
      rw [ev, Int.add_emod, Int.mul_emod, h0, Int.mul_zero] at he
      simpa using he
    | succ j => rw [cof_succ]; exact ih j

/-- How many of the numbers from s on, d of them, p holds of. -/
def cntN (p : Nat → Bool) : Nat → Nat → Nat
  | _, 0 => 0
  | s, d + 1 => (if p s then 1 else 0) + cntN p (s + 1) d
theorem cntN_mono {p q : Nat → Bool} : ∀ d s, (∀ i, s ≤ i → i < s + d → p i = true → q i = true) → cntN p s d ≤ cntN q s d := by
  intro d
  induction d with
  | zero => intro s _; exact Nat.le_refl _
  | succ d ih =>
    intro s h
    have h1 := ih (s + 1) (fun i h1 h2 => h i (by omega) (by omega))
    have h2 := h s (by omega) (by omega)
    unfold cntN
    cases hp : p s
    · simp only [Bool.false_eq_true, if_false]; omega
    · rw [h2 hp]; omega
theorem cntN_none {p : Nat → Bool} : ∀ d s, (∀ i, s ≤ i → i < s + d → p i = false) → cntN p s d = 0 := by
  intro d
  induction d with
  | zero => intro s _; rfl
  | succ d ih =>
    intro s h
    unfold cntN
    rw [h s (by omega) (by omega), ih (s + 1) (fun i h1 h2 => h i (by omega) (by omega))]; rfl
theorem cntN_all {p : Nat → Bool} : ∀ d s, (∀ i, s ≤ i → i < s + d → p i = true) → cntN p s d = d := by
  intro d
  induction d with
  | zero => intro s _; rfl
  | succ d ih =>
    intro s h
    unfold cntN
    rw [h s (by omega) (by omega), ih (s + 1) (fun i h1 h2 => h i (by omega) (by omega)), if_pos rfl]; omega
/-- One more. -/
theorem cntN_or {p q : Nat → Bool} {r : Nat} : ∀ d s, (∀ i, s ≤ i → i < s + d → p i = true → i = r ∨ q i = true) → cntN p s d ≤ cntN q s d + 1 := by
  intro d
  induction d with
  | zero => intro s _; exact Nat.zero_le _
  | succ d ih =>
    intro s h
    by_cases e : s = r
    · have h1 : cntN p (s + 1) d ≤ cntN q (s + 1) d := cntN_mono d (s + 1) (fun i h1 h2 hp => (h i (by omega) (by omega) hp).resolve_left (by omega))
      unfold cntN
      split <;> split <;> omega
    · have h1 := ih (s + 1) (fun i h1 h2 => h i (by omega) (by omega))
      have h2 := h s (by omega) (by omega)
      unfold cntN
      cases hp : p s
      · simp only [Bool.false_eq_true, if_false]; split <;> omega
      · rw [(h2 hp).resolve_left e]; simp only [if_true]; omega

/-- The roots among the numbers of the field. -/
def roots (l : List Int) (d : Nat) : Nat := cntN (fun i => decide (ev l (i : Int) % 31 = 0)) 0 d
theorem roots_few (d : Nat) (hd : d ≤ 31) : ∀ (n : Nat) (l : List Int), l.length = n → ¬ zeroM l → roots l d < n := by
  intro n
  induction n with
  | zero =>
    intro l hl hz
    rw [List.eq_nil_of_length_eq_zero hl] at hz
    exact absurd (fun j => by rw [cof_nil]; rfl) hz
  | succ n ih =>
    intro l hl hz
    by_cases hr : ∃ r : Nat, r < d ∧ ev l (r : Int) % 31 = 0
    · obtain ⟨r, hrd, hr⟩ := hr
      have hq : ¬ zeroM (quo (r : Int) l) := fun h => hz (quo_zero _ l hr h)
      have hn := ih (quo (r : Int) l) (by rw [quo_length, hl]; rfl) hq
      have : roots l d ≤ roots (quo (r : Int) l) d + 1 := by
        refine cntN_or (r := r) d 0 (fun i _ h2 hp => ?_)
        simp only [decide_eq_true_eq] at hp ⊢
        rw [quo_ev (r : Int) (i : Int) l, Int.add_emod, hr, Int.add_zero, Int.emod_emod_of_dvd _ (Int.dvd_refl 31)] at hp
        rcases zd hp with h | h
        · exact .inl (by omega)
        · exact .inr h
      omega
    · have : roots l d = 0 := cntN_none d 0 (fun i _ h2 => by
        simp only [decide_eq_false_iff_not]
        exact fun h => hr ⟨i, by omega, h⟩)
      omega

/-- Two polynomials of n coefficients with the same values at 0, .., n - 1 are the same. -/
theorem same_of_values {a b : List Int} {n : Nat} (hn : n ≤ 31) (hla : a.length = n) (hlb : b.length = n) (ha : allOk a = true) (hb : allOk b = true) (h : ∀ i : Nat, i < n → ev a (i : Int) % 31 = ev b (i : Int) % 31) : a = b := by
  have hs : ∀ x, ev (tab n (fun j => cof a j + 30 * cof b j)) x = ev a x + 30 * ev b x := fun x => by
    rw [ev_tab_add, ev_tab_mul, ev_tab_long a n x (by omega), ev_tab_long b n x (by omega)]
  by_cases hz : zeroM (tab n (fun j => cof a j + 30 * cof b j))
  · refine list_of_cof (by omega) (fun j hj => ?_)
    have := hz j
    rw [tab_cof (by omega)] at this
    have h1 := cof_rng ha j
    have h2 := cof_rng hb j
    omega
  · have h1 := roots_few n hn n _ (tab_length _ _) hz
    have h2 : roots (tab n (fun j => cof a j + 30 * cof b j)) n = n := cntN_all n 0 (fun i _ h2 => by
      simp only [decide_eq_true_eq]
      rw [hs]
      have := h i (by omega)
      omega)
    omega

end Go.Proofs.Ytnkdgonekadibaa.P
