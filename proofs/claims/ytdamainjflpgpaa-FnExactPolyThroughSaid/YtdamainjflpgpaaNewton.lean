/- What through computes: by differences, a polynomial of as many numbers as there are values, with these values at 0, 1, 2, .. Conditions: at most 9 values, each a number of the field. -/
import Derived.Test.YtdamainjflpgpaaPolyMul
import Derived.Test.YtdamainjflpgpaaHandThrough
namespace Go.Proofs.Ytdamainjflpgpaa.P
open Go.RowKit Go.Proofs.Ytdamainjflpgpaa.Num Go.Proofs.YtdamainjflpgpaaW.PrintWords
set_option linter.unusedSimpArgs false
set_option linter.unusedVariables false
set_option linter.unusedSectionVars false

theorem eq_mod31 {a b : Int} (c : Int) (h : a = b + 31 * c) : a % 31 = b % 31 := by omega

/-! ### Sums of falling products -/
def fall (x : Int) : Nat → Int
  | 0 => 1
  | i + 1 => fall x i * (x - (i : Int))
def V (c : Nat → Int) (x : Int) : Nat → Int
  | 0 => 0
  | n + 1 => V c x n + c n * fall x n
theorem fall_up (x : Int) : ∀ i : Nat, fall (x + 1) (i + 1) = (x + 1) * fall x i
  | 0 => by simp [fall]
  | i + 1 => by
    rw [fall, fall_up x i, fall]
    have : x + 1 - ((i + 1 : Nat) : Int) = x - (i : Int) := by omega
    rw [this, Int.mul_assoc]
theorem fall_diff (x : Int) (i : Nat) : fall (x + 1) (i + 1) = fall x (i + 1) + ((i : Int) + 1) * fall x i := by
  rw [fall_up, fall]
  generalize fall x i = f
  grind
theorem V_up (c : Nat → Int) (x : Int) : ∀ n : Nat, V c (x + 1) (n + 1) = V c x (n + 1) + V (fun s => ((s : Int) + 1) * c (s + 1)) x n
  | 0 => by simp [V, fall]
  | n + 1 => by
    have h := V_up c x n
    show V c (x + 1) (n + 1) + c (n + 1) * fall (x + 1) (n + 1) = (V c x (n + 1) + c (n + 1) * fall x (n + 1)) + (V (fun s => ((s : Int) + 1) * c (s + 1)) x n + (((n : Int) + 1) * c (n + 1)) * fall x n)
    rw [h, fall_diff]
    generalize V c x (n + 1) = a
    generalize V (fun s => ((s : Int) + 1) * c (s + 1)) x n = b
    generalize fall x (n + 1) = f
    generalize fall x n = g
    generalize c (n + 1) = d
    grind
theorem V_mod {c c' : Nat → Int} (x : Int) : ∀ n : Nat, (∀ s, s < n → c s % 31 = c' s % 31) → V c x n % 31 = V c' x n % 31
  | 0, _ => rfl
  | n + 1, h => by
    have h1 := V_mod (c := c) (c' := c') x n (fun s hs => h s (by omega))
    have h2 := h n (by omega)
    rw [V, V]
    have h3 : (c n * fall x n) % 31 = (c' n * fall x n) % 31 := by rw [Int.mul_emod, h2, ← Int.mul_emod]
    omega
theorem V_sub (c c' : Nat → Int) (x : Int) : ∀ n : Nat, V (fun s => c s - c' s) x n = V c x n - V c' x n
  | 0 => rfl
  | n + 1 => by rw [V, V_sub c c' x n, V, V]; generalize fall x n = f; grind
theorem fall_none : ∀ i : Nat, fall 0 (i + 1) = 0
  | 0 => by simp [fall]
  | i + 1 => by rw [fall, fall_none i]; simp
theorem V_none (c : Nat → Int) : ∀ n : Nat, V c 0 (n + 1) = c 0
  | 0 => by simp [V, fall]
  | n + 1 => by rw [V, V_none c n, fall_none]; simp

/-! ### Differences -/
def D (l : List Int) : Nat → Nat → Int
  | 0, i => cof l i
  | s + 1, i => ((D l s i - D l s (i - 1)) % 31 * inv31 ((s + 1 : Nat) : Int)) % 31
theorem D_ok {l : List Int} (h : allOk l = true) (s i : Nat) : okF (D l s i) = true := by
  cases s with
  | zero => exact okF_iff.2 (cof_rng h i)
  | succ s => exact okF_mod _
theorem back_inv (E v a : Int) (h : (a * v) % 31 = 1) : (a * ((E % 31 * v) % 31)) % 31 = E % 31 := by
  generalize hq : E / 31 = q
  have h1 : E % 31 = E - 31 * q := by omega
  rw [h1]
  generalize hr : ((E - 31 * q) * v) / 31 = r
  have h2 : ((E - 31 * q) * v) % 31 = (E - 31 * q) * v - 31 * r := by omega
  rw [h2]
  generalize ht : (a * v) / 31 = t
  have h3 : a * v = 1 + 31 * t := by omega
  have h4 : a * ((E - 31 * q) * v - 31 * r) = (E - 31 * q) * (a * v) - 31 * (a * r) := by grind
  rw [h4, h3]
  generalize hz : a * r = z
  have h5 : (E - 31 * q) * (1 + 31 * t) = E + 31 * (t * (E - 31 * q) - q) := by grind
  rw [h5]
  generalize t * (E - 31 * q) = y
  omega
theorem D_back (l : List Int) (s i : Nat) (hs : s < 30) : (((s : Int) + 1) * D l (s + 1) i) % 31 = (D l s i - D l s (i - 1)) % 31 := by
  have e : ((s : Int) + 1) = ((s + 1 : Nat) : Int) := by omega
  rw [e, D]
  exact back_inv _ _ _ (inv_one (okF_iff.2 (by omega)) (by omega))
theorem newton_value (l : List Int) : ∀ (m L b : Nat), m < L → L ≤ 30 → V (fun s => D l s (b + s)) (m : Int) L % 31 = D l 0 (b + m) % 31
  | 0, L, b, h, _ => by
    obtain ⟨L, rfl⟩ : ∃ k, L = k + 1 := ⟨L - 1, by omega⟩
    rw [show ((0 : Nat) : Int) = 0 from rfl, V_none]
  | m + 1, L, b, h, hL => by
    obtain ⟨L, rfl⟩ : ∃ k, L = k + 1 := ⟨L - 1, by omega⟩
    have e : ((m + 1 : Nat) : Int) = (m : Int) + 1 := by omega
    rw [e, V_up]
    have h1 := newton_value l m (L + 1) b (by omega) hL
    have h2 := newton_value l m L (b + 1) (by omega) (by omega)
    have h3 := newton_value l m L b (by omega) (by omega)
    have h4 : V (fun s => ((s : Int) + 1) * D l (s + 1) (b + (s + 1))) (m : Int) L % 31 = V (fun s => D l s (b + 1 + s) - D l s (b + s)) (m : Int) L % 31 := by
      refine V_mod _ L fun s hs => ?_
      rw [D_back l s _ (by omega), show b + (s + 1) - 1 = b + s by omega, show b + (s + 1) = b + 1 + s by omega]
    rw [V_sub] at h4
    have h5 : b + 1 + m = b + (m + 1) := by omega
    rw [h5] at h2
    omega

/-! ### The polynomial is put together -/
/-- One round: times x - i, and the next difference. -/
def fin0 (out : List Int) (i : Nat) (j : Nat) : Int := if 0 < j then (((cof out j * ((-(i : Int)) % 31)) % 31) + cof out (j - 1)) % 31 else (cof out j * ((-(i : Int)) % 31)) % 31
def finS (d : Nat → Int) (n : Nat) (out : List Int) (i : Nat) : List Int := tab n (fun j => if j = 0 then (fin0 out i 0 + d i) % 31 else fin0 out i j)
def fin (d : Nat → Int) (n : Nat) (out : List Int) : Nat → List Int
  | 0 => out
  | m + 1 => fin d n (finS d n out m) m
theorem fin0_ok {out : List Int} (h : allOk out = true) (i j : Nat) : okF (fin0 out i j) = true := by unfold fin0; split <;> exact okF_mod _
theorem finS_ok (d : Nat → Int) (n : Nat) {out : List Int} (h : allOk out = true) (i : Nat) : allOk (finS d n out i) = true := by
  rw [allOk_iff]; intro x hx
  simp only [finS, tab, List.mem_map] at hx
  obtain ⟨j, _, rfl⟩ := hx
  split
  · exact okF_mod _
  · exact fin0_ok h _ _
theorem finS_length (d : Nat → Int) (n : Nat) (out : List Int) (i : Nat) : (finS d n out i).length = n := tab_length _ _
theorem ev_tab_top (x : Int) : ∀ (m : Nat) (F : Nat → Int), F m = 0 → ev (tab (m + 1) F) x = ev (tab m F) x
  | 0, F, h => by rw [tab_cons, h]; simp [tab, ev]
  | m + 1, F, h => by rw [tab_cons, ev_cons, ev_tab_top x m _ h, tab_cons m F, ev_cons]
/-- Where the topmost number is 0 nothing is lost. -/
theorem finS_ev {d : Nat → Int} {n : Nat} {out : List Int} (hl : out.length = n) {i : Nat} (hn : 0 < n) (ht : cof out (n - 1) = 0) (x : Int) : ev (finS d n out i) x % 31 = ((x - (i : Int)) * ev out x + d i) % 31 := by
  obtain ⟨n, rfl⟩ : ∃ k, n = k + 1 := ⟨n - 1, by omega⟩
  have hcof : ∀ j, cof (finS d (n + 1) out i) j % 31 = cof (tab (n + 1) (fun j => (-(i : Int)) * cof out j + (if j = 0 then d i else cof out (j - 1)))) j % 31 := by
    intro j
    by_cases hj : j < n + 1
    · rw [finS, tab_cof hj, tab_cof hj]
      have hm : (cof out j * ((-(i : Int)) % 31)) % 31 = ((-(i : Int)) * cof out j) % 31 := by rw [Int.mul_emod, Int.emod_emod_of_dvd _ (Int.dvd_refl 31), ← Int.mul_emod, Int.mul_comm]
      by_cases h0 : j = 0
      · subst h0
        rw [if_pos rfl, if_pos rfl, fin0, if_neg (by omega), hm]
        omega
      · rw [if_neg h0, if_neg h0, fin0, if_pos (by omega), hm]
        omega
    · rw [cof_out (by rw [finS_length]; omega), cof_out (by rw [tab_length]; omega)]
  rw [ev_mod (by rw [finS_length, tab_length]) hcof x, ev_tab_add, ev_tab_mul]
  have h1 : ev (tab (n + 1) (cof out)) x = ev out x := ev_tab_long out _ x (by omega)
  have h2 : ev (tab (n + 1) (fun j => if j = 0 then d i else cof out (j - 1))) x = d i + x * ev out x := by
    rw [tab_cons, ev_cons]
    have h3 : tab n (fun j => (fun j => if j = 0 then d i else cof out (j - 1)) (j + 1)) = tab n (cof out) := tab_congr fun j _ => by simp
    rw [h3, ← ev_tab_top x n (cof out) (by simpa using ht), h1]
    simp
  have h4 : ev (tab (n + 1) fun j => -(i : Int) * cof out j) x = -(i : Int) * ev (tab (n + 1) (cof out)) x := ev_tab_mul _ _ _ _
  rw [h2, h1]
  congr 1
  generalize ev out x = e
  grind
/-- The value of what is put together. -/
theorem fin_spec (d : Nat → Int) (n : Nat) (x : Int) : ∀ (m : Nat) (out : List Int), m ≤ n → out.length = n → allOk out = true → (∀ j, n - m ≤ j → cof out j = 0) →
    (fin d n out m).length = n ∧ allOk (fin d n out m) = true ∧ ev (fin d n out m) x % 31 = (V d x m + fall x m * ev out x) % 31
  | 0, out, _, hl, ho, _ => ⟨hl, ho, by simp [fin, V, fall]⟩
  | m + 1, out, hm, hl, ho, ht => by
    have hz : ∀ j, n - m ≤ j → cof (finS d n out m) j = 0 := by
      intro j hj
      by_cases hjn : j < n
      · rw [finS, tab_cof hjn, if_neg (by omega), fin0, if_pos (by omega), ht j (by omega), ht (j - 1) (by omega)]; simp
      · exact cof_out (by rw [finS_length]; omega)
    obtain ⟨h1, h2, h3⟩ := fin_spec d n x m (finS d n out m) (by omega) (finS_length _ _ _ _) (finS_ok _ _ ho _) hz
    refine ⟨h1, h2, ?_⟩
    rw [fin, h3, V, fall]
    have h4 := finS_ev (d := d) (i := m) hl (by omega) (ht (n - 1) (by omega)) x
    have h5 : (fall x m * ev (finS d n out m) x) % 31 = (fall x m * ((x - (m : Int)) * ev out x + d m)) % 31 := by rw [Int.mul_emod, h4, ← Int.mul_emod]
    have h6 : fall x m * ((x - (m : Int)) * ev out x + d m) = d m * fall x m + fall x m * (x - (m : Int)) * ev out x := by
      generalize fall x m = f; generalize ev out x = e; grind
    rw [h6] at h5
    generalize fall x m * (x - (m : Int)) * ev out x = y at h5 ⊢
    omega

/-! ### The program's loops -/
theorem minusP {a b : Int} (ha : okF a = true) (hb : okF b = true) : impl_element_minus.f a b = some ((a - b) % 31) := by
  have h1 := okF_iff.1 ha; have h2 := okF_iff.1 hb
  unfold impl_element_minus.f; rw [w64 (by omega), elementOf_eq]; rfl
theorem inverseP_fin : ∀ i : Fin 31, impl_element_inverse.f 40 (i.val : Int) = some (inv31 (i.val : Int)) := by decide +kernel
theorem inverseP {a : Int} (ha : okF a = true) (k : Nat) (hk : 40 ≤ k) : impl_element_inverse.f k a = some (inv31 a) := by
  rw [okF_iff] at ha
  obtain ⟨i, rfl⟩ := Int.eq_ofNat_of_zero_le ha.1
  exact at_rounds (impl_element_inverse.mono _) hk (inverseP_fin ⟨i, by omega⟩)
theorem rd_tab {n j : Nat} {F : Nat → Int} (h : j < n) : rd (tab n F) (j : Int) = F j := by rw [rd_cof, tab_cof h]

def dd (l : List Int) (j : Nat) : Int := D l j j
/-- The array ahead of step s; and within it, behind place i. -/
def stA (l : List Int) (n s j : Nat) : Int := if j < n then (if j < s then dd l j else D l (s - 1) j) else 0
def stB (l : List Int) (n s i j : Nat) : Int := if j < n then (if j < s then dd l j else if i < j then D l s j else D l (s - 1) j) else 0
def newton (l : List Int) : List Int := fin (dd l) l.length (List.replicate l.length 0) l.length

section
variable {l : List Int} (hl : allOk l = true) (hn : l.length ≤ 9)
include hl hn
theorem th_l4 {d out : List Int} {R : List Int} (hd : ∀ j, okF (cof d j) = true) (hdl : d.length = 9) (hol : out.length = l.length) (ho : allOk out = true) {i : Nat} (hi : i < l.length)
    (hR : Ev (fun k => throughK.l3 k l d (finS (cof d) l.length out i) ((i : Int) - 1)) R) : ∀ kk : Nat, kk ≤ l.length → Ev (fun k => throughK.l4 k l d (tab l.length (fun j => if kk ≤ j then fin0 out i j else cof out j)) (i : Int) ((kk : Int) - 1)) R
  | 0, _ => by
    obtain ⟨K, h⟩ := hR
    refine ⟨K + 1, fun k hk => ?_⟩
    obtain ⟨k, rfl⟩ : ∃ m, k = m + 1 := ⟨k - 1, by omega⟩
    simp only [throughK.l4]
    rw [if_neg (by omega), tab_length, if_pos (by omega), if_pos (by omega), if_pos (by omega), show (0 : Int) = ((0 : Nat) : Int) from rfl, rd_tab (by omega), rd_cof]
    simp only [Nat.zero_le, if_true]
    rw [plus_ok (fin0_ok ho _ _) (hd i)]
    simp only [Option.bind_some]
    rw [Int.toNat_natCast, tab_set, w64 (by omega)]
    exact h k (by omega)
  | kk + 1, hkk => by
    obtain ⟨K, h⟩ := th_l4 hd hdl hol ho hi hR kk (by omega)
    refine ⟨K + 1, fun k hk => ?_⟩
    obtain ⟨k, rfl⟩ : ∃ m, k = m + 1 := ⟨k - 1, by omega⟩
    have e : ((kk + 1 : Nat) : Int) - 1 = (kk : Int) := by omega
    rw [e]
    simp only [throughK.l4]
    rw [if_pos (by omega), if_pos (by omega), tab_length, if_pos (by omega), w64 (n := -(i : Int)) (by omega), elementOf_eq]
    simp only [Option.bind_some]
    rw [rd_tab (by omega)]
    rw [if_neg (show ¬ kk + 1 ≤ kk by omega), times_ok (okF_iff.2 (cof_rng ho kk)) (okF_mod _)]
    simp only [Option.bind_some]
    have hset : ∀ v, v = fin0 out i kk → (tab l.length (fun j => if kk + 1 ≤ j then fin0 out i j else cof out j)).set kk v = tab l.length (fun j => if kk ≤ j then fin0 out i j else cof out j) := by
      intro v hv
      rw [tab_set]
      refine tab_congr fun j _ => ?_
      by_cases hj : j = kk
      · subst hj; rw [if_pos rfl, if_pos (Nat.le_refl _), hv]
      · rw [if_neg hj]
        by_cases hj2 : kk + 1 ≤ j
        · rw [if_pos hj2, if_pos (by omega)]
        · rw [if_neg hj2, if_neg (by omega)]
    by_cases h0 : kk = 0
    · subst h0
      rw [if_neg (by omega), Int.toNat_natCast, hset _ (by rw [fin0, if_neg (by omega)]), w64 (by omega)]
      exact h k (by omega)
    · have e2 : (kk : Int) - 1 = ((kk - 1 : Nat) : Int) := by omega
      rw [if_pos (by omega), w64 (by omega), if_pos (by omega), if_pos (by omega), e2, rd_tab (by omega), if_neg (show ¬ kk + 1 ≤ kk - 1 by omega), plus_ok (okF_mod _) (okF_iff.2 (cof_rng ho _))]
      simp only [Option.bind_some]
      rw [Int.toNat_natCast, hset _ (by rw [fin0, if_pos (by omega)]), ← e2]
      exact h k (by omega)
theorem th_l3 {d : List Int} (hd : ∀ j, okF (cof d j) = true) (hdl : d.length = 9) : ∀ (m : Nat) (out : List Int), m ≤ l.length → out.length = l.length → allOk out = true →
    Ev (fun k => throughK.l3 k l d out ((m : Int) - 1)) (fin (cof d) l.length out m)
  | 0, out, _, _, _ => by
    refine ⟨1, fun k hk => ?_⟩
    obtain ⟨k, rfl⟩ : ∃ m, k = m + 1 := ⟨k - 1, by omega⟩
    simp only [throughK.l3]
    rw [if_neg (by omega)]; rfl
  | m + 1, out, hm, hol, ho => by
    have h3 := th_l3 hd hdl m (finS (cof d) l.length out m) (by omega) (finS_length _ _ _ _) (finS_ok _ _ ho _)
    obtain ⟨K, h⟩ := th_l4 hl hn hd hdl hol ho (i := m) (by omega) h3 l.length (Nat.le_refl _)
    have e1 : tab l.length (fun j => if l.length ≤ j then fin0 out m j else cof out j) = out := by
      have : tab l.length (fun j => if l.length ≤ j then fin0 out m j else cof out j) = tab l.length (cof out) := tab_congr fun j hj => by rw [if_neg (by omega)]
      rw [this, ← hol, tab_of]
    dsimp only at h
    rw [e1] at h
    refine ⟨K + 1, fun k hk => ?_⟩
    obtain ⟨k, rfl⟩ : ∃ m, k = m + 1 := ⟨k - 1, by omega⟩
    have e : ((m + 1 : Nat) : Int) - 1 = (m : Int) := by omega
    dsimp only
    rw [e, throughK.l3, if_pos (by omega), w64 (by omega)]
    exact h k (by omega)
theorem th_l2 {R : List Int} {s : Nat} (hs : 1 ≤ s) (hsn : s < l.length) (hR : Ev (fun k => throughK.l1 k l (tab 9 (stA l l.length (s + 1))) ((s : Int) + 1)) R) : ∀ (t i : Nat), i + 1 = s + t → i < l.length →
    Ev (fun k => throughK.l2 k l (tab 9 (stB l l.length s i)) (s : Int) (i : Int)) R
  | 0, i, hi, hil => by
    obtain ⟨K, h⟩ := hR
    refine ⟨K + 1, fun k hk => ?_⟩
    obtain ⟨k, rfl⟩ : ∃ m, k = m + 1 := ⟨k - 1, by omega⟩
    simp only [throughK.l2]
    rw [if_neg (by omega), w64 (by omega)]
    have e : tab 9 (stB l l.length s i) = tab 9 (stA l l.length (s + 1)) := tab_congr fun j _ => by
      unfold stB stA
      by_cases h1 : j < l.length
      · rw [if_pos h1, if_pos h1]
        by_cases h2 : j < s
        · rw [if_pos h2, if_pos (by omega)]
        · rw [if_neg h2, if_pos (by omega)]
          by_cases h3 : j < s + 1
          · rw [if_pos h3, show j = s by omega]; rfl
          · rw [if_neg h3]; rfl
      · rw [if_neg h1, if_neg h1]
    rw [e]
    exact h k (by omega)
  | t + 1, i, hi, hil => by
    obtain ⟨K, h⟩ := th_l2 hs hsn hR t (i - 1) (by omega) (by omega)
    refine ⟨K + 41, fun k hk => ?_⟩
    obtain ⟨k, rfl⟩ : ∃ m, k = m + 1 := ⟨k - 1, by omega⟩
    have e : (i : Int) - 1 = ((i - 1 : Nat) : Int) := by omega
    simp only [throughK.l2]
    rw [if_pos (by omega), if_pos (by omega), tab_length, if_pos (by omega), w64 (n := (i : Int) - 1) (by omega), if_pos (by omega), if_pos (by omega), e, rd_tab (by omega), rd_tab (by omega)]
    have b1 : stB l l.length s i i = D l (s - 1) i := by unfold stB; rw [if_pos hil, if_neg (by omega), if_neg (by omega)]
    have b2 : stB l l.length s i (i - 1) = D l (s - 1) (i - 1) := by
      unfold stB; rw [if_pos (by omega)]
      by_cases h1 : i - 1 < s
      · rw [if_pos h1, show i - 1 = s - 1 by omega]; rfl
      · rw [if_neg h1, if_neg (by omega)]
    rw [b1, b2, minusP (D_ok hl _ _) (D_ok hl _ _)]
    simp only [Option.bind_some]
    rw [inverseP (okF_iff.2 (by omega)) k (by omega)]
    simp only [Option.bind_some]
    rw [times_ok (okF_mod _) (inv_ok (okF_iff.2 (by omega)))]
    simp only [Option.bind_some]
    have e2 : (tab 9 (stB l l.length s i)).set (i : Int).toNat (((D l (s - 1) i - D l (s - 1) (i - 1)) % 31 * inv31 (s : Int)) % 31) = tab 9 (stB l l.length s (i - 1)) := by
      rw [Int.toNat_natCast, tab_set]
      refine tab_congr fun j _ => ?_
      by_cases h1 : j = i
      · subst h1
        rw [if_pos rfl]
        unfold stB
        rw [if_pos hil, if_neg (by omega), if_pos (by omega)]
        obtain ⟨s, rfl⟩ : ∃ m, s = m + 1 := ⟨s - 1, by omega⟩
        rfl
      · rw [if_neg h1]
        unfold stB
        by_cases h2 : j < l.length
        · rw [if_pos h2, if_pos h2]
          by_cases h3 : j < s
          · rw [if_pos h3, if_pos h3]
          · rw [if_neg h3, if_neg h3]
            by_cases h4 : i < j
            · rw [if_pos h4, if_pos (by omega)]
            · rw [if_neg h4, if_neg (by omega)]
        · rw [if_neg h2, if_neg h2]
    rw [e2]
    exact h k (by omega)
theorem stA_ok (s j : Nat) : okF (stA l l.length s j) = true := by
  unfold stA dd; (repeat' split) <;> first | exact D_ok hl _ _ | rfl
theorem th_l1 : ∀ (t s : Nat), 1 ≤ s → s + t = (if l.length = 0 then 1 else l.length) → Ev (fun k => throughK.l1 k l (tab 9 (stA l l.length s)) (s : Int)) (newton l)
  | 0, s, hs, hst => by
    have hd : ∀ j, okF (cof (tab 9 (stA l l.length s)) j) = true := fun j => by
      by_cases hj : j < 9
      · rw [tab_cof hj]; exact stA_ok hl hn s j
      · rw [cof_out (by rw [tab_length]; omega)]; rfl
    have hz : allOk (List.replicate l.length (0 : Int)) = true := allOk_iff.2 fun x hx => by rw [(List.mem_replicate.1 hx).2]; rfl
    obtain ⟨K, h⟩ := th_l3 hl hn hd (tab_length _ _) l.length (List.replicate l.length 0) (Nat.le_refl _) (by simp) hz
    have e : ∀ (m : Nat) (out : List Int), m ≤ l.length → fin (cof (tab 9 (stA l l.length s))) l.length out m = fin (dd l) l.length out m := by
      intro m
      induction m with
      | zero => intro _ _; rfl
      | succ m ih =>
        intro out hm
        rw [fin, fin]
        have : finS (cof (tab 9 (stA l l.length s))) l.length out m = finS (dd l) l.length out m := by
          unfold finS
          refine tab_congr fun j _ => ?_
          have : cof (tab 9 (stA l l.length s)) m = dd l m := by
            rw [tab_cof (by omega)]; unfold stA; rw [if_pos (by omega)]
            have : l.length ≠ 0 := by omega
            rw [if_neg this] at hst
            rw [if_pos (by omega)]
          rw [this]
        rw [this]; exact ih _ (by omega)
    refine ⟨K + 1, fun k hk => ?_⟩
    obtain ⟨k, rfl⟩ : ∃ m, k = m + 1 := ⟨k - 1, by omega⟩
    dsimp only
    rw [throughK.l1]
    have hge : ¬ (s : Int) < (l.length : Int) := by split at hst <;> omega
    rw [if_neg hge, if_pos (by omega), Int.toNat_natCast, if_pos (by omega), w64 (by omega)]
    refine (h k (by omega)).trans ?_
    rw [e _ _ (Nat.le_refl _)]; rfl
  | t + 1, s, hs, hst => by
    have hn0 : l.length ≠ 0 := by intro h0; rw [if_pos h0] at hst; omega
    rw [if_neg hn0] at hst
    have h1 := th_l1 t (s + 1) (by omega) (by rw [if_neg hn0]; omega)
    obtain ⟨K, h⟩ := th_l2 hl hn hs (by omega) h1 (l.length - s) (l.length - 1) (by omega) (by omega)
    have e : tab 9 (stB l l.length s (l.length - 1)) = tab 9 (stA l l.length s) := tab_congr fun j _ => by
      unfold stB stA
      by_cases h1 : j < l.length
      · rw [if_pos h1, if_pos h1]
        by_cases h2 : j < s
        · rw [if_pos h2, if_pos h2]
        · rw [if_neg h2, if_neg h2, if_neg (by omega)]
      · rw [if_neg h1, if_neg h1]
    dsimp only at h
    rw [e] at h
    refine ⟨K + 1, fun k hk => ?_⟩
    obtain ⟨k, rfl⟩ : ∃ m, k = m + 1 := ⟨k - 1, by omega⟩
    dsimp only
    rw [throughK.l1, if_pos (by omega), w64 (by omega), show (l.length : Int) - 1 = ((l.length - 1 : Nat) : Int) by omega]
    exact h k (by omega)
theorem th_l0 : ∀ (t i : Nat), i + t = l.length → Ev (fun k => throughK.l0 k l (tab 9 (fun j => if j < i then cof l j else 0)) l (l.length : Int) (i : Int)) (newton l)
  | 0, i, hi => by
    obtain ⟨K, h⟩ := th_l1 hl hn ((if l.length = 0 then 1 else l.length) - 1) 1 (Nat.le_refl _) (by split <;> omega)
    have e : tab 9 (fun j => if j < i then cof l j else 0) = tab 9 (stA l l.length 1) := tab_congr fun j _ => by
      unfold stA dd
      by_cases h1 : j < l.length
      · rw [if_pos (by omega), if_pos h1]
        by_cases h2 : j < 1
        · rw [if_pos h2, show j = 0 by omega]; rfl
        · rw [if_neg h2]; rfl
      · rw [if_neg (by omega), if_neg h1]
    refine ⟨K + 1, fun k hk => ?_⟩
    obtain ⟨k, rfl⟩ : ∃ m, k = m + 1 := ⟨k - 1, by omega⟩
    dsimp only
    rw [throughK.l0, if_neg (by omega), e]
    exact h k (by omega)
  | t + 1, i, hi => by
    obtain ⟨K, h⟩ := th_l0 t (i + 1) (by omega)
    refine ⟨K + 1, fun k hk => ?_⟩
    obtain ⟨k, rfl⟩ : ∃ m, k = m + 1 := ⟨k - 1, by omega⟩
    dsimp only
    rw [throughK.l0, if_pos (by omega), if_pos (by omega), if_pos (by omega), tab_length, if_pos (by omega), rd_cof, Int.toNat_natCast, tab_set, w64 (by omega)]
    have e : tab 9 (fun j => if j = i then cof l i else if j < i then cof l j else 0) = tab 9 (fun j => if j < i + 1 then cof l j else 0) := tab_congr fun j _ => by
      by_cases h1 : j = i
      · subst h1; rw [if_pos rfl, if_pos (by omega)]
      · rw [if_neg h1]
        by_cases h2 : j < i
        · rw [if_pos h2, if_pos (by omega)]
        · rw [if_neg h2, if_neg (by omega)]
    rw [e]
    exact h k (by omega)
theorem through_ev : impl_through.f l = some (newton l) := by
  obtain ⟨K, h⟩ := th_l0 hl hn l.length 0 (by omega)
  have e : tab 9 (fun j => if j < 0 then cof l j else 0) = List.replicate 9 0 := by rw [← tab_zero]; exact tab_congr fun j _ => by simp
  dsimp only at h
  rw [e] at h
  refine impl_through.of (k := K) ?_
  unfold throughK.f
  rw [if_pos (by omega)]
  exact h K (Nat.le_refl _)
theorem newton_spec : (newton l).length = l.length ∧ allOk (newton l) = true ∧ ∀ i : Nat, i < l.length → ev (newton l) (i : Int) % 31 = cof l i := by
  have hz : allOk (List.replicate l.length (0 : Int)) = true := allOk_iff.2 fun x hx => by rw [(List.mem_replicate.1 hx).2]; rfl
  have hc : ∀ j, cof (List.replicate l.length (0 : Int)) j = 0 := fun j => by
    by_cases hj : j < l.length
    · rw [cof_in (by simpa using hj)]; simp
    · exact cof_out (by simp; omega)
  have hs := fun x => fin_spec (dd l) l.length x l.length (List.replicate l.length 0) (Nat.le_refl _) (by simp) hz (fun j _ => hc j)
  refine ⟨(hs 0).1, (hs 0).2.1, fun i hi => ?_⟩
  rw [newton, (hs (i : Int)).2.2, ev_zero hc, Int.mul_zero, Int.add_zero]
  have h1 := newton_value l i l.length 0 hi (by omega)
  have e : (fun s => D l s (0 + s)) = dd l := by funext s; rw [Nat.zero_add]; rfl
  rw [e, Nat.zero_add] at h1
  rw [h1]
  have := cof_rng hl i
  show cof l i % 31 = cof l i
  omega
end

end Go.Proofs.Ytdamainjflpgpaa.P
