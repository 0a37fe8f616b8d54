/- What a kind's check of a list at a number is: the value there of a polynomial that is zero just where the list is the kind's. Conditions: lists of fewer than 2^40 numbers. -/
import Derived.Test.YtpbeklfhmhdonaaType
import Derived.Test.YtpbeklfhmhdonaaPx1
import Derived.Test.YtpbeklfhmhdonaaPx2
import Derived.Test.YtpbeklfhmhdonaaPx4
namespace Go.Proofs.Ytpbeklfhmhdonaa.P
open Go.RowKit Go.Proofs.Ytpbeklfhmhdonaa.Num Go.Proofs.YtpbeklfhmhdonaaW.PrintWords
set_option linter.unusedSimpArgs false

/-- The check's coefficients. -/
def tail (a : Int) (s : Int) : List Int := if a = 2 then [s - 1] else []
def cs (a : Int) (l : List Int) : List Int := l.map (fun v => v * (v - 1)) ++ tail a l.sum
def chk (a : Int) (l : List Int) (x : Int) : Int := ev (cs a l) x % 31
def check (a : Int) (l : List Int) (x : Int) : Int := if vecI a l && okF x then chk a l x else 1

theorem mod_def (a : Int) : a % 31 = a - 31 * (a / 31) := by omega
theorem eq_mod {a b : Int} (c : Int) (h : a = b + 31 * c) : a % 31 = b % 31 := by omega
/-- One step of the reference, of the program. -/
theorem step_s (acc pw v x E : Int) : ((acc + pw * ((v * ((v + 30) % 31)) % 31)) % 31 + (pw * x) % 31 * E) % 31 = (acc + pw * (v * (v - 1) + x * E)) % 31 := by
  generalize hq : (v + 30) / 31 = q
  have h1 : (v + 30) % 31 = v + 30 - 31 * q := by omega
  rw [h1]
  generalize hr : (v * (v + 30 - 31 * q)) / 31 = r
  have h2 : (v * (v + 30 - 31 * q)) % 31 = v * (v + 30 - 31 * q) - 31 * r := by omega
  rw [h2]
  generalize hs : (acc + pw * (v * (v + 30 - 31 * q) - 31 * r)) / 31 = s
  have h3 : (acc + pw * (v * (v + 30 - 31 * q) - 31 * r)) % 31 = acc + pw * (v * (v + 30 - 31 * q) - 31 * r) - 31 * s := by omega
  rw [h3]
  generalize ht : (pw * x) / 31 = t
  have h4 : (pw * x) % 31 = pw * x - 31 * t := by omega
  rw [h4]
  exact eq_mod (pw * (v - v * q - r) - s - t * E) (by grind)
theorem step_i (acc pw v x E : Int) : ((acc + ((pw * v) % 31 * ((v - 1) % 31)) % 31) % 31 + (pw * x) % 31 * E) % 31 = (acc + pw * (v * (v - 1) + x * E)) % 31 := by
  generalize hq : (v - 1) / 31 = q
  have h1 : (v - 1) % 31 = v - 1 - 31 * q := by omega
  rw [h1]
  generalize hr : (pw * v) / 31 = r
  have h2 : (pw * v) % 31 = pw * v - 31 * r := by omega
  rw [h2]
  generalize hu : ((pw * v - 31 * r) * (v - 1 - 31 * q)) / 31 = u
  have h5 : ((pw * v - 31 * r) * (v - 1 - 31 * q)) % 31 = (pw * v - 31 * r) * (v - 1 - 31 * q) - 31 * u := by omega
  rw [h5]
  generalize hs : (acc + ((pw * v - 31 * r) * (v - 1 - 31 * q) - 31 * u)) / 31 = s
  have h3 : (acc + ((pw * v - 31 * r) * (v - 1 - 31 * q) - 31 * u)) % 31 = acc + ((pw * v - 31 * r) * (v - 1 - 31 * q) - 31 * u) - 31 * s := by omega
  rw [h3]
  generalize ht : (pw * x) / 31 = t
  have h4 : (pw * x) % 31 = pw * x - 31 * t := by omega
  rw [h4]
  exact eq_mod (- pw * v * q - r * (v - 1 - 31 * q) - u - s - t * E) (by grind)
theorem last_s (acc pw s : Int) : (acc + pw * ((s % 31 - 1) % 31)) % 31 = (acc + pw * (s - 1)) % 31 := by
  generalize hq : (s % 31 - 1) / 31 = q
  have h1 : (s % 31 - 1) % 31 = s % 31 - 1 - 31 * q := by omega
  rw [h1]
  generalize hr : s / 31 = r
  have h2 : s % 31 = s - 31 * r := by omega
  rw [h2]
  exact eq_mod (- pw * r - pw * q) (by grind)
theorem last_i (acc pw s : Int) : (acc + (pw * ((s % 31 - 1) % 31)) % 31) % 31 = (acc + pw * (s - 1)) % 31 := by
  rw [← last_s]
  generalize pw * ((s % 31 - 1) % 31) = y
  omega

theorem sum_drop {l : List Int} {i : Nat} (h : i < l.length) : (l.drop i).sum = l[i] + (l.drop (i + 1)).sum := by rw [List.drop_eq_getElem_cons h, List.sum_cons]
/-- What is left of the coefficients from i on. -/
def rest (a : Int) (l : List Int) (i : Nat) : List Int := (l.drop i).map (fun v => v * (v - 1)) ++ tail a l.sum
theorem rest_step (a x : Int) {l : List Int} {i : Nat} (h : i < l.length) : ev (rest a l i) x = l[i] * (l[i] - 1) + x * ev (rest a l (i + 1)) x := by
  unfold rest; rw [List.drop_eq_getElem_cons h, List.map_cons, List.cons_append, ev_cons]
theorem rest_end (a x : Int) {l : List Int} : ev (rest a l l.length) x = if a = 2 then l.sum - 1 else 0 := by
  unfold rest tail; rw [List.drop_length]
  split
  · simp [ev]
  · rfl
def powm (x : Int) : Nat → Int
  | 0 => 1
  | n + 1 => (powm x n * x) % 31
theorem powm_ok (x : Int) (n : Nat) : okF (powm x n) = true := by cases n; rfl; exact okF_mod _

theorem sCheck_loop {a x : Int} {l : List Int} (hl : l.length ≤ 20) (h : allOk l = true) (hx : okF x = true) (d : Nat) : ∀ (i : Nat) (acc pw s : Int), i + d = l.length → okF acc = true → okF pw = true → 0 ≤ s ∧ s ≤ 30 * (i : Int) → s + (l.drop i).sum = l.sum →
    Ev (fun k => spec_l11Check.l0 k a l x acc pw s (i : Int)) ((acc + pw * ev (rest a l i) x) % 31) := by
  have hx' := okF_iff.1 hx
  induction d with
  | zero =>
    intro i acc pw s hi ha hp hs hsum
    obtain rfl : i = l.length := by omega
    have ha' := okF_iff.1 ha
    have hp' := okF_iff.1 hp
    refine ⟨1, fun k hk => ?_⟩
    obtain ⟨k, rfl⟩ : ∃ m, k = m + 1 := ⟨k - 1, by omega⟩
    rw [List.drop_length, List.sum_nil, Int.add_zero] at hsum
    simp only [spec_l11Check.l0]
    rw [if_neg (by omega), rest_end]
    by_cases e : a = 2
    · rw [if_pos e, if_pos e, tmod_pos (by omega), sFieldDif, fdif_ok (okF_mod _) rfl]
      simp only [Option.bind_some]
      have r := mul_rng hp' (okF_iff.1 (okF_mod (s % 31 - 1)))
      rw [w64 (n := pw * _) (by omega), w64 (by omega), tmod_pos (by omega), last_s, hsum]
    · rw [if_neg e, if_neg e]
      simp only [Int.mul_zero, Int.add_zero]
      rw [Int.emod_eq_of_lt (by omega) (by omega)]
  | succ d ih =>
    intro i acc pw s hi ha hp hs hsum
    have hil : i < l.length := by omega
    have ha' := okF_iff.1 ha
    have hp' := okF_iff.1 hp
    have hv := allOk_iff.1 h _ (List.getElem_mem hil)
    have hv' := okF_iff.1 hv
    obtain ⟨K, hK⟩ := ih (i + 1) ((acc + pw * ((l[i] * ((l[i] + 30) % 31)) % 31)) % 31) ((pw * x) % 31) (s + l[i]) (by omega) (okF_mod _) (okF_mod _) (by omega) (by rw [← hsum, sum_drop hil]; omega)
    refine ⟨K + 1, fun k hk => ?_⟩
    obtain ⟨k, rfl⟩ : ∃ m, k = m + 1 := ⟨k - 1, by omega⟩
    simp only [spec_l11Check.l0]
    rw [if_pos (by omega), if_pos (by omega), rd_lt hil, sFieldDif, fdif_ok hv rfl]
    simp only [Option.bind_some]
    have e30 : (l[i] - 1) % 31 = (l[i] + 30) % 31 := by omega
    rw [e30]
    have r1 := mul_rng hv' (okF_iff.1 (okF_mod (l[i] + 30)))
    rw [w64 (n := l[i] * _) (by omega), tmod_pos (a := l[i] * _) (by omega)]
    have r2 := mul_rng hp' (okF_iff.1 (okF_mod (l[i] * ((l[i] + 30) % 31))))
    have r3 := mul_rng hp' hx'
    rw [w64 (n := pw * (_ % 31)) (by omega), w64 (n := acc + _) (by omega), tmod_pos (a := acc + _) (by omega), w64 (n := pw * x) (by omega), tmod_pos (a := pw * x) (by omega), w64 (n := s + l[i]) (by omega), w64 (n := (i : Int) + 1) (by omega)]
    refine (hK k (by omega)).trans ?_
    rw [step_s, rest_step a x hil]
theorem sTypeCheck (a : Int) (l : List Int) (x : Int) (hm : l.length < 1099511627776) : Ev (fun k => spec_TypeCheck.f k a l x) (check a l x) := by
  obtain ⟨K, h⟩ := sVec a l hm
  dsimp only at h
  unfold check
  cases hv : vecI a l
  · refine ⟨K, fun k hk => ?_⟩
    dsimp only; unfold spec_TypeCheck.f; rw [h k hk, hv]; rfl
  cases hx : okF x
  · refine ⟨K, fun k hk => ?_⟩
    dsimp only; unfold spec_TypeCheck.f; rw [h k hk, hv]; simp only [Option.bind_some, if_true]; rw [sFieldOk, hx]; rfl
  · have hs : shareOk l = true := by unfold vecI at hv; simp at hv; exact hv.1.2
    obtain ⟨K2, h2⟩ := sCheck_loop (a := a) (x := x) (shareOk_iff.1 hs).2 (shareOk_iff.1 hs).1 hx l.length 0 0 1 0 (by omega) rfl rfl (by omega) (by simp)
    refine ⟨K + K2, fun k hk => ?_⟩
    have e2 := h2 k (by omega)
    dsimp only at e2 ⊢; unfold spec_TypeCheck.f spec_l11Check.f; rw [h k (by omega), hv]; simp only [Option.bind_some, if_true]; rw [sFieldOk, hx]; simp only [Option.bind_some, if_true]
    rw [show (0 : Int) = ((0 : Nat) : Int) from rfl] at e2 ⊢
    rw [e2]
    simp [chk, cs, rest]
theorem power_loop {x : Int} (hx : okF x = true) (n : Nat) (hn : n ≤ 1000) (d : Nat) : ∀ i : Nat, i + d = n → Ev (fun k => impl_element_power.l0 k x (powm x i) (n : Int) (i : Int)) (powm x n) := by
  induction d with
  | zero =>
    intro i hi
    obtain rfl : i = n := by omega
    refine ⟨1, fun k hk => ?_⟩
    obtain ⟨k, rfl⟩ : ∃ m, k = m + 1 := ⟨k - 1, by omega⟩
    simp only [impl_element_power.l0]
    rw [if_neg (by omega)]
  | succ d ih =>
    intro i hi
    obtain ⟨K, h⟩ := ih (i + 1) (by omega)
    refine ⟨K + 1, fun k hk => ?_⟩
    obtain ⟨k, rfl⟩ : ∃ m, k = m + 1 := ⟨k - 1, by omega⟩
    simp only [impl_element_power.l0]
    rw [if_pos (by omega), times_ok (powm_ok x i) hx, w64 (by omega)]
    exact h k (by omega)
theorem power_ev {x : Int} (hx : okF x = true) (n : Nat) (hn : n ≤ 1000) : Ev (fun k => impl_element_power.f k x (n : Int)) (powm x n) := power_loop hx n hn n 0 (by omega)
theorem total_loop {l : List Int} (hl : l.length ≤ 20) (h : allOk l = true) (d : Nat) : ∀ (i : Nat) (s : Int), i + d = l.length → okF s = true → Ev (fun k => impl_total.l0 k s l (l.length : Int) (i : Int)) ((s + (l.drop i).sum) % 31) := by
  induction d with
  | zero =>
    intro i s hi hs
    obtain rfl : i = l.length := by omega
    have hs' := okF_iff.1 hs
    refine ⟨1, fun k hk => ?_⟩
    obtain ⟨k, rfl⟩ : ∃ m, k = m + 1 := ⟨k - 1, by omega⟩
    simp only [impl_total.l0]
    rw [if_neg (by omega), List.drop_length, List.sum_nil, Int.add_zero, Int.emod_eq_of_lt (by omega) (by omega)]
  | succ d ih =>
    intro i s hi hs
    have hil : i < l.length := by omega
    obtain ⟨K, hK⟩ := ih (i + 1) ((s + l[i]) % 31) (by omega) (okF_mod _)
    refine ⟨K + 1, fun k hk => ?_⟩
    obtain ⟨k, rfl⟩ : ∃ m, k = m + 1 := ⟨k - 1, by omega⟩
    simp only [impl_total.l0]
    rw [if_pos (by omega), if_pos (by omega), if_pos (by omega), rd_lt hil, plus_ok hs (allOk_iff.1 h _ (List.getElem_mem hil)), w64 (by omega)]
    refine (hK k (by omega)).trans ?_
    rw [sum_drop hil]; congr 1; omega
theorem total_ev {l : List Int} (hl : l.length ≤ 20) (h : allOk l = true) : Ev (fun k => impl_total.f k l) (l.sum % 31) := by
  have h := total_loop hl h l.length 0 0 (by omega) rfl
  simpa [impl_total.f] using h
theorem iCheck_loop {a x : Int} {l : List Int} (hl : l.length ≤ 20) (h : allOk l = true) (hx : okF x = true) (d : Nat) : ∀ (i : Nat) (acc : Int), i + d = l.length → okF acc = true →
    Ev (fun k => impl_TypeCheck.l0 k a l x acc l (l.length : Int) (i : Int)) ((acc + powm x i * ev (rest a l i) x) % 31) := by
  induction d with
  | zero =>
    intro i acc hi ha
    obtain rfl : i = l.length := by omega
    have ha' := okF_iff.1 ha
    obtain ⟨K1, h1⟩ := power_ev hx l.length (by omega)
    obtain ⟨K2, h2⟩ := total_ev hl h
    dsimp only at h1 h2
    refine ⟨K1 + K2 + 1, fun k hk => ?_⟩
    obtain ⟨k, rfl⟩ : ∃ m, k = m + 1 := ⟨k - 1, by omega⟩
    simp only [impl_TypeCheck.l0, impl_oneHot.f]
    rw [if_neg (by omega), rest_end]
    simp only [Option.bind_some, decide_eq_true_eq]
    by_cases e : a = 2
    · rw [if_pos e, if_pos e, h1 _ (by omega), h2 _ (by omega)]
      simp only [Option.bind_some]
      rw [minus_ok (okF_mod _) rfl]
      simp only [Option.bind_some]
      rw [times_ok (powm_ok _ _) (okF_mod _)]
      simp only [Option.bind_some]
      rw [plus_ok ha (okF_mod _)]
      simp only [Option.bind_some]
      rw [last_i]
    · rw [if_neg e, if_neg e]
      simp only [Int.mul_zero, Int.add_zero]
      rw [Int.emod_eq_of_lt (by omega) (by omega)]
  | succ d ih =>
    intro i acc hi ha
    have hil : i < l.length := by omega
    have hv := allOk_iff.1 h _ (List.getElem_mem hil)
    obtain ⟨K1, h1⟩ := power_ev hx i (by omega)
    obtain ⟨K, hK⟩ := ih (i + 1) ((acc + ((powm x i * l[i]) % 31 * ((l[i] - 1) % 31)) % 31) % 31) (by omega) (okF_mod _)
    dsimp only at h1 hK
    refine ⟨K1 + K + 1, fun k hk => ?_⟩
    obtain ⟨k, rfl⟩ : ∃ m, k = m + 1 := ⟨k - 1, by omega⟩
    simp only [impl_TypeCheck.l0]
    rw [if_pos (by omega), if_pos (by omega), if_pos (by omega), rd_lt hil, h1 _ (by omega)]
    simp only [Option.bind_some]
    rw [times_ok (powm_ok _ _) hv]
    simp only [Option.bind_some]
    rw [minus_ok hv rfl]
    simp only [Option.bind_some]
    rw [times_ok (okF_mod _) (okF_mod _)]
    simp only [Option.bind_some]
    rw [plus_ok ha (okF_mod _)]
    simp only [Option.bind_some]
    rw [w64 (by omega)]
    refine (hK k (by omega)).trans ?_
    rw [show powm x (i + 1) = (powm x i * x) % 31 from rfl, step_i, rest_step a x hil]
theorem sized_eq (a : Int) (l : List Int) : impl_sized.f a l (lenI a) = some (vecI a l) := by
  unfold impl_sized.f impl_kindOk.f vecI
  simp only [Option.bind_some]
  cases kindI a
  · rfl
  by_cases hl : (l.length : Int) = lenI a
  · rw [if_pos rfl, if_pos hl, decide_eq_true hl, show (20 : Int) = ((20 : Nat) : Int) from rfl, elementsOk_eq]
    simp [shareOk]
  · rw [if_pos rfl, if_neg hl, decide_eq_false hl]; simp
theorem iTypeCheck (a : Int) (l : List Int) (x : Int) : Ev (fun k => impl_TypeCheck.f k a l x) (check a l x) := by
  unfold check
  cases hv : vecI a l
  · refine ⟨1, fun k hk => ?_⟩
    obtain ⟨k, rfl⟩ : ∃ m, k = m + 1 := ⟨k - 1, by omega⟩
    dsimp only; unfold impl_TypeCheck.f impl_TypeLen.f; simp only [Option.bind_some]; rw [sized_eq, hv]; rfl
  cases hx : okF x
  · refine ⟨1, fun k hk => ?_⟩
    obtain ⟨k, rfl⟩ : ∃ m, k = m + 1 := ⟨k - 1, by omega⟩
    dsimp only; unfold impl_TypeCheck.f impl_TypeLen.f; simp only [Option.bind_some]; rw [sized_eq, hv]; simp only [Option.bind_some, if_true]; rw [iFieldOk, hx]; rfl
  · have hs : shareOk l = true := by unfold vecI at hv; simp at hv; exact hv.1.2
    obtain ⟨K2, h2⟩ := iCheck_loop (a := a) (x := x) (shareOk_iff.1 hs).2 (shareOk_iff.1 hs).1 hx l.length 0 0 (by omega) rfl
    refine ⟨K2 + 1, fun k hk => ?_⟩
    obtain ⟨k, rfl⟩ : ∃ m, k = m + 1 := ⟨k - 1, by omega⟩
    have e2 := h2 k (by omega)
    dsimp only at e2 ⊢; unfold impl_TypeCheck.f impl_TypeLen.f; simp only [Option.bind_some]; rw [sized_eq, hv]; simp only [Option.bind_some, if_true]; rw [iFieldOk, hx]
    simp only [Option.bind_some, Bool.not_true, impl_TypeCheck.j0, Bool.false_eq_true, if_false]
    refine e2.trans ?_
    simp [chk, cs, rest, powm]

/-- A list of the kind is checked 0 everywhere; another well formed list has fewer such places than coefficients. -/
theorem cs_length (a : Int) (l : List Int) (h : vecI a l = true) : ((cs a l).length : Int) = lenI a + (if a = 2 then 1 else 0) := by
  unfold vecI at h; simp at h
  unfold cs tail; rw [List.length_append, List.length_map]
  split <;> simp <;> omega
theorem cs_zero {a : Int} {l : List Int} (h : l ∈ encs a) : ∀ c ∈ cs a l, c = 0 := by
  have hk : kindI a = true := by
    cases hk : kindI a
    · rw [encs_no hk] at h; cases h
    · rfl
  rcases kindI_iff.1 hk with rfl | rfl | rfl
  · have : ∀ c ∈ encs 1, ∀ y ∈ cs 1 c, y = 0 := by decide
    exact this _ h
  · have : ∀ c ∈ encs 2, ∀ y ∈ cs 2 c, y = 0 := by decide
    exact this _ h
  · have : ∀ c ∈ encs 3, ∀ y ∈ cs 3 c, y = 0 := by decide
    exact this _ h
theorem check_zero {a x : Int} {l : List Int} (h : l ∈ encs a) (hx : okF x = true) : check a l x = 0 := by
  have hv : vecI a l = true := by have := mem_encs a l; rw [decide_eq_true h] at this; cases hv : vecI a l; rw [hv] at this; cases this; rfl
  unfold check; rw [hv, hx]
  simp only [Bool.and_self, if_true]
  unfold chk; rw [ev_zero (fun j => ?_)]; rfl
  by_cases hj : j < (cs a l).length
  · rw [cof_in hj]; exact cs_zero h _ (List.getElem_mem hj)
  · exact cof_out (by omega)
theorem cs_some {a : Int} {l : List Int} (hv : vecI a l = true) (h : ¬ l ∈ encs a) : ¬ zeroM (cs a l) := by
  intro hz
  have hs : allOk l = true := by unfold vecI at hv; simp at hv; exact (shareOk_iff.1 hv.1.2).1
  have he := mem_encs a l
  rw [decide_eq_false h, hv, Bool.true_and] at he
  have h1 : ∀ (j : Nat) (hj : j < l.length), l[j] ≤ 1 := fun j hj => by
    have hv' := okF_iff.1 (allOk_iff.1 hs _ (List.getElem_mem hj))
    have := hz j
    have hc : cof (cs a l) j = l[j] * (l[j] - 1) := by
      rw [cof_in (by unfold cs; simp; omega)]
      unfold cs; rw [List.getElem_append_left (by simpa using hj), List.getElem_map]
    rw [hc] at this
    rcases zd this with z | z <;> omega
  have hall : l.all (fun x => decide (x ≤ 1)) = true := by
    rw [List.all_eq_true]; intro x hx
    obtain ⟨j, hj, rfl⟩ := List.mem_iff_getElem.1 hx
    simpa using h1 j hj
  unfold okL at he
  rw [hall, Bool.true_and] at he
  by_cases e : a = 2
  · rw [if_pos e] at he
    have hn : l.sum ≠ 1 := fun q => by rw [q] at he; cases he
    have hl : l.length = 4 := by unfold vecI at hv; simp [e, lenI] at hv; omega
    have := hz 4
    have hc : cof (cs a l) 4 = l.sum - 1 := by
      rw [cof_in (by unfold cs tail; rw [if_pos e]; simp; omega)]
      unfold cs; rw [List.getElem_append_right (by simp; omega)]
      simp [tail, e, hl]
    rw [hc] at this
    match l, hl, h1 with
    | [x, y, z, u], _, h1 =>
      have b := allOk_iff.1 hs
      have bx := okF_iff.1 (b x (by simp)); have by' := okF_iff.1 (b y (by simp)); have bz := okF_iff.1 (b z (by simp)); have bu := okF_iff.1 (b u (by simp))
      have cx := h1 0 (by simp); have cy := h1 1 (by simp); have cz := h1 2 (by simp); have cu := h1 3 (by simp)
      simp at cx cy cz cu this hn
      omega
  · rw [if_neg e] at he; cases he
/-- How many of the numbers below 31 the check is 0 at. -/
theorem few_zero {a : Int} {l : List Int} (hv : vecI a l = true) (h : ¬ l ∈ encs a) : (roots (cs a l) 31 : Int) ≤ lenI a ∧ roots (cs a l) 31 < 31 := by
  have h1 := roots_few 31 (by omega) (cs a l).length (cs a l) rfl (cs_some hv h)
  have h2 := cs_length a l hv
  have h3 := lenI_rng a
  have hk : kindI a = true := by unfold vecI at hv; simp at hv; exact hv.1.1
  rcases kindI_iff.1 hk with rfl | rfl | rfl <;> simp [lenI] at h2 ⊢ <;> omega

end Go.Proofs.Ytpbeklfhmhdonaa.P
