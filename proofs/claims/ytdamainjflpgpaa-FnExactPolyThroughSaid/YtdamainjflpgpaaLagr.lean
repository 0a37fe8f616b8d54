/- What the reference's interpolation computes: a polynomial of as many numbers as there are values, with these values at 0, 1, 2, .. Conditions: at most 9 values, each a number of the field. -/
import Derived.Test.YtdamainjflpgpaaPolyMul
import Derived.Test.YtdamainjflpgpaaPx10
namespace Go.Proofs.Ytdamainjflpgpaa.P
open Go.RowKit Go.Proofs.Ytdamainjflpgpaa.Num Go.Proofs.YtdamainjflpgpaaW.PrintWords
set_option linter.unusedSimpArgs false
set_option linter.unusedVariables false
set_option linter.unusedSectionVars false

def lfac (i j : Nat) : List Int := [((((0 : Int) - (j : Int)) % 31) * inv31 (((i : Int) - (j : Int)) % 31)) % 31, inv31 (((i : Int) - (j : Int)) % 31)]
theorem lfac_ok (i j : Nat) : allOk (lfac i j) = true := by
  rw [allOk_iff]; intro x hx
  simp only [lfac, List.mem_cons, List.not_mem_nil, or_false] at hx
  rcases hx with rfl | rfl
  · exact okF_mod _
  · exact inv_ok (okF_mod _)
theorem lfac_ev (i j : Nat) (x : Int) : ev (lfac i j) x % 31 = ((x - (j : Int)) * inv31 (((i : Int) - (j : Int)) % 31)) % 31 := by
  unfold lfac
  generalize inv31 (((i : Int) - (j : Int)) % 31) = v
  have h1 : (((0 : Int) - (j : Int)) % 31 * v) % 31 = (-(j : Int) * v) % 31 := by
    rw [Int.mul_emod, Int.emod_emod_of_dvd _ (Int.dvd_refl 31), ← Int.mul_emod, Int.zero_sub]
  simp only [ev, Int.mul_zero, Int.add_zero]
  rw [h1]
  have h2 : (x - (j : Int)) * v = -(j : Int) * v + x * v := by grind
  rw [h2]
  generalize -(j : Int) * v = a
  generalize x * v = b
  omega
/-- The polynomial that is 1 at i, 0 at the others below j. -/
def lp (i : Nat) : Nat → List Int
  | 0 => [1]
  | j + 1 => if j = i then lp i j else prod (lp i j) (lfac i j)
theorem lp_ok (i : Nat) : ∀ j, allOk (lp i j) = true
  | 0 => rfl
  | j + 1 => by rw [lp]; split; exact lp_ok i j; exact prod_ok _ _
theorem lp_length (i : Nat) : ∀ j, (lp i j).length = if i < j then j else j + 1
  | 0 => by simp [lp]
  | j + 1 => by
    have h := lp_length i j
    rw [lp]
    by_cases e : j = i
    · rw [if_pos e, h, if_neg (by omega), if_pos (by omega)]
    · rw [if_neg e, prod_length, h]
      have : (lfac i j).length = 2 := rfl
      rw [this]
      by_cases h2 : i < j
      · rw [if_pos h2, if_neg (by omega), if_pos (by omega)]; omega
      · rw [if_neg h2, if_neg (by omega), if_neg (by omega)]; omega
theorem lp_one {i : Nat} (hi : i ≤ 30) : ∀ j, j ≤ 31 → ev (lp i j) (i : Int) % 31 = 1
  | 0, _ => by simp [lp, ev]
  | j + 1, hj => by
    have h := lp_one hi j (by omega)
    rw [lp]
    by_cases e : j = i
    · rw [if_pos e, h]
    · rw [if_neg e, prod_ev]
      have h1 : (((i : Int) - (j : Int)) * inv31 (((i : Int) - (j : Int)) % 31)) % 31 = 1 := by
        have := inv_one (a := ((i : Int) - (j : Int)) % 31) (okF_mod _) (by omega)
        rw [Int.mul_emod, Int.emod_emod_of_dvd _ (Int.dvd_refl 31), ← Int.mul_emod] at this
        exact this
      have h2 := lfac_ev i j (i : Int)
      rw [h1] at h2
      rw [Int.mul_emod, h, h2]; rfl
theorem lp_none {i : Nat} : ∀ (j m : Nat), m < j → m ≠ i → ev (lp i j) (m : Int) % 31 = 0
  | 0, m, h, _ => absurd h (by omega)
  | j + 1, m, h, hm => by
    rw [lp]
    by_cases e : j = i
    · rw [if_pos e]; exact lp_none j m (by omega) hm
    · rw [if_neg e, prod_ev]
      by_cases hmj : m = j
      · subst hmj
        have h2 := lfac_ev i m (m : Int)
        rw [Int.sub_self, Int.zero_mul] at h2
        rw [Int.mul_emod, h2]; simp
      · rw [Int.mul_emod, lp_none j m (by omega) hm]; simp

def lagS (l out : List Int) (i : Nat) : List Int := tab l.length (fun k => (cof out k + cof l i * cof (lp i l.length) k) % 31)
def lag (l : List Int) : Nat → List Int
  | 0 => List.replicate l.length 0
  | i + 1 => lagS l (lag l i) i
def lagr (l : List Int) : List Int := lag l l.length
theorem lag_length (l : List Int) : ∀ i, (lag l i).length = l.length
  | 0 => by simp [lag]
  | i + 1 => tab_length _ _
theorem lag_ok (l : List Int) : ∀ i, allOk (lag l i) = true
  | 0 => allOk_iff.2 fun x hx => by rw [(List.mem_replicate.1 hx).2]; rfl
  | i + 1 => tab_ok _ _

section
variable {l : List Int} (hl : allOk l = true) (hn : l.length ≤ 9)
include hl hn
theorem lag_ev : ∀ (i m : Nat), i ≤ l.length → m < l.length → ev (lag l i) (m : Int) % 31 = if m < i then cof l m else 0
  | 0, m, _, hm => by
    rw [if_neg (by omega), lag, ev_zero]; rfl
    intro j
    by_cases hj : j < l.length
    · rw [cof_in (by simpa using hj)]; simp
    · exact cof_out (by simp; omega)
  | i + 1, m, hi, hm => by
    have hlp : (lp i l.length).length = l.length := by rw [lp_length, if_pos (by omega)]
    have h1 : ev (lag l (i + 1)) (m : Int) % 31 = ev (tab l.length (fun k => cof (lag l i) k + cof l i * cof (lp i l.length) k)) (m : Int) % 31 := by
      refine ev_mod (by rw [lag_length, tab_length]) (fun j => ?_) _
      by_cases hj : j < l.length
      · rw [lag, lagS, tab_cof hj, tab_cof hj, Int.emod_emod_of_dvd _ (Int.dvd_refl 31)]
      · rw [cof_out (by rw [lag_length]; omega), cof_out (by rw [tab_length]; omega)]
    have h2 : tab l.length (cof (lag l i)) = lag l i := by have := tab_of (lag l i); rw [lag_length] at this; exact this
    have h3 : tab l.length (cof (lp i l.length)) = lp i l.length := by have := tab_of (lp i l.length); rw [hlp] at this; exact this
    rw [h1, ev_tab_add, ev_tab_mul, h2, h3]
    have h4 := lag_ev i m (by omega) hm
    have hr := cof_rng hl i
    by_cases e : m = i
    · subst e
      have h5 := lp_one (i := m) (by omega) l.length (by omega)
      rw [if_neg (by omega)] at h4
      rw [if_pos (by omega), Int.add_emod, h4, Int.mul_emod, h5]
      simp; omega
    · have h5 := lp_none (i := i) l.length m hm e
      have h6 : (cof l i * ev (lp i l.length) (m : Int)) % 31 = 0 := by rw [Int.mul_emod, h5]; simp
      rw [Int.add_emod, h4, h6]
      have hr2 := cof_rng hl m
      by_cases h7 : m < i
      · rw [if_pos h7, if_pos (by omega)]; omega
      · rw [if_neg h7, if_neg (by omega)]; rfl
theorem lagr_spec : (lagr l).length = l.length ∧ allOk (lagr l) = true ∧ ∀ i : Nat, i < l.length → ev (lagr l) (i : Int) % 31 = cof l i := by
  refine ⟨lag_length _ _, lag_ok _ _, fun i hi => ?_⟩
  rw [lagr, lag_ev hl hn _ i (Nat.le_refl _) hi, if_pos hi]

theorem la_l2 {R : List Int} {i : Nat} (hi : i < l.length) {out : List Int} (hol : out.length = l.length) (ho : allOk out = true) (hR : Ev (fun k => spec_l2Through.l0 k l (lagS l out i) ((i : Int) + 1)) R) : ∀ (t q : Nat), q + t = l.length →
    Ev (fun k => spec_l2Through.l2 k l (tab l.length (fun j => if j < q then (cof out j + cof l i * cof (lp i l.length) j) % 31 else cof out j)) (i : Int) (lp i l.length) (q : Int)) R
  | 0, q, hq => by
    obtain ⟨K, h⟩ := hR
    have hlp : (lp i l.length).length = l.length := by rw [lp_length, if_pos (by omega)]
    refine ⟨K + 1, fun k hk => ?_⟩
    obtain ⟨k, rfl⟩ : ∃ m, k = m + 1 := ⟨k - 1, by omega⟩
    dsimp only
    rw [spec_l2Through.l2, if_neg (by omega), w64 (by omega)]
    have e : tab l.length (fun j => if j < q then (cof out j + cof l i * cof (lp i l.length) j) % 31 else cof out j) = lagS l out i := tab_congr fun j hj => by rw [if_pos (by omega)]
    rw [e]
    exact h k (by omega)
  | t + 1, q, hq => by
    obtain ⟨K, h⟩ := la_l2 hi hol ho hR t (q + 1) (by omega)
    have hlp : (lp i l.length).length = l.length := by rw [lp_length, if_pos (by omega)]
    refine ⟨K + 1, fun k hk => ?_⟩
    obtain ⟨k, rfl⟩ : ∃ m, k = m + 1 := ⟨k - 1, by omega⟩
    have r1 := cof_rng ho q
    have r2 := cof_rng hl i
    have r3 := cof_rng (lp_ok i l.length) q
    have r4 := mul_rng r2 r3
    dsimp only
    rw [spec_l2Through.l2, if_pos (by omega), if_pos (by omega), tab_length, if_pos (by omega), if_pos (by omega), if_pos (by omega), rd_cof, tab_cof (by omega), rd_cof, rd_cof, if_neg (by omega), w64 (n := cof l i * _) (by omega), w64 (n := cof out q + _) (by omega), tmod_pos (by omega), Int.toNat_natCast, tab_set, w64 (by omega)]
    have e : tab l.length (fun j => if j = q then (cof out q + cof l i * cof (lp i l.length) q) % 31 else if j < q then (cof out j + cof l i * cof (lp i l.length) j) % 31 else cof out j) = tab l.length (fun j => if j < q + 1 then (cof out j + cof l i * cof (lp i l.length) j) % 31 else cof out j) := tab_congr fun j _ => by
      by_cases h1 : j = q
      · subst h1; rw [if_pos rfl, if_pos (by omega)]
      · rw [if_neg h1]
        by_cases h2 : j < q
        · rw [if_pos h2, if_pos (by omega)]
        · rw [if_neg h2, if_neg (by omega)]
    rw [e]
    exact h k (by omega)
theorem la_l1 {R : List Int} {i : Nat} (hi : i < l.length) {out : List Int} (hol : out.length = l.length) (ho : allOk out = true) (hR : Ev (fun k => spec_l2Through.l0 k l (lagS l out i) ((i : Int) + 1)) R) : ∀ (t j : Nat), j + t = l.length →
    Ev (fun k => spec_l2Through.l1 k l out (i : Int) (lp i j) (j : Int)) R
  | 0, j, hj => by
    obtain ⟨K, h⟩ := la_l2 hl hn hi hol ho hR l.length 0 (by omega)
    have e : tab l.length (fun j => if j < 0 then (cof out j + cof l i * cof (lp i l.length) j) % 31 else cof out j) = out := by
      have : tab l.length (fun j => if j < 0 then (cof out j + cof l i * cof (lp i l.length) j) % 31 else cof out j) = tab l.length (cof out) := tab_congr fun j _ => by rw [if_neg (by omega)]
      rw [this, ← hol, tab_of]
    dsimp only at h
    rw [e] at h
    refine ⟨K + 1, fun k hk => ?_⟩
    obtain ⟨k, rfl⟩ : ∃ m, k = m + 1 := ⟨k - 1, by omega⟩
    dsimp only
    rw [spec_l2Through.l1, if_neg (by omega), show j = l.length by omega]
    exact h k (by omega)
  | t + 1, j, hj => by
    obtain ⟨K, h⟩ := la_l1 hi hol ho hR t (j + 1) (by omega)
    dsimp only at h
    by_cases e : j = i
    · rw [lp, if_pos e] at h
      refine ⟨K + 1, fun k hk => ?_⟩
      obtain ⟨k, rfl⟩ : ∃ m, k = m + 1 := ⟨k - 1, by omega⟩
      dsimp only
      rw [spec_l2Through.l1, if_pos (by omega), if_pos (by omega), w64 (by omega)]
      exact h k (by omega)
    · rw [lp, if_neg e] at h
      have hlpl := lp_length i j
      obtain ⟨K2, h2⟩ := l2Mul_ev (a := lp i j) (b := lfac i j) (lp_ok i j) (lfac_ok i j) (by rw [hlpl]; split <;> omega) (by simp [lfac])
      dsimp only at h2
      refine ⟨K + K2 + 41, fun k hk => ?_⟩
      obtain ⟨k, rfl⟩ : ∃ m, k = m + 1 := ⟨k - 1, by omega⟩
      dsimp only
      rw [spec_l2Through.l1, if_pos (by omega), if_neg (by omega), sFieldDif, fdif_ok (okF_iff.2 (by omega)) (okF_iff.2 (by omega))]
      simp only [Option.bind_some]
      rw [l1Inv_eq (okF_mod _) k (by omega)]
      simp only [Option.bind_some]
      rw [sFieldDif, fdif_ok rfl (okF_iff.2 (by omega))]
      simp only [Option.bind_some]
      rw [sFieldMul, fmul_ok (okF_mod _) (inv_ok (okF_mod _))]
      simp only [Option.bind_some]
      have hm := h2 k (by omega)
      unfold lfac at hm
      rw [hm]
      simp only [Option.bind_some]
      rw [w64 (by omega)]
      have := h k (by omega)
      unfold lfac at this
      exact this
theorem la_l0 : ∀ (t i : Nat), i + t = l.length → Ev (fun k => spec_l2Through.l0 k l (lag l i) (i : Int)) (lagr l)
  | 0, i, hi => by
    refine ⟨1, fun k hk => ?_⟩
    obtain ⟨k, rfl⟩ : ∃ m, k = m + 1 := ⟨k - 1, by omega⟩
    dsimp only
    rw [spec_l2Through.l0, if_neg (by omega), show i = l.length by omega]; rfl
  | t + 1, i, hi => by
    have h0 := la_l0 t (i + 1) (by omega)
    obtain ⟨K, h⟩ := la_l1 hl hn (i := i) (by omega) (lag_length l i) (lag_ok l i) h0 l.length 0 (by omega)
    refine ⟨K + 1, fun k hk => ?_⟩
    obtain ⟨k, rfl⟩ : ∃ m, k = m + 1 := ⟨k - 1, by omega⟩
    dsimp only
    rw [spec_l2Through.l0, if_pos (by omega)]
    exact h k (by omega)
theorem l2Through_ev : Ev (fun k => spec_l2Through.f k l) (lagr l) := by
  obtain ⟨K, h⟩ := la_l0 hl hn l.length 0 (by omega)
  refine ⟨K, fun k hk => ?_⟩
  dsimp only
  unfold spec_l2Through.f
  rw [if_pos (by omega), Int.toNat_natCast, if_pos (by omega)]
  exact h k hk
end

end Go.Proofs.Ytdamainjflpgpaa.P
