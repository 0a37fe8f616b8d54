/- What the reader of a code answers: a number from 0 on, below the asked one, at a place one further; and a drawn number of the field, or one beside it. Conditions: the code holds bytes and is at most 2000 long; few have been read. -/
import Derived.Test.YtdamainjflpgpaaField
import Derived.Test.YtdamainjflpgpaaPx12
import Derived.Test.YtdamainjflpgpaaPx13
import Derived.Test.YtdamainjflpgpaaPx15
namespace Go.Proofs.Ytdamainjflpgpaa.P
open Go.RowKit Go.Proofs.Ytdamainjflpgpaa.Num Go.Proofs.YtdamainjflpgpaaW.PrintWords

/-- A code's bytes. -/
def Bytes (l : List Int) : Prop := ∀ x ∈ l, 0 ≤ x ∧ x ≤ 255
theorem bytes_of {l : List Int} (h : ∀ x ∈ l, (Lit.int .u8 x).wf = true) : Bytes l := fun x hx => bounds_u8 (h x hx)
theorem Bytes.take {l : List Int} (h : Bytes l) (n : Nat) : Bytes (l.take n) := fun x hx => h x (List.mem_of_mem_take hx)
theorem Bytes.rd {l : List Int} (h : Bytes l) (i : Int) : 0 ≤ rd l i ∧ rd l i ≤ 255 := by
  unfold Go.Proofs.YtdamainjflpgpaaW.PrintWords.rd
  rw [List.getD_eq_getElem?_getD]
  cases e : l[i.toNat]? with
  | none => simp
  | some x => exact h x (List.mem_of_getElem? e)

/-- The reader, behind its opening: it has not read much. -/
structure Rd (l : List Int) (p : Int) : Prop where
  bytes : Bytes l
  len : l.length ≤ 2000
  lo : 0 ≤ p
  hi : p ≤ 1000000

theorem open_ev {l : List Int} (h : Bytes l) : ∃ b, spec_l6Open.f l = some (b, 0) ∧ Bytes b ∧ b.length ≤ 2000 := by
  unfold spec_l6Open.f
  by_cases hl : (l.length : Int) > 2000
  · rw [if_pos hl, if_pos (by omega)]
    exact ⟨_, rfl, h.take _, by simp; omega⟩
  · rw [if_neg hl]
    exact ⟨_, rfl, h, by omega⟩

theorem pick_ev {l : List Int} {p n : Int} (h : Rd l p) (hn : 1 ≤ n ∧ n ≤ 1000000) :
    ∃ v, (∀ k, 1 ≤ k → spec_l6Rd_pick.f k l p n = some (v, p + 1)) ∧ 0 ≤ v ∧ v < n := by
  obtain ⟨hb, hl, h0, h1⟩ := h
  unfold spec_l6Rd_pick.f
  rw [w64 (n := p + 1) (by omega)]
  simp only [show ¬ n < 1 by omega, if_false]
  by_cases e : l.length = 0
  · refine ⟨0, fun k hk => ?_, by omega, by omega⟩
    obtain ⟨k, rfl⟩ : ∃ m, k = m + 1 := ⟨k - 1, by omega⟩
    simp [spec_l6Rd_pick.j0, e]
  · have e' : ((l.length : Int) == 0) = false := by rw [beq_eq_false_iff_ne]; omega
    rw [e']
    have w1 : wrap64 (p + 1 - 1) = p := by rw [w64 (by omega)]; omega
    by_cases hp : p < (l.length : Int)
    · have hr := hb.rd p
      refine ⟨rd l p % n, fun k hk => ?_, Int.emod_nonneg _ (by omega), Int.emod_lt_of_pos _ (by omega)⟩
      obtain ⟨k, rfl⟩ : ∃ m, k = m + 1 := ⟨k - 1, by omega⟩
      simp only [spec_l6Rd_pick.j0, Bool.false_eq_true, if_false]
      rw [w1, if_pos hp, if_pos h0, if_neg (by omega), w64 (n := rd l p) (by omega), tmod_pos (by omega)]
    · have q1 : Int.tmod p (l.length : Int) = p % (l.length : Int) := tmod_pos h0
      have q2 : wrap64 (wrap64 (p * 7) + 3) = p * 7 + 3 := by rw [w64 (n := p * 7) (by omega), w64 (by omega)]
      have q3 : Int.tmod (p * 7 + 3) (l.length : Int) = (p * 7 + 3) % (l.length : Int) := tmod_pos (by omega)
      have b1 := Int.emod_nonneg p (b := (l.length : Int)) (by omega)
      have b2 := Int.emod_lt_of_pos p (b := (l.length : Int)) (by omega)
      have b3 := Int.emod_nonneg (p * 7 + 3) (b := (l.length : Int)) (by omega)
      have b4 := Int.emod_lt_of_pos (p * 7 + 3) (b := (l.length : Int)) (by omega)
      have r1 := hb.rd (p % (l.length : Int))
      have r2 := hb.rd ((p * 7 + 3) % (l.length : Int))
      have d1 : Int.tdiv p (l.length : Int) = p / (l.length : Int) := Int.tdiv_eq_ediv_of_nonneg h0
      have d2 : 0 ≤ p / (l.length : Int) := Int.ediv_nonneg h0 (by omega)
      have d3 : p / (l.length : Int) ≤ p := Int.ediv_le_self _ h0
      obtain ⟨X, hX⟩ : ∃ X, rd l (p % (l.length : Int)) * 131 + rd l ((p * 7 + 3) % (l.length : Int)) * 1117 + p * 29 + p / (l.length : Int) * 53 = X := ⟨_, rfl⟩
      have hx0 : 0 ≤ X ∧ X ≤ 1000000000 := by omega
      have hxx : wrap64 (wrap64 (wrap64 (wrap64 (wrap64 (rd l (p % (l.length : Int))) * 131) + wrap64 (wrap64 (rd l ((p * 7 + 3) % (l.length : Int))) * 1117)) + wrap64 (p * 29)) + wrap64 (wrap64 (p / (l.length : Int)) * 53)) = X := by
        rw [w64 (n := rd l (p % (l.length : Int))) (by omega), w64 (n := rd l ((p * 7 + 3) % (l.length : Int))) (by omega), w64 (n := rd l (p % (l.length : Int)) * 131) (by omega), w64 (n := rd l ((p * 7 + 3) % (l.length : Int)) * 1117) (by omega), w64 (n := p * 29) (by omega), w64 (n := p / (l.length : Int)) (by omega), w64 (n := p / (l.length : Int) * 53) (by omega), w64 (n := rd l (p % (l.length : Int)) * 131 + _) (by omega), w64 (n := rd l (p % (l.length : Int)) * 131 + _ + _) (by omega), w64 (by omega)]
        exact hX
      have hd : wrap64 (Int.tdiv X 64) = X / 64 := by rw [Int.tdiv_eq_ediv_of_nonneg hx0.1, w64 (by omega)]
      have hxr := xor_nonneg (x := X) (y := X / 64) (by omega) (by omega)
      refine ⟨bits .xor .i64 X (X / 64) % n, fun k hk => ?_, Int.emod_nonneg _ (by omega), Int.emod_lt_of_pos _ (by omega)⟩
      obtain ⟨k, rfl⟩ : ∃ m, k = m + 1 := ⟨k - 1, by omega⟩
      simp only [spec_l6Rd_pick.j0, Bool.false_eq_true, if_false]
      rw [w1, if_neg hp, if_neg (by omega), q1, q2, q3, d1, if_pos b1, if_pos b2, if_pos b3, if_pos b4, if_neg (by omega), hxx, hd, tmod_pos hxr]

theorem Rd.next {l : List Int} {p : Int} (h : Rd l p) (hp : p < 1000000) : Rd l (p + 1) := ⟨h.bytes, h.len, by have := h.lo; omega, by omega⟩

theorem num_ev {l : List Int} {p : Int} (h : Rd l p) (hp : p ≤ 900000) :
    ∃ v q, (∀ k, 1 ≤ k → spec_l91Num.f k l p = some (v, q)) ∧ -1 ≤ v ∧ v ≤ 31 ∧ p < q ∧ q ≤ p + 3 := by
  obtain ⟨v1, e1, a1, b1⟩ := pick_ev h (n := 10) (by omega)
  have h1 := h.next (by omega)
  obtain ⟨v2, e2, a2, b2⟩ := pick_ev h1 (n := 2) (by omega)
  obtain ⟨v3, e3, a3, b3⟩ := pick_ev h1 (n := 5) (by omega)
  obtain ⟨v4, e4, a4, b4⟩ := pick_ev h1 (n := 31) (by omega)
  have h2 := h1.next (by omega)
  obtain ⟨v5, e5, a5, b5⟩ := pick_ev h2 (n := 2) (by omega)
  obtain ⟨v6, e6, a6, b6⟩ := pick_ev h2 (n := 31) (by omega)
  by_cases c0 : v1 = 0
  · exact ⟨0, p + 1, fun k hk => by unfold spec_l91Num.f; rw [e1 k hk]; simp [c0], by omega, by omega, by omega, by omega⟩
  by_cases c1 : v1 = 1
  · refine ⟨rd [1, 30] v2, p + 1 + 1, fun k hk => by unfold spec_l91Num.f; rw [e1 k hk]; simp only [Option.bind_some]; rw [if_neg c0, if_pos c1, e2 k hk]; simp [a2, show v2 < 2 from b2], ?_, ?_, by omega, by omega⟩
    all_goals (obtain rfl | rfl : v2 = 0 ∨ v2 = 1 := by omega) <;> simp [Go.Proofs.YtdamainjflpgpaaW.PrintWords.rd]
  by_cases c2 : v1 = 2
  · by_cases c3 : v3 = 0
    · refine ⟨rd [-1, 31] v5, p + 1 + 1 + 1, fun k hk => by unfold spec_l91Num.f; rw [e1 k hk]; simp only [Option.bind_some]; rw [if_neg c0, if_neg c1, if_pos c2, e3 k hk]; simp only [Option.bind_some]; rw [if_pos c3, e5 k hk]; simp [a5, show v5 < 2 from b5], ?_, ?_, by omega, by omega⟩
      all_goals (obtain rfl | rfl : v5 = 0 ∨ v5 = 1 := by omega) <;> simp [Go.Proofs.YtdamainjflpgpaaW.PrintWords.rd]
    · exact ⟨v6, p + 1 + 1 + 1, fun k hk => by unfold spec_l91Num.f; rw [e1 k hk]; simp only [Option.bind_some]; rw [if_neg c0, if_neg c1, if_pos c2, e3 k hk]; simp only [Option.bind_some]; rw [if_neg c3, e6 k hk]; rfl, by omega, by omega, by omega, by omega⟩
  · exact ⟨v4, p + 1 + 1, fun k hk => by unfold spec_l91Num.f; rw [e1 k hk]; simp only [Option.bind_some]; rw [if_neg c0, if_neg c1, if_neg c2, e4 k hk]; rfl, by omega, by omega, by omega, by omega⟩

end Go.Proofs.Ytdamainjflpgpaa.P
