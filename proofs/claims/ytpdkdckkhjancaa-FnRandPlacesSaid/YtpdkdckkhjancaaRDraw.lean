/- What is drawn out of a code for the laws on draws: some seed, some place. Conditions: the code holds bytes. -/
import Derived.Test.YtpdkdckkhjancaaPick
import Derived.Test.YtpdkdckkhjancaaPx10
import Derived.Test.YtpdkdckkhjancaaPx13
import Derived.Test.YtpdkdckkhjancaaPx6
import Derived.Test.YtpdkdckkhjancaaPx7
import Derived.Test.YtpdkdckkhjancaaPx8
namespace Go.Proofs.Ytpdkdckkhjancaa.P
open Go.RowKit Go.Proofs.Ytpdkdckkhjancaa.Num Go.Proofs.YtpdkdckkhjancaaW.PrintWords

theorem seed_ev {l : List Int} {p : Int} (h : Rd l p) (hp : p ≤ 900000) :
    ∃ v q, (∀ k, 1 ≤ k → spec_l91Seed.f k l p = some (v, q)) ∧ -1 ≤ v ∧ v ≤ 1000 ∧ p < q ∧ q ≤ p + 3 := by
  obtain ⟨v1, e1, a1, b1⟩ := pick_ev h (n := 60) (by omega)
  have h1 := h.next (by omega)
  obtain ⟨v2, e2, a2, b2⟩ := pick_ev h1 (n := 2) (by omega)
  obtain ⟨v3, e3, a3, b3⟩ := pick_ev h1 (n := 1000) (by omega)
  by_cases c0 : v1 = 0
  · refine ⟨rd [-1, 1000] v2, p + 1 + 1, fun k hk => by unfold spec_l91Seed.f; rw [e1 k hk]; simp only [Option.bind_some]; rw [if_pos c0, e2 k hk]; simp [a2, show v2 < 2 from b2], ?_, ?_, by omega, by omega⟩
    all_goals (obtain rfl | rfl : v2 = 0 ∨ v2 = 1 := by omega) <;> simp [Go.Proofs.YtpdkdckkhjancaaW.PrintWords.rd]
  · exact ⟨v3, p + 1 + 1, fun k hk => by unfold spec_l91Seed.f; rw [e1 k hk]; simp only [Option.bind_some]; rw [if_neg c0, e3 k hk]; rfl, by omega, by omega, by omega, by omega⟩
theorem drawRandAt_ev {l : List Int} (h : Bytes l) : ∃ a b, (∀ k, 1 ≤ k → spec_DrawRandAt.f k l = some (a, b)) ∧ -1 ≤ a ∧ a ≤ 1000 ∧ -1 ≤ b ∧ b ≤ 21 := by
  obtain ⟨c, ho, hb, hl⟩ := open_ev h
  obtain ⟨a, q, ea, a1, a2, q1, q2⟩ := seed_ev (p := 0) ⟨hb, hl, by omega, by omega⟩ (by omega)
  obtain ⟨b, eb, b1, b2⟩ := pick_ev (p := q) (n := 23) ⟨hb, hl, by omega, by omega⟩ (by omega)
  exact ⟨a, b - 1, fun k hk => by unfold spec_DrawRandAt.f; rw [ho]; simp only [Option.bind_some]; rw [ea k hk]; simp only [Option.bind_some]; rw [eb k hk]; simp only [Option.bind_some]; rw [w64 (by omega)], a1, a2, by omega, by omega⟩
theorem drawRandVec_ev {l : List Int} (h : Bytes l) : ∃ a b, (∀ k, 1 ≤ k → spec_DrawRandVec.f k l = some (a, b)) ∧ -1 ≤ a ∧ a ≤ 1000 ∧ -1 ≤ b ∧ b ≤ 21 := by
  obtain ⟨c, ho, hb, hl⟩ := open_ev h
  obtain ⟨a, q, ea, a1, a2, q1, q2⟩ := seed_ev (p := 0) ⟨hb, hl, by omega, by omega⟩ (by omega)
  obtain ⟨b, eb, b1, b2⟩ := pick_ev (p := q) (n := 23) ⟨hb, hl, by omega, by omega⟩ (by omega)
  exact ⟨a, b - 1, fun k hk => by unfold spec_DrawRandVec.f; rw [ho]; simp only [Option.bind_some]; rw [ea k hk]; simp only [Option.bind_some]; rw [eb k hk]; simp only [Option.bind_some]; rw [w64 (by omega)], a1, a2, by omega, by omega⟩
theorem drawRandBoth_ev {l : List Int} (h : Bytes l) : ∃ a b c, (∀ k, 1 ≤ k → spec_DrawRandBoth.f k l = some (a, b, c)) ∧ -1 ≤ a ∧ a ≤ 1000 ∧ -1 ≤ b ∧ b ≤ 1000 ∧ -1 ≤ c ∧ c ≤ 21 := by
  obtain ⟨c, ho, hb, hl⟩ := open_ev h
  obtain ⟨a, q, ea, a1, a2, q1, q2⟩ := seed_ev (p := 0) ⟨hb, hl, by omega, by omega⟩ (by omega)
  obtain ⟨b, q', eb, b1, b2, q3, q4⟩ := seed_ev (p := q) ⟨hb, hl, by omega, by omega⟩ (by omega)
  obtain ⟨d, ed, d1, d2⟩ := pick_ev (p := q') (n := 23) ⟨hb, hl, by omega, by omega⟩ (by omega)
  exact ⟨a, b, d - 1, fun k hk => by unfold spec_DrawRandBoth.f; rw [ho]; simp only [Option.bind_some]; rw [ea k hk]; simp only [Option.bind_some]; rw [eb k hk]; simp only [Option.bind_some]; rw [ed k hk]; simp only [Option.bind_some]; rw [w64 (by omega)], a1, a2, b1, b2, by omega, by omega⟩
theorem drawInv_ev {l : List Int} (h : Bytes l) : ∃ a, (∀ k, 1 ≤ k → spec_DrawFieldInv.f k l = some a) ∧ -1 ≤ a ∧ a ≤ 31 := by
  obtain ⟨c, ho, hb, hl⟩ := open_ev h
  obtain ⟨a, q, ea, a1, a2, q1, q2⟩ := num_ev (p := 0) ⟨hb, hl, by omega, by omega⟩ (by omega)
  exact ⟨a, fun k hk => by unfold spec_DrawFieldInv.f; rw [ho]; simp only [Option.bind_some]; rw [ea k hk]; rfl, a1, a2⟩

end Go.Proofs.Ytpdkdckkhjancaa.P
