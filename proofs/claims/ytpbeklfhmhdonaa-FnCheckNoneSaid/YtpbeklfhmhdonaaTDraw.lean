/- What the type laws draw from a code: kinds, values, lists; of few numbers. Condition: the code holds bytes. -/
import Derived.Test.YtpbeklfhmhdonaaType
import Derived.Test.YtpbeklfhmhdonaaPDraw
import Derived.Test.YtpbeklfhmhdonaaPx11
import Derived.Test.YtpbeklfhmhdonaaPx6
import Derived.Test.YtpbeklfhmhdonaaPx7
namespace Go.Proofs.Ytpbeklfhmhdonaa.P
open Go.RowKit Go.Proofs.Ytpbeklfhmhdonaa.Num Go.Proofs.YtpbeklfhmhdonaaW.PrintWords
set_option linter.unusedSimpArgs false

theorem kind_ev {l : List Int} {p : Int} (h : Rd l p) (hp : p ≤ 900000) : ∃ v q, (∀ k, 1 ≤ k → spec_l91Kind.f k l p = some (v, q)) ∧ 0 ≤ v ∧ v ≤ 4 ∧ p ≤ q ∧ q ≤ p + 2 := by
  obtain ⟨v1, e1, a1, b1⟩ := pick_ev h (n := 60) (by omega)
  have h1 := h.next (by omega)
  obtain ⟨v2, e2, a2, b2⟩ := pick_ev h1 (n := 2) (by omega)
  obtain ⟨v3, e3, a3, b3⟩ := pick_ev h1 (n := 3) (by omega)
  by_cases c : v1 = 0
  · refine ⟨rd [0, 4] v2, p + 1 + 1, fun k hk => by unfold spec_l91Kind.f; rw [e1 k hk]; simp only [Option.bind_some]; rw [if_pos c, e2 k hk]; simp [a2, show v2 < 2 from b2], ?_, ?_, by omega, by omega⟩
    all_goals (obtain rfl | rfl : v2 = 0 ∨ v2 = 1 := by omega) <;> simp [Go.Proofs.YtpbeklfhmhdonaaW.PrintWords.rd]
  · exact ⟨1 + v3, p + 1 + 1, fun k hk => by unfold spec_l91Kind.f; rw [e1 k hk]; simp only [Option.bind_some]; rw [if_neg c, e3 k hk]; simp only [Option.bind_some]; rw [w64 (by omega)], by omega, by omega, by omega, by omega⟩
theorem kind_small {v : Int} (h : 0 ≤ v ∧ v < 3) : kindI (1 + v) = true ∧ 0 ≤ mostI (1 + v) ∧ mostI (1 + v) ≤ 7 := by
  obtain rfl | rfl | rfl : v = 0 ∨ v = 1 ∨ v = 2 := by omega
  all_goals decide
theorem val_ev {l : List Int} {p : Int} (h : Rd l p) (hp : p ≤ 800000) : ∃ a v q, (∀ k, 1 ≤ k → spec_l91Val.f k l p = some (a, v, q)) ∧ 0 ≤ a ∧ a ≤ 4 ∧ -1 ≤ v ∧ v ≤ 10 := by
  obtain ⟨v1, e1, a1, b1⟩ := pick_ev h (n := 3) (by omega)
  obtain ⟨hk, m0, m1⟩ := kind_small ⟨a1, b1⟩
  have h1 := h.next (by omega)
  obtain ⟨v2, e2, a2, b2⟩ := pick_ev h1 (n := mostI (1 + v1) + 1) (by omega)
  have h2 := h1.next (by omega)
  obtain ⟨v3, e3, a3, b3⟩ := pick_ev h2 (n := 30) (by omega)
  have h3 := h2.next (by omega)
  by_cases c : v3 = 0
  · obtain ⟨a, q, e4, a4, b4, q1, q2⟩ := kind_ev h3 (by omega)
    have h4 : Rd l q := ⟨h.bytes, h.len, by have := h.lo; omega, by omega⟩
    obtain ⟨v5, e5, a5, b5⟩ := pick_ev h4 (n := 10) (by omega)
    refine ⟨a, v5 - 1, q + 1, fun k hk' => ?_, a4, b4, by omega, by omega⟩
    unfold spec_l91Val.f
    rw [e1 k hk']; simp only [Option.bind_some]
    rw [w64 (n := 1 + v1) (by omega), sMost hk]; simp only [Option.bind_some]
    rw [w64 (n := mostI (1 + v1) + 1) (by omega), e2 k hk']; simp only [Option.bind_some]
    rw [e3 k hk']; simp only [Option.bind_some]
    rw [if_pos c, e4 k hk']; simp only [Option.bind_some]
    rw [e5 k hk']; simp only [Option.bind_some]
    rw [w64 (by omega)]
  · refine ⟨1 + v1, v2, p + 1 + 1 + 1, fun k hk' => ?_, by omega, by omega, by omega, by omega⟩
    unfold spec_l91Val.f
    rw [e1 k hk']; simp only [Option.bind_some]
    rw [w64 (n := 1 + v1) (by omega), sMost hk]; simp only [Option.bind_some]
    rw [w64 (n := mostI (1 + v1) + 1) (by omega), e2 k hk']; simp only [Option.bind_some]
    rw [e3 k hk']; simp only [Option.bind_some]
    rw [if_neg c]
theorem drawTypeMake_ev {l : List Int} (h : Bytes l) : ∃ a v, (∀ k, 1 ≤ k → spec_DrawTypeMake.f k l = some (a, v)) ∧ 0 ≤ a ∧ a ≤ 4 ∧ -1 ≤ v ∧ v ≤ 10 := by
  obtain ⟨c, ho, hb, hl⟩ := open_ev h
  obtain ⟨a, v, q, e, a1, a2, v1, v2⟩ := val_ev (l := c) (p := 0) ⟨hb, hl, by omega, by omega⟩ (by omega)
  exact ⟨a, v, fun k hk => by unfold spec_DrawTypeMake.f; rw [ho]; simp only [Option.bind_some]; rw [e k hk]; rfl, a1, a2, v1, v2⟩
theorem vec_ev {l : List Int} {p : Int} (h : Rd l p) (hp : p ≤ 600000) : ∃ a c q, Ev (fun k => spec_l91Vec.f k l p) (a, c, q) ∧ 0 ≤ a ∧ a ≤ 4 ∧ c.length ≤ 5 ∧ p ≤ q ∧ q ≤ p + 200 := by
  obtain ⟨v1, e1, a1, b1⟩ := pick_ev h (n := 3) (by omega)
  obtain ⟨hk, m0, m1⟩ := kind_small ⟨a1, b1⟩
  have h1 := h.next (by omega)
  obtain ⟨v2, e2, a2, b2⟩ := pick_ev h1 (n := mostI (1 + v1) + 1) (by omega)
  have h2 := h1.next (by omega)
  obtain ⟨m, hm, K0, em⟩ := sMake (a := 1 + v1) (v := v2) hk (by omega)
  have hml : 1 ≤ m.length ∧ m.length ≤ 4 := by
    obtain ⟨n, rfl⟩ := Int.eq_ofNat_of_zero_le a2
    rw [encI_at] at hm
    have hmem := List.mem_of_getElem? hm
    have : ∀ c ∈ encs (1 + v1), 1 ≤ c.length ∧ c.length ≤ 4 := by unfold encs; (repeat' split) <;> decide
    exact this _ hmem
  obtain ⟨v3, e3, a3, b3⟩ := pick_ev h2 (n := 4) (by omega)
  have h3 := h2.next (by omega)
  dsimp only at em
  by_cases c : v3 = 0
  · obtain ⟨v4, e4, a4, b4⟩ := pick_ev h3 (n := (m.length : Int)) (by omega)
    have h4 := h3.next (by omega)
    obtain ⟨v5, e5, a5, b5⟩ := pick_ev h4 (n := 31) (by omega)
    have h5 := h4.next (by omega)
    obtain ⟨v6, e6, a6, b6⟩ := pick_ev h5 (n := 5) (by omega)
    refine ⟨1 + v1, m.set v4.toNat (rd [0, 1, 2, v5, 30] v6), p + 1 + 1 + 1 + 1 + 1 + 1, ⟨K0 + 1, fun k hk' => ?_⟩, by omega, by omega, by simp; omega, by omega, by omega⟩
    dsimp only
    unfold spec_l91Vec.f
    rw [e1 k (by omega)]; simp only [Option.bind_some]
    rw [w64 (n := 1 + v1) (by omega), sMost hk]; simp only [Option.bind_some]
    rw [w64 (n := mostI (1 + v1) + 1) (by omega), e2 k (by omega)]; simp only [Option.bind_some]
    rw [em k (by omega)]; simp only [Option.bind_some]
    rw [e3 k (by omega)]; simp only [Option.bind_some]
    rw [if_pos c, e4 k (by omega)]; simp only [Option.bind_some]
    rw [e5 k (by omega)]; simp only [Option.bind_some]
    rw [e6 k (by omega)]; simp only [Option.bind_some]
    rw [if_pos a6, if_pos (by simpa using b6), if_pos a4, if_pos b4]
  by_cases c1 : v3 = 1
  · obtain ⟨v4, e4, a4, b4⟩ := pick_ev h3 (n := 6) (by omega)
    have h4 := h3.next (by omega)
    by_cases c2 : v4 = 0
    · obtain ⟨a, q, e5, a5, b5, q1, q2⟩ := kind_ev h4 (by omega)
      have h5 : Rd l q := ⟨h.bytes, h.len, by have := h.lo; omega, by omega⟩
      obtain ⟨r, q', ⟨K1, e6⟩, l6, q3, q4⟩ := list_ev 5 (by omega) h5 (by omega)
      change ∀ k, K1 ≤ k → spec_l91List.f k l q 5 = _ at e6
      refine ⟨a, r, q', ⟨K0 + K1 + 1, fun k hk' => ?_⟩, a5, b5, l6, by omega, by omega⟩
      dsimp only
      unfold spec_l91Vec.f
      rw [e1 k (by omega)]; simp only [Option.bind_some]
      rw [w64 (n := 1 + v1) (by omega), sMost hk]; simp only [Option.bind_some]
      rw [w64 (n := mostI (1 + v1) + 1) (by omega), e2 k (by omega)]; simp only [Option.bind_some]
      rw [em k (by omega)]; simp only [Option.bind_some]
      rw [e3 k (by omega)]; simp only [Option.bind_some]
      rw [if_neg c, if_pos c1, e4 k (by omega)]; simp only [Option.bind_some]
      rw [if_pos c2, e5 k (by omega)]; simp only [Option.bind_some]
      rw [e6 k (by omega)]; simp only [Option.bind_some]
    · refine ⟨1 + v1, m, p + 1 + 1 + 1 + 1, ⟨K0 + 1, fun k hk' => ?_⟩, by omega, by omega, by omega, by omega, by omega⟩
      dsimp only
      unfold spec_l91Vec.f
      rw [e1 k (by omega)]; simp only [Option.bind_some]
      rw [w64 (n := 1 + v1) (by omega), sMost hk]; simp only [Option.bind_some]
      rw [w64 (n := mostI (1 + v1) + 1) (by omega), e2 k (by omega)]; simp only [Option.bind_some]
      rw [em k (by omega)]; simp only [Option.bind_some]
      rw [e3 k (by omega)]; simp only [Option.bind_some]
      rw [if_neg c, if_pos c1, e4 k (by omega)]; simp only [Option.bind_some]
      rw [if_neg c2]
  · refine ⟨1 + v1, m, p + 1 + 1 + 1, ⟨K0 + 1, fun k hk' => ?_⟩, by omega, by omega, by omega, by omega, by omega⟩
    dsimp only
    unfold spec_l91Vec.f
    rw [e1 k (by omega)]; simp only [Option.bind_some]
    rw [w64 (n := 1 + v1) (by omega), sMost hk]; simp only [Option.bind_some]
    rw [w64 (n := mostI (1 + v1) + 1) (by omega), e2 k (by omega)]; simp only [Option.bind_some]
    rw [em k (by omega)]; simp only [Option.bind_some]
    rw [e3 k (by omega)]; simp only [Option.bind_some]
    rw [if_neg c, if_neg c1]

end Go.Proofs.Ytpbeklfhmhdonaa.P
