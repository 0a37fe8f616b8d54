/- What the check laws draw from a code. Condition: the code holds bytes. -/
import Derived.Test.YtpbeklfhmhdonaaTDraw
import Derived.Test.YtpbeklfhmhdonaaPx13
import Derived.Test.YtpbeklfhmhdonaaPx8
namespace Go.Proofs.Ytpbeklfhmhdonaa.P
open Go.RowKit Go.Proofs.Ytpbeklfhmhdonaa.Num Go.Proofs.YtpbeklfhmhdonaaW.PrintWords
set_option linter.unusedSimpArgs false

theorem drawTypeOk_ev {l : List Int} (h : Bytes l) : ∃ a c, Ev (fun k => spec_DrawTypeOk.f k l) (a, c) ∧ 0 ≤ a ∧ a ≤ 4 ∧ c.length ≤ 5 := by
  obtain ⟨b, ho, hb, hl⟩ := open_ev h
  obtain ⟨a, c, q, ⟨K, e⟩, a1, a2, h3, _, _⟩ := vec_ev (l := b) (p := 0) ⟨hb, hl, by omega, by omega⟩ (by omega)
  exact ⟨a, c, ⟨K, fun k hk => by have := e k hk; dsimp only at this ⊢; unfold spec_DrawTypeOk.f; rw [ho]; simp only [Option.bind_some]; rw [this]; rfl⟩, a1, a2, h3⟩
theorem drawTypeCheck_ev {l : List Int} (h : Bytes l) : ∃ a c x, Ev (fun k => spec_DrawTypeCheck.f k l) (a, c, x) ∧ 0 ≤ a ∧ a ≤ 4 ∧ c.length ≤ 5 := by
  obtain ⟨b, ho, hb, hl⟩ := open_ev h
  obtain ⟨a, c, q, ⟨K, e⟩, a1, a2, h3, q1, q2⟩ := vec_ev (l := b) (p := 0) ⟨hb, hl, by omega, by omega⟩ (by omega)
  obtain ⟨x, q', e', x1, x2, _, _⟩ := num_ev (l := b) (p := q) ⟨hb, hl, by omega, by omega⟩ (by omega)
  exact ⟨a, c, x, ⟨K + 1, fun k hk => by have := e k (by omega); dsimp only at this ⊢; unfold spec_DrawTypeCheck.f; rw [ho]; simp only [Option.bind_some]; rw [this]; simp only [Option.bind_some]; rw [e' k (by omega)]; rfl⟩, a1, a2, h3⟩

end Go.Proofs.Ytpbeklfhmhdonaa.P
