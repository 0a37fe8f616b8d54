/- What is drawn out of a code for the laws on lists: some list of a few numbers. Conditions: the code holds bytes. -/
import Derived.Test.YtdamainjflpgpaaPick
import Derived.Test.YtdamainjflpgpaaPx13
import Derived.Test.YtdamainjflpgpaaPx15
import Derived.Test.YtdamainjflpgpaaPx16
import Derived.Test.YtdamainjflpgpaaPx24
namespace Go.Proofs.Ytdamainjflpgpaa.P
open Go.RowKit Go.Proofs.Ytdamainjflpgpaa.Num Go.Proofs.YtdamainjflpgpaaW.PrintWords

theorem list_l0 {c : List Int} (n : Nat) (hn : n ≤ 100) : ∀ (l : List Int) (p : Int), l.length + n ≤ 200 → Rd c p → p + n ≤ 800000 → ∃ r q, (Ev (fun k => spec_l91List.l0 k l (n : Int) c p) (r, q)) ∧ r.length = l.length + n ∧ p ≤ q ∧ q ≤ p + n + 3 := by
  induction n with
  | zero =>
    intro l p hl h hp
    by_cases h0 : l.length = 0
    · refine ⟨l, p, ⟨2, fun k hk => ?_⟩, by omega, by omega, by omega⟩
      obtain ⟨k, rfl⟩ : ∃ m, k = m + 2 := ⟨k - 2, by omega⟩
      simp only [spec_l91List.l0]
      rw [if_neg (by omega), if_neg (by omega)]; rfl
    · obtain ⟨v, e, a, b⟩ := pick_ev h (n := 40) (by omega)
      have h1 := h.next (by omega)
      obtain ⟨v1, e1, a1, b1⟩ := pick_ev h1 (n := (l.length : Int)) (by omega)
      have h2 := h1.next (by omega)
      obtain ⟨v2, e2, a2, b2⟩ := pick_ev h2 (n := 2) (by omega)
      by_cases hv : v = 0
      · refine ⟨l.set v1.toNat (rd [-1, 31] v2), p + 1 + 1 + 1, ⟨3, fun k hk => ?_⟩, by simp, by omega, by omega⟩
        obtain ⟨k, rfl⟩ : ∃ m, k = m + 3 := ⟨k - 3, by omega⟩
        simp only [spec_l91List.l0]
        rw [if_neg (by omega), if_pos (by omega), e _ (by omega)]
        simp only [Option.bind_some, spec_l91List.j1]
        rw [hv, e1 _ (by omega)]
        simp only [Option.bind_some, beq_self_eq_true, if_true]
        rw [e2 _ (by omega)]
        simp only [Option.bind_some]
        rw [if_pos a2, if_pos (by simpa using b2), if_pos a1, if_pos b1]
      · refine ⟨l, p + 1, ⟨3, fun k hk => ?_⟩, by omega, by omega, by omega⟩
        obtain ⟨k, rfl⟩ : ∃ m, k = m + 3 := ⟨k - 3, by omega⟩
        simp only [spec_l91List.l0]
        rw [if_neg (by omega), if_pos (by omega), e _ (by omega)]
        simp only [Option.bind_some, spec_l91List.j1]
        rw [beq_eq_false_iff_ne.2 hv]; rfl
  | succ n ih =>
    intro l p hl h hp
    obtain ⟨v, e, a, b⟩ := pick_ev h (n := 31) (by omega)
    obtain ⟨r, q, ⟨K, hK⟩, h1, h2, h3⟩ := ih (by omega) (l ++ [v]) (p + 1) (by simp; omega) (h.next (by omega)) (by omega)
    refine ⟨r, q, ⟨K + 2, fun k hk => ?_⟩, by simp at h1; omega, by omega, by omega⟩
    obtain ⟨k, rfl⟩ : ∃ m, k = m + 1 := ⟨k - 1, by omega⟩
    simp only [spec_l91List.l0]
    rw [if_pos (by omega), e _ (by omega)]
    simp only [Option.bind_some]
    rw [if_pos (by omega), w64 (by omega), show ((n + 1 : Nat) : Int) - 1 = (n : Int) by omega]
    exact hK k (by omega)

theorem list_ev {c : List Int} {p : Int} (m : Nat) (hm : m ≤ 50) (h : Rd c p) (hp : p ≤ 700000) : ∃ r q, (Ev (fun k => spec_l91List.f k c p (m : Int)) (r, q)) ∧ r.length ≤ m ∧ p ≤ q ∧ q ≤ p + 100 := by
  obtain ⟨v, e, a, b⟩ := pick_ev h (n := (m : Int) + 1) (by omega)
  obtain ⟨n, rfl⟩ := Int.eq_ofNat_of_zero_le a
  obtain ⟨r, q, ⟨K, hK⟩, h1, h2, h3⟩ := list_l0 (c := c) n (by omega) [] (p + 1) (by simp; omega) (h.next (by omega)) (by omega)
  refine ⟨r, q, ⟨K + 1, fun k hk => ?_⟩, by simp at h1; omega, by omega, by omega⟩
  dsimp only
  unfold spec_l91List.f
  rw [w64 (by omega), e _ (by omega)]
  exact hK k (by omega)

theorem drawPolyAt_ev {l : List Int} (h : Bytes l) : ∃ p x, Ev (fun k => spec_DrawPolyAt.f k l) (p, x) ∧ p.length ≤ 6 ∧ -1 ≤ x ∧ x ≤ 31 := by
  obtain ⟨c, ho, hb, hl⟩ := open_ev h
  obtain ⟨p, q, ⟨K, e⟩, h1, h2, h3⟩ := list_ev (c := c) (p := 0) 6 (by omega) ⟨hb, hl, by omega, by omega⟩ (by omega)
  obtain ⟨x, q', e', x1, x2, _, _⟩ := num_ev (l := c) (p := q) ⟨hb, hl, by omega, by omega⟩ (by omega)
  change ∀ k, K ≤ k → spec_l91List.f k c 0 6 = _ at e
  exact ⟨p, x, ⟨K + 1, fun k hk => by dsimp only; unfold spec_DrawPolyAt.f; rw [ho]; simp only [Option.bind_some]; rw [e k (by omega)]; simp only [Option.bind_some]; rw [e' k (by omega)]; rfl⟩, h1, x1, x2⟩
theorem drawPolyMul_ev {l : List Int} (h : Bytes l) : ∃ a b, Ev (fun k => spec_DrawPolyMul.f k l) (a, b) ∧ a.length ≤ 5 ∧ b.length ≤ 6 := by
  obtain ⟨c, ho, hb, hl⟩ := open_ev h
  obtain ⟨a, q, ⟨K, e⟩, h1, h2, h3⟩ := list_ev (c := c) (p := 0) 5 (by omega) ⟨hb, hl, by omega, by omega⟩ (by omega)
  obtain ⟨b, q', ⟨K2, e'⟩, h4, _, _⟩ := list_ev (c := c) (p := q) 6 (by omega) ⟨hb, hl, by omega, by omega⟩ (by omega)
  change ∀ k, K ≤ k → spec_l91List.f k c 0 5 = _ at e
  change ∀ k, K2 ≤ k → spec_l91List.f k c q 6 = _ at e'
  exact ⟨a, b, ⟨K + K2, fun k hk => by dsimp only; unfold spec_DrawPolyMul.f; rw [ho]; simp only [Option.bind_some]; rw [e k (by omega)]; simp only [Option.bind_some]; rw [e' k (by omega)]; rfl⟩, h1, h4⟩
theorem drawPolyThrough_ev {l : List Int} (h : Bytes l) : ∃ a, Ev (fun k => spec_DrawPolyThrough.f k l) a ∧ a.length ≤ 9 := by
  obtain ⟨c, ho, hb, hl⟩ := open_ev h
  obtain ⟨a, q, ⟨K, e⟩, h1, h2, h3⟩ := list_ev (c := c) (p := 0) 9 (by omega) ⟨hb, hl, by omega, by omega⟩ (by omega)
  change ∀ k, K ≤ k → spec_l91List.f k c 0 9 = _ at e
  exact ⟨a, ⟨K, fun k hk => by dsimp only; unfold spec_DrawPolyThrough.f; rw [ho]; simp only [Option.bind_some]; rw [e k (by omega)]; rfl⟩, h1⟩

end Go.Proofs.Ytdamainjflpgpaa.P
