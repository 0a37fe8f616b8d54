/- What ProofCut answers, of the program and of the reference: a kind's vector, two numbers, and the rest; nothing, where the list is none. Conditions: lists of fewer than 2^40 numbers. -/
import Derived.Test.YtnkdgonekadibaaType
import Derived.Test.YtnkdgonekadibaaHandCut
import Derived.Test.YtnkdgonekadibaaPx10
import Derived.Test.YtnkdgonekadibaaPx11
import Derived.Test.YtnkdgonekadibaaPx9
namespace Go.Proofs.Ytnkdgonekadibaa.P
open Go.RowKit Go.Proofs.Ytnkdgonekadibaa.Num Go.Proofs.YtnkdgonekadibaaW.PrintWords
set_option linter.unusedSimpArgs false

def cutOk (a : Int) (l : List Int) : Bool := kindI a && shareOk l && decide ((l.length : Int) = proofLenI a)
def cutR (a : Int) (l : List Int) : List Int × Int × Int × List Int × Bool :=
  if cutOk a l then (l.take (lenI a).toNat, rd l (lenI a), rd l (lenI a + 1), l.drop (lenI a + 2).toNat, true) else ([], 0, 0, [], false)
theorem cutOk_len {a : Int} {l : List Int} (h : cutOk a l = true) : 0 < lenI a ∧ lenI a ≤ 4 ∧ (l.length : Int) = 3 * lenI a + 3 ∧ l.length ≤ 20 := by
  unfold cutOk at h
  simp only [Bool.and_eq_true, decide_eq_true_eq] at h
  obtain ⟨⟨h1, h2⟩, h3⟩ := h
  have hr := lenI_rng a
  have h4 := (shareOk_iff.1 h2).2
  unfold proofLenI at h3
  rw [h1] at h3
  simp only [if_true] at h3
  have hpos : 0 < lenI a := by rcases kindI_iff.1 h1 with rfl | rfl | rfl <;> decide
  exact ⟨hpos, hr.2, h3, h4⟩
theorem sCut {a : Int} {l : List Int} (h : cutOk a l = true) : spec_l12Cut.f a l = some (l.take (lenI a).toNat, rd l (lenI a), rd l (lenI a + 1), l.drop (lenI a + 2).toNat) := by
  obtain ⟨h1, h2, h3, h4⟩ := cutOk_len h
  unfold spec_l12Cut.f
  rw [sTypeLen]
  simp only [Option.bind_some, List.length_nil, Nat.zero_add, List.nil_append]
  rw [w64 (n := lenI a + 1) (by omega), w64 (n := lenI a + 2) (by omega)]
  have b1 : (l.take (lenI a).toNat).length < 17592186044416 := by rw [List.length_take]; omega
  have b2 : (l.drop (lenI a + 2).toNat).length < 17592186044416 := by rw [List.length_drop]; omega
  rw [if_pos (by omega), if_pos (by omega), if_pos b1, if_pos (by omega), if_pos (by omega), if_pos (by omega), if_pos (by omega), if_pos (by omega), if_pos b2]
theorem sProofCut (a : Int) (l : List Int) (hm : l.length < 1099511627776) : Ev (fun k => spec_ProofCut.f k a l) (cutR a l) := by
  obtain ⟨K, h⟩ := sShareOk l hm
  refine ⟨K, fun k hk => ?_⟩
  have e := h k hk
  dsimp only at e ⊢
  unfold spec_ProofCut.f
  rw [sKind, e, sProofLen]
  unfold cutR
  cases h1 : kindI a
  · have : cutOk a l = false := by unfold cutOk; rw [h1]; rfl
    rw [this]; rfl
  cases h2 : shareOk l
  · have : cutOk a l = false := by unfold cutOk; rw [h1, h2]; rfl
    rw [this]; rfl
  by_cases h3 : (l.length : Int) = proofLenI a
  · have hc : cutOk a l = true := by unfold cutOk; rw [h1, h2, decide_eq_true h3]; rfl
    simp only [Option.bind_some, if_true]
    rw [if_pos h3, sCut hc, hc]; rfl
  · have hc : cutOk a l = false := by unfold cutOk; rw [decide_eq_false h3]; simp
    simp only [Option.bind_some, if_true]
    rw [if_neg h3, hc]; rfl
theorem sized_cut (a : Int) (l : List Int) : impl_sized.f a l (proofLenI a) = some (cutOk a l) := by
  unfold impl_sized.f impl_kindOk.f cutOk
  simp only [Option.bind_some]
  cases kindI a
  · rfl
  by_cases hl : (l.length : Int) = proofLenI a
  · rw [if_pos rfl, if_pos hl, decide_eq_true hl, show (20 : Int) = ((20 : Nat) : Int) from rfl, elementsOk_eq]
    simp [shareOk]
  · rw [if_pos rfl, if_neg hl, decide_eq_false hl]; simp
theorem iProofCut (a : Int) (l : List Int) : impl_ProofCut.f a l = some (cutR a l) := by
  unfold impl_ProofCut.f
  rw [iProofLen]
  simp only [Option.bind_some]
  rw [sized_cut]
  simp only [Option.bind_some]
  unfold cutR
  cases h : cutOk a l
  · rfl
  · obtain ⟨h1, h2, h3, h4⟩ := cutOk_len h
    simp only [if_true]
    unfold impl_cut.f
    rw [if_pos ⟨h1, by omega, h4⟩]; rfl
theorem cutR_len (a : Int) (l : List Int) : (cutR a l).1.length ≤ 20 ∧ (cutR a l).2.2.2.1.length ≤ 20 := by
  unfold cutR
  cases h : cutOk a l
  · simp
  · obtain ⟨h1, h2, h3, h4⟩ := cutOk_len h
    simp only [if_true, List.length_take, List.length_drop]
    omega
theorem eqProof_ev (u v : Int) (h : List Int) (hm : h.length < 1099511627776) : Ev (fun k => laws_eqProof.f k u v h u v h) true := by
  obtain ⟨K, e⟩ := eqIntS_ev h h hm
  refine ⟨K, fun k hk => ?_⟩
  have := e k hk
  dsimp only at this ⊢
  unfold laws_eqProof.f
  rw [if_pos rfl, if_pos rfl, this]; simp

end Go.Proofs.Ytnkdgonekadibaa.P
