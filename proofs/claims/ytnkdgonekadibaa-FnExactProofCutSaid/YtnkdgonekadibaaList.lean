/- What the laws' own functions on lists answer: whether two lists are the same; a copy; marks laid and found again. Conditions: lists of fewer than 2^40 numbers. -/
import Derived.Test.YtnkdgonekadibaaField
import Derived.Test.YtnkdgonekadibaaPx15
import Derived.Test.YtnkdgonekadibaaPx3
import Derived.Test.YtnkdgonekadibaaPx5
import Derived.Test.YtnkdgonekadibaaPx6
namespace Go.Proofs.Ytnkdgonekadibaa.P
open Go.RowKit Go.Proofs.Ytnkdgonekadibaa.Num Go.Proofs.YtnkdgonekadibaaW.PrintWords

/-- What an Ev gives at one number of rounds, and from there on. -/
theorem Ev.at_ {α : Type} {g : Nat → Option α} {r : α} (h : Ev g r) : ∃ K, ∀ k, K ≤ k → g k = some r := h

theorem rd_nat (l : List Int) (i : Nat) : rd l (i : Int) = l.getD i 0 := rfl
theorem rd_lt {l : List Int} {i : Nat} (h : i < l.length) : rd l (i : Int) = l[i] := by simp [rd_nat, List.getD_eq_getElem?_getD, List.getElem?_eq_getElem h]

/-- Two lists of one length are the same from i on. -/
theorem drop_eq {a b : List Int} {i : Nat} (ha : i < a.length) (hb : i < b.length) : a.drop i = b.drop i ↔ a[i] = b[i] ∧ a.drop (i + 1) = b.drop (i + 1) := by
  rw [List.drop_eq_getElem_cons ha, List.drop_eq_getElem_cons hb, List.cons.injEq]

theorem eqIntS_loop (a b : List Int) (hl : a.length = b.length) (hm : a.length < 1099511627776) (d : Nat) : ∀ i : Nat, i + d = a.length → Ev (fun k => laws_eqIntS.l0 k a b (i : Int)) (decide (a.drop i = b.drop i)) := by
  induction d with
  | zero =>
    intro i hi
    refine ⟨1, fun k hk => ?_⟩
    obtain ⟨k, rfl⟩ : ∃ m, k = m + 1 := ⟨k - 1, by omega⟩
    simp only [laws_eqIntS.l0]
    rw [if_neg (by omega), List.drop_of_length_le (by omega), List.drop_of_length_le (by omega)]
    simp
  | succ d ih =>
    intro i hi
    have hia : i < a.length := by omega
    have hib : i < b.length := by omega
    obtain ⟨K, h⟩ := ih (i + 1) (by omega)
    refine ⟨K + 1, fun k hk => ?_⟩
    obtain ⟨k, rfl⟩ : ∃ m, k = m + 1 := ⟨k - 1, by omega⟩
    simp only [laws_eqIntS.l0]
    rw [if_pos (by omega), if_pos (by omega), if_pos (by omega), rd_lt hia, rd_lt hib, w64 (by omega)]
    by_cases e : a[i] = b[i]
    · rw [if_pos e]
      refine (h k (by omega)).trans ?_
      simp [drop_eq hia hib, e]
    · rw [if_neg e]
      simp [drop_eq hia hib, e]
theorem eqIntS_ev (a b : List Int) (hm : a.length < 1099511627776) : Ev (fun k => laws_eqIntS.f k a b) (decide (a = b)) := by
  unfold laws_eqIntS.f
  by_cases hl : a.length = b.length
  · obtain ⟨K, h⟩ := eqIntS_loop a b hl hm a.length 0 (by omega)
    exact ⟨K, fun k hk => by dsimp only; rw [if_pos (by omega)]; exact h k hk⟩
  · exact ⟨0, fun k _ => by dsimp only; rw [if_neg (by omega)]; simp; intro e; exact hl (by rw [e])⟩
theorem loInts_loop (a b : List Int) (hl : a.length = b.length) (hm : a.length < 1099511627776) (d : Nat) : ∀ i : Nat, i + d = a.length → Ev (fun k => laws_loInts.l0 k a b (i : Int)) (decide (a.drop i = b.drop i)) := by
  induction d with
  | zero =>
    intro i hi
    refine ⟨1, fun k hk => ?_⟩
    obtain ⟨k, rfl⟩ : ∃ m, k = m + 1 := ⟨k - 1, by omega⟩
    simp only [laws_loInts.l0]
    rw [if_neg (by omega), List.drop_of_length_le (by omega), List.drop_of_length_le (by omega)]
    simp
  | succ d ih =>
    intro i hi
    have hia : i < a.length := by omega
    have hib : i < b.length := by omega
    obtain ⟨K, h⟩ := ih (i + 1) (by omega)
    refine ⟨K + 1, fun k hk => ?_⟩
    obtain ⟨k, rfl⟩ : ∃ m, k = m + 1 := ⟨k - 1, by omega⟩
    simp only [laws_loInts.l0]
    rw [if_pos (by omega), if_pos (by omega), if_pos (by omega), rd_lt hia, rd_lt hib, w64 (by omega)]
    by_cases e : a[i] = b[i]
    · rw [if_pos e]
      refine (h k (by omega)).trans ?_
      simp [drop_eq hia hib, e]
    · rw [if_neg e]
      simp [drop_eq hia hib, e]
theorem loInts_ev (a b : List Int) (hm : a.length < 1099511627776) : Ev (fun k => laws_loInts.f k a b) (decide (a = b)) := by
  unfold laws_loInts.f
  by_cases hl : a.length = b.length
  · obtain ⟨K, h⟩ := loInts_loop a b hl hm a.length 0 (by omega)
    exact ⟨K, fun k hk => by dsimp only; rw [if_pos (by omega)]; exact h k hk⟩
  · exact ⟨0, fun k _ => by dsimp only; rw [if_neg (by omega)]; simp; intro e; exact hl (by rw [e])⟩

/-- The marks from c on, n of them. -/
def marks (c : Int) (n : Nat) : List Int := (List.range n).map fun i : Nat => c + (i : Int)
theorem marks_length (c : Int) (n : Nat) : (marks c n).length = n := by simp [marks]
theorem marks_at {c : Int} {n i : Nat} (h : i < n) : (marks c n)[i]'(by simpa [marks] using h) = c + (i : Int) := by simp [marks]

theorem markIntS_loop (l : List Int) (c : Int) (hc : 0 ≤ c ∧ c ≤ 1099511627776) (hm : l.length < 1099511627776) (d : Nat) : ∀ i : Nat, i + d = l.length → Ev (fun k => laws_markIntS.l0 k ((marks c i) ++ l.drop i) (c + (i : Int)) (i : Int)) (c + (l.length : Int), marks c l.length) := by
  induction d with
  | zero =>
    intro i hi
    obtain rfl : i = l.length := by omega
    refine ⟨1, fun k hk => ?_⟩
    obtain ⟨k, rfl⟩ : ∃ m, k = m + 1 := ⟨k - 1, by omega⟩
    simp only [laws_markIntS.l0]
    rw [if_neg (by simp [marks_length]), List.drop_length]
    simp
  | succ d ih =>
    intro i hi
    obtain ⟨K, h⟩ := ih (i + 1) (by omega)
    refine ⟨K + 1, fun k hk => ?_⟩
    obtain ⟨k, rfl⟩ : ∃ m, k = m + 1 := ⟨k - 1, by omega⟩
    have hia : i < l.length := by omega
    simp only [laws_markIntS.l0]
    rw [if_pos (by simp [marks_length]; omega), if_pos (by omega), w64 (n := c + (i : Int) + 1) (by omega), w64 (by omega)]
    have e : ((marks c i) ++ l.drop i).set (i : Int).toNat (c + (i : Int)) = marks c (i + 1) ++ l.drop (i + 1) := by
      rw [Int.toNat_natCast, ← List.getElem_cons_drop (h := hia), List.set_append_right _ _ (by rw [marks_length]; omega), marks_length, Nat.sub_self, List.set_cons_zero]
      simp [marks, List.range_succ]
    rw [e, Int.add_assoc]
    exact h k (by omega)
theorem markIntS_ev (l : List Int) (c : Int) (hc : 0 ≤ c ∧ c ≤ 1099511627776) (hm : l.length < 1099511627776) : Ev (fun k => laws_markIntS.f k l c) (c + (l.length : Int), marks c l.length) := by
  have h := markIntS_loop l c hc hm l.length 0 (by omega)
  simpa [marks, laws_markIntS.f] using h
theorem heldIntS_loop (n : Nat) (c : Int) (hc : 0 ≤ c ∧ c ≤ 1099511627776) (hm : n < 1099511627776) (d : Nat) : ∀ i : Nat, i + d = n → Ev (fun k => laws_heldIntS.l0 k (marks c n) (c + (i : Int)) (i : Int)) (c + (n : Int)) := by
  induction d with
  | zero =>
    intro i hi
    obtain rfl : i = n := by omega
    refine ⟨1, fun k hk => ?_⟩
    obtain ⟨k, rfl⟩ : ∃ m, k = m + 1 := ⟨k - 1, by omega⟩
    simp only [laws_heldIntS.l0]
    rw [if_neg (by simp [marks_length])]
  | succ d ih =>
    intro i hi
    obtain ⟨K, h⟩ := ih (i + 1) (by omega)
    refine ⟨K + 1, fun k hk => ?_⟩
    obtain ⟨k, rfl⟩ : ∃ m, k = m + 1 := ⟨k - 1, by omega⟩
    have hia : i < (marks c n).length := by rw [marks_length]; omega
    simp only [laws_heldIntS.l0]
    rw [if_pos (by omega), if_pos (by omega), rd_lt hia, marks_at (by omega), if_pos rfl, w64 (n := c + (i : Int) + 1) (by omega), w64 (by omega), Int.add_assoc]
    exact h k (by omega)
theorem heldIntS_ev (n : Nat) (c : Int) (hc : 0 ≤ c ∧ c ≤ 1099511627776) (hm : n < 1099511627776) : Ev (fun k => laws_heldIntS.f k (marks c n) c) (c + (n : Int)) := by
  have h := heldIntS_loop n c hc hm n 0 (by omega)
  simpa [laws_heldIntS.f] using h
theorem toIntS_loop (l : List Int) (hm : l.length < 1099511627776) (d : Nat) : ∀ i : Nat, i + d = l.length → Ev (fun k => laws_toIntS.l0 k l (l.take i ++ List.replicate d 0) (i : Int)) l := by
  induction d with
  | zero =>
    intro i hi
    obtain rfl : i = l.length := by omega
    refine ⟨1, fun k hk => ?_⟩
    obtain ⟨k, rfl⟩ : ∃ m, k = m + 1 := ⟨k - 1, by omega⟩
    simp only [laws_toIntS.l0]
    rw [if_neg (by omega), List.take_length]
    simp
  | succ d ih =>
    intro i hi
    obtain ⟨K, h⟩ := ih (i + 1) (by omega)
    refine ⟨K + 1, fun k hk => ?_⟩
    obtain ⟨k, rfl⟩ : ∃ m, k = m + 1 := ⟨k - 1, by omega⟩
    have hia : i < l.length := by omega
    have hl : (l.take i ++ List.replicate (d + 1) 0).length = l.length := by simp; omega
    simp only [laws_toIntS.l0]
    rw [if_pos (by omega), if_pos (by omega), hl, if_pos (by omega), w64 (by omega), rd_lt hia]
    have e : (l.take i ++ List.replicate (d + 1) 0).set (i : Int).toNat l[i] = l.take (i + 1) ++ List.replicate d 0 := by
      rw [Int.toNat_natCast, List.set_append_right _ _ (by simp; omega), List.length_take, Nat.min_eq_left (by omega), Nat.sub_self, List.replicate_succ, List.set_cons_zero, List.take_succ_eq_append_getElem hia, List.append_assoc]
      rfl
    rw [e]
    exact h k (by omega)
theorem toIntS_ev (l : List Int) (hm : l.length < 1099511627776) : Ev (fun k => laws_toIntS.f k l) l := by
  obtain ⟨K, h⟩ := toIntS_loop l hm l.length 0 (by omega)
  refine ⟨K, fun k hk => ?_⟩
  unfold laws_toIntS.f
  dsimp only
  rw [if_pos (by omega), if_pos (by omega), Int.toNat_natCast]
  have := h k hk
  simpa using this

end Go.Proofs.Ytnkdgonekadibaa.P
