/- What the reference and the program say of the kinds: their lengths, what their values are written as, which lists are well formed, which value a list has. Conditions: lists of fewer than 2^40 numbers. -/
import Derived.Test.YtnkdgonekadibaaPolyOk
import Derived.Test.YtnkdgonekadibaaHandType
import Derived.Test.YtnkdgonekadibaaPx1
import Derived.Test.YtnkdgonekadibaaPx2
import Derived.Test.YtnkdgonekadibaaPx5
import Derived.Test.YtnkdgonekadibaaPx6
import Derived.Test.YtnkdgonekadibaaPx7
namespace Go.Proofs.Ytnkdgonekadibaa.P
open Go.RowKit Go.Proofs.Ytnkdgonekadibaa.Num Go.Proofs.YtnkdgonekadibaaW.PrintWords
set_option linter.unusedSimpArgs false

theorem sTypeLen (a : Int) : spec_TypeLen.f a = some (lenI a) := by
  unfold spec_TypeLen.f lenI
  (repeat' split) <;> rfl
theorem sKind (a : Int) : spec_l11Kind.f a = some (kindI a) := by
  unfold spec_l11Kind.f spec_l6In.f kindI
  by_cases h : a ≥ 1
  · rw [if_pos h]; simp [h]
  · rw [if_neg h]; simp; omega
theorem kindI_iff {a : Int} : kindI a = true ↔ a = 1 ∨ a = 2 ∨ a = 3 := by unfold kindI; simp; omega
theorem lenI_kind {a : Int} (h : kindI a = false) : lenI a = 0 := by
  have : ¬ (a = 1 ∨ a = 2 ∨ a = 3) := fun h' => by rw [kindI_iff.2 h'] at h; cases h
  unfold lenI; rw [if_neg (by omega), if_neg (by omega), if_neg (by omega)]
theorem lenI_rng (a : Int) : 0 ≤ lenI a ∧ lenI a ≤ 4 := by unfold lenI; (repeat' split) <;> omega
def proofLenI (a : Int) : Int := if kindI a then 3 * lenI a + 3 else 0
theorem sProofLen (a : Int) : spec_ProofLen.f a = some (proofLenI a) := by
  have h := lenI_rng a
  unfold spec_ProofLen.f proofLenI
  rw [sKind, sTypeLen]
  cases kindI a
  · rfl
  · simp only [Option.bind_some, if_true]; rw [w64 (n := 3 * lenI a) (by omega), w64 (by omega)]
theorem iProofLen (a : Int) : impl_ProofLen.f a = some (proofLenI a) := by
  have h := lenI_rng a
  unfold impl_ProofLen.f impl_kindOk.f impl_TypeLen.f proofLenI
  cases kindI a
  · rfl
  · simp only [Option.bind_some, if_true]; rw [w64 (n := 3 * lenI a) (by omega), w64 (by omega)]

/-- The lists of a kind, in the order of their values. -/
def encs (a : Int) : List (List Int) := if a = 1 then [[0], [1]] else if a = 2 then [[1, 0, 0, 0], [0, 1, 0, 0], [0, 0, 1, 0], [0, 0, 0, 1]] else if a = 3 then [[0, 0, 0], [1, 0, 0], [0, 1, 0], [1, 1, 0], [0, 0, 1], [1, 0, 1], [0, 1, 1], [1, 1, 1]] else []
theorem encs_no {a : Int} (h : kindI a = false) : encs a = [] := by
  have : ¬ (a = 1 ∨ a = 2 ∨ a = 3) := fun h' => by rw [kindI_iff.2 h'] at h; cases h
  unfold encs; rw [if_neg (by omega), if_neg (by omega), if_neg (by omega)]
theorem encs_few (a : Int) : (encs a).length ≤ 8 := by unfold encs; (repeat' split) <;> simp
def mostI (a : Int) : Int := (encs a).length - 1
theorem encI_no {a v : Int} (h : kindI a = false) : encI a v = none := by
  have : ¬ (a = 1 ∨ a = 2 ∨ a = 3) := fun h' => by rw [kindI_iff.2 h'] at h; cases h
  unfold encI; rw [if_neg (by omega), if_neg (by omega), if_neg (by omega)]
theorem encI_out {a v : Int} (h : ¬ (0 ≤ v ∧ v ≤ mostI a)) : encI a v = none := by
  cases hk : kindI a
  · exact encI_no hk
  · rcases kindI_iff.1 hk with rfl | rfl | rfl
    · have : mostI 1 = 1 := rfl
      unfold encI; rw [if_neg (by omega), if_neg (by omega), if_neg (by omega)]
    · have : mostI 2 = 3 := rfl
      unfold encI; rw [if_neg (by omega), if_neg (by omega), if_neg (by omega)]
    · have : mostI 3 = 7 := rfl
      unfold encI; rw [if_neg (by omega), if_neg (by omega), if_neg (by omega)]
theorem small_cases {v n : Int} (h : 0 ≤ v ∧ v ≤ n) (hn : n ≤ 7) : v = 0 ∨ v = 1 ∨ v = 2 ∨ v = 3 ∨ v = 4 ∨ v = 5 ∨ v = 6 ∨ v = 7 := by omega
theorem encI_at (a : Int) (v : Nat) : encI a (v : Int) = (encs a)[v]? := by
  by_cases h : (v : Int) ≤ mostI a
  · have hm : mostI a ≤ 7 := by have := encs_few a; unfold mostI; omega
    cases hk : kindI a
    · rw [encI_no hk, encs_no hk]; rfl
    · have hv : v = 0 ∨ v = 1 ∨ v = 2 ∨ v = 3 ∨ v = 4 ∨ v = 5 ∨ v = 6 ∨ v = 7 := by omega
      rcases kindI_iff.1 hk with rfl | rfl | rfl <;> rcases hv with rfl | rfl | rfl | rfl | rfl | rfl | rfl | rfl <;> decide
  · rw [encI_out (by omega), List.getElem?_eq_none (by unfold mostI at h; omega)]

theorem sMost {a : Int} (h : kindI a = true) : spec_l11Most.f a = some (mostI a) := by
  rcases kindI_iff.1 h with rfl | rfl | rfl <;> rfl
theorem sIn (a b c : Int) : spec_l6In.f a b c = some (decide (b ≤ a ∧ a ≤ c)) := by
  unfold spec_l6In.f
  by_cases h : a ≥ b
  · rw [if_pos h]; simp [h]
  · rw [if_neg h]; simp; omega
theorem sMake {a v : Int} (h : kindI a = true) (hv : 0 ≤ v ∧ v ≤ mostI a) : ∃ l, encI a v = some l ∧ Ev (fun k => spec_l11Make.f k a v) l := by
  have hm : mostI a ≤ 7 := by have := encs_few a; unfold mostI; omega
  have hc := small_cases hv hm
  suffices ∃ l, encI a v = some l ∧ spec_l11Make.f 20 a v = some l by
    obtain ⟨l, h1, h2⟩ := this
    exact ⟨l, h1, 20, fun k hk => at_rounds (g := fun k => spec_l11Make.f k a v) (spec_l11Make.mono a v) hk h2⟩
  rcases kindI_iff.1 h with rfl | rfl | rfl <;> rcases hc with rfl | rfl | rfl | rfl | rfl | rfl | rfl | rfl <;> first | exact absurd hv (by decide) | exact ⟨_, rfl, by decide +kernel⟩
theorem sTypeMake (a v : Int) : Ev (fun k => spec_TypeMake.f k a v) (encR a v) := by
  unfold spec_TypeMake.f
  cases hk : kindI a
  · exact ⟨0, fun k _ => by dsimp only; rw [sKind, hk, encR_none (encI_no hk)]; rfl⟩
  · by_cases hv : 0 ≤ v ∧ v ≤ mostI a
    · obtain ⟨l, h1, K, h2⟩ := sMake hk hv
      refine ⟨K, fun k h => ?_⟩
      dsimp only
      rw [sKind, hk, sMost hk]
      simp only [Option.bind_some, if_true]
      rw [sIn, decide_eq_true hv]
      simp only [Option.bind_some, if_true]
      have := h2 k h
      dsimp only at this
      rw [this, encR_some h1]; rfl
    · refine ⟨0, fun k h => ?_⟩
      dsimp only
      rw [sKind, hk, sMost hk]
      simp only [Option.bind_some, if_true]
      rw [sIn, decide_eq_false hv, encR_none (encI_out hv)]; rfl

/-- The first place of l in L, counted from v; if it stands there. -/
def find (l : List Int) : List (List Int) → Int → Int × Bool
  | [], _ => (0, false)
  | c :: L, v => if c = l then (v, true) else find l L (v + 1)
def valR (a : Int) (l : List Int) : Int × Bool := find l (encs a) 0

theorem sliceEq_loop (a b : List Int) (hl : a.length = b.length) (hm : a.length < 1099511627776) (d : Nat) : ∀ i : Nat, i + d = a.length → Ev (fun k => slices_Equal_int_int.l0 k a b (a.length : Int) (i : Int)) (decide (a.drop i = b.drop i)) := by
  induction d with
  | zero =>
    intro i hi
    refine ⟨1, fun k hk => ?_⟩
    obtain ⟨k, rfl⟩ : ∃ m, k = m + 1 := ⟨k - 1, by omega⟩
    simp only [slices_Equal_int_int.l0]
    rw [if_neg (by omega), List.drop_of_length_le (by omega), List.drop_of_length_le (by omega)]
    simp
  | succ d ih =>
    intro i hi
    have hia : i < a.length := by omega
    have hib : i < b.length := by omega
    obtain ⟨K, h⟩ := ih (i + 1) (by omega)
    refine ⟨K + 1, fun k hk => ?_⟩
    obtain ⟨k, rfl⟩ : ∃ m, k = m + 1 := ⟨k - 1, by omega⟩
    simp only [slices_Equal_int_int.l0]
    rw [if_pos (by omega), if_pos (by omega), if_pos (by omega), if_pos (by omega), rd_lt hia, rd_lt hib, w64 (by omega)]
    by_cases e : a[i] = b[i]
    · rw [if_pos e]
      refine (h k (by omega)).trans ?_
      simp [drop_eq hia hib, e]
    · rw [if_neg e]
      simp [drop_eq hia hib, e]
theorem sliceEq_ev (a b : List Int) (hm : a.length < 1099511627776) : Ev (fun k => slices_Equal_int_int.f k a b) (decide (a = b)) := by
  unfold slices_Equal_int_int.f
  by_cases hl : a.length = b.length
  · obtain ⟨K, h⟩ := sliceEq_loop a b hl hm a.length 0 (by omega)
    exact ⟨K, fun k hk => by dsimp only; rw [if_pos (by omega)]; exact h k hk⟩
  · exact ⟨0, fun k _ => by dsimp only; rw [if_neg (by omega)]; simp; intro e; exact hl (by rw [e])⟩
theorem encs_len {a : Int} : ∀ c ∈ encs a, c.length ≤ 4 := by unfold encs; (repeat' split) <;> decide
theorem iTypeVal_loop (a : Int) (l : List Int) (d : Nat) : ∀ v : Nat, v + d = (encs a).length → Ev (fun k => impl_TypeVal.l0 k a l (v : Int)) (find l ((encs a).drop v) (v : Int)) := by
  have hf := encs_few a
  induction d with
  | zero =>
    intro v hv
    refine ⟨1, fun k hk => ?_⟩
    obtain ⟨k, rfl⟩ : ∃ m, k = m + 1 := ⟨k - 1, by omega⟩
    simp only [impl_TypeVal.l0, impl_TypeMake.f]
    rw [encR_none (by rw [encI_at, List.getElem?_eq_none (by omega)]), List.drop_of_length_le (by omega)]
    rfl
  | succ d ih =>
    intro v hv
    have hvl : v < (encs a).length := by omega
    obtain ⟨K, h⟩ := ih (v + 1) (by omega)
    obtain ⟨K2, h2⟩ := sliceEq_ev ((encs a)[v]) l (by have := encs_len _ (List.getElem_mem hvl); omega)
    dsimp only at h2
    refine ⟨K + K2 + 1, fun k hk => ?_⟩
    obtain ⟨k, rfl⟩ : ∃ m, k = m + 1 := ⟨k - 1, by omega⟩
    simp only [impl_TypeVal.l0, impl_TypeMake.f]
    rw [encR_some (by rw [encI_at, List.getElem?_eq_getElem hvl]), List.drop_eq_getElem_cons hvl]
    simp only [Option.bind_some, if_true]
    rw [h2 _ (by omega), w64 (by omega)]
    simp only [Option.bind_some, find]
    by_cases e : (encs a)[v] = l
    · simp [e]
    · rw [decide_eq_false e, if_neg (by simp), if_neg e]
      exact h k (by omega)
theorem iTypeVal (a : Int) (l : List Int) : Ev (fun k => impl_TypeVal.f k a l) (valR a l) := by
  have h := iTypeVal_loop a l (encs a).length 0 (by omega)
  simpa [valR, impl_TypeVal.f] using h
theorem iTypeOk (a : Int) (l : List Int) : Ev (fun k => impl_TypeOk.f k a l) (valR a l).2 := by
  obtain ⟨K, h⟩ := iTypeVal a l
  exact ⟨K, fun k hk => by have := h k hk; dsimp only at this ⊢; unfold impl_TypeOk.f; rw [this]; rfl⟩

/-- What find says. -/
theorem find_no {l : List Int} : ∀ {L : List (List Int)} {v : Int}, ¬ l ∈ L → find l L v = (0, false)
  | [], _, _ => rfl
  | c :: L, v, h => by
    rw [find, if_neg (fun e : c = l => h (e ▸ List.mem_cons_self)), find_no (fun e => h (List.mem_cons_of_mem _ e))]
theorem find_yes {l : List Int} : ∀ {L : List (List Int)} {v : Int}, l ∈ L → ∃ i : Nat, find l L v = (v + i, true) ∧ L[i]? = some l
  | [], _, h => by cases h
  | c :: L, v, h => by
    by_cases e : c = l
    · exact ⟨0, by rw [find, if_pos e]; simp, by simp [e]⟩
    · obtain ⟨i, h1, h2⟩ := find_yes (v := v + 1) (List.mem_of_ne_of_mem (fun x => e x.symm) h)
      exact ⟨i + 1, by rw [find, if_neg e, h1]; simp; omega, by simpa using h2⟩
theorem valR_ok (a : Int) (l : List Int) : (valR a l).2 = decide (l ∈ encs a) := by
  by_cases h : l ∈ encs a
  · obtain ⟨i, h1, _⟩ := find_yes (v := 0) h
    rw [valR, h1, decide_eq_true h]
  · rw [valR, find_no h, decide_eq_false h]
theorem valR_back {a v : Int} {l : List Int} (h : valR a l = (v, true)) : encI a v = some l := by
  by_cases hm : l ∈ encs a
  · obtain ⟨i, h1, h2⟩ := find_yes (v := 0) hm
    rw [valR, h1, Prod.mk.injEq] at h
    rw [← h.1, Int.zero_add, encI_at, h2]
  · rw [valR, find_no hm] at h; simp at h

def okL (a : Int) (l : List Int) : Bool := l.all (fun x => decide (x ≤ 1)) && (if a = 2 then l.sum == 1 else true)
theorem sOk_loop (a : Int) (l : List Int) (hl : l.length ≤ 20) (h : allOk l = true) (d : Nat) : ∀ (i : Nat) (s : Int), i + d = l.length → 0 ≤ s ∧ s ≤ 100 * (i : Int) → Ev (fun k => spec_l11Ok.l0 k a l s (i : Int)) ((l.drop i).all (fun x => decide (x ≤ 1)) && (if a = 2 then s + (l.drop i).sum == 1 else true)) := by
  induction d with
  | zero =>
    intro i s hi hs
    refine ⟨1, fun k hk => ?_⟩
    obtain ⟨k, rfl⟩ : ∃ m, k = m + 1 := ⟨k - 1, by omega⟩
    simp only [spec_l11Ok.l0]
    rw [if_neg (by omega), List.drop_of_length_le (by omega)]
    by_cases e : a = 2
    · rw [if_pos e, if_pos e]; simp
    · rw [if_neg e, if_neg e]; simp
  | succ d ih =>
    intro i s hi hs
    have hil : i < l.length := by omega
    have hx := okF_iff.1 (allOk_iff.1 h _ (List.getElem_mem hil))
    by_cases e : l[i] > 1
    · refine ⟨1, fun k hk => ?_⟩
      obtain ⟨k, rfl⟩ : ∃ m, k = m + 1 := ⟨k - 1, by omega⟩
      simp only [spec_l11Ok.l0]
      rw [if_pos (by omega), if_pos (by omega), rd_lt hil, if_pos e, List.drop_eq_getElem_cons hil]
      rw [List.all_cons, decide_eq_false (by omega), Bool.false_and, Bool.false_and]
    · obtain ⟨K, h⟩ := ih (i + 1) (s + l[i]) (by omega) (by omega)
      refine ⟨K + 1, fun k hk => ?_⟩
      obtain ⟨k, rfl⟩ : ∃ m, k = m + 1 := ⟨k - 1, by omega⟩
      simp only [spec_l11Ok.l0]
      rw [if_pos (by omega), if_pos (by omega), rd_lt hil, if_neg e, w64 (by omega), w64 (by omega)]
      refine (h k (by omega)).trans ?_
      rw [List.drop_eq_getElem_cons hil, List.all_cons, List.sum_cons, decide_eq_true (by omega), Bool.true_and, Int.add_assoc]
theorem sOk (a : Int) (l : List Int) (hl : l.length ≤ 20) (h : allOk l = true) : Ev (fun k => spec_l11Ok.f k a l) (okL a l) := by
  have h := sOk_loop a l hl h l.length 0 0 (by omega) (by omega)
  simpa [okL, spec_l11Ok.f] using h
def vecI (a : Int) (l : List Int) : Bool := kindI a && shareOk l && decide ((l.length : Int) = lenI a)
theorem sVec (a : Int) (l : List Int) (hm : l.length < 1099511627776) : Ev (fun k => spec_l11Vec.f k a l) (vecI a l) := by
  obtain ⟨K, h⟩ := sShareOk l hm
  refine ⟨K, fun k hk => ?_⟩
  have := h k hk
  dsimp only at this ⊢
  unfold spec_l11Vec.f vecI
  rw [sKind, sTypeLen, this]
  cases kindI a
  · rfl
  cases shareOk l
  · rfl
  · simp [BEq.beq]
theorem bit {x : Int} (h : 0 ≤ x) (h' : x ≤ 1) : x = 0 ∨ x = 1 := by omega
theorem mem_encs (a : Int) (l : List Int) : decide (l ∈ encs a) = (vecI a l && okL a l) := by
  cases hk : kindI a
  · rw [encs_no hk, vecI, hk]; rfl
  cases hs : shareOk l
  · have : ¬ l ∈ encs a := fun h => by
      have : ∀ c ∈ encs a, shareOk c = true := by unfold encs; (repeat' split) <;> decide
      rw [this _ h] at hs; cases hs
    rw [decide_eq_false this, vecI, hk, hs]; rfl
  by_cases hl : (l.length : Int) = lenI a
  · rw [vecI, hk, hs, decide_eq_true hl]
    have hr : ∀ x ∈ l, 0 ≤ x := fun x hx => (okF_iff.1 (allOk_iff.1 (shareOk_iff.1 hs).1 x hx)).1
    cases hb : l.all (fun x => decide (x ≤ 1))
    · have : ¬ l ∈ encs a := fun h => by
        have : ∀ c ∈ encs a, c.all (fun x => decide (x ≤ 1)) = true := by unfold encs; (repeat' split) <;> decide
        rw [this _ h] at hb; cases hb
      rw [decide_eq_false this, okL, hb]; rfl
    · have hb' : ∀ x ∈ l, x = 0 ∨ x = 1 := fun x hx => bit (hr x hx) (by simpa using List.all_eq_true.1 hb x hx)
      rcases kindI_iff.1 hk with rfl | rfl | rfl
      · obtain ⟨x, rfl⟩ : ∃ x, l = [x] := List.length_eq_one_iff.1 (by have : lenI 1 = 1 := rfl; omega)
        rcases hb' x (by simp) with rfl | rfl <;> decide
      · have hl4 : l.length = 4 := by simp [lenI] at hl; omega
        match l, hl4, hb' with
        | [x, y, z, u], _, hb' =>
          rcases hb' x (by simp) with rfl | rfl <;> rcases hb' y (by simp) with rfl | rfl <;> rcases hb' z (by simp) with rfl | rfl <;> rcases hb' u (by simp) with rfl | rfl <;> decide
      · have hl3 : l.length = 3 := by simp [lenI] at hl; omega
        match l, hl3, hb' with
        | [x, y, z], _, hb' =>
          rcases hb' x (by simp) with rfl | rfl <;> rcases hb' y (by simp) with rfl | rfl <;> rcases hb' z (by simp) with rfl | rfl <;> decide
  · have : ¬ l ∈ encs a := fun h => by
      have : ∀ c ∈ encs a, (c.length : Int) = lenI a := by
        rcases kindI_iff.1 hk with rfl | rfl | rfl <;> decide
      exact hl (this _ h)
    rw [decide_eq_false this, vecI, decide_eq_false hl]; simp
theorem sTypeOk (a : Int) (l : List Int) (hm : l.length < 1099511627776) : Ev (fun k => spec_TypeOk.f k a l) (valR a l).2 := by
  rw [valR_ok, mem_encs]
  obtain ⟨K, h⟩ := sVec a l hm
  cases hv : vecI a l
  · refine ⟨K, fun k hk => ?_⟩
    have := h k hk
    dsimp only at this ⊢
    unfold spec_TypeOk.f; rw [this, hv]; rfl
  · have hs : shareOk l = true := by unfold vecI at hv; simp at hv; exact hv.1.2
    obtain ⟨K2, h2⟩ := sOk a l (shareOk_iff.1 hs).2 (shareOk_iff.1 hs).1
    refine ⟨K + K2, fun k hk => ?_⟩
    have e1 := h k (by omega)
    have e2 := h2 k (by omega)
    dsimp only at e1 e2 ⊢
    unfold spec_TypeOk.f; rw [e1, hv]; simp only [Option.bind_some, if_true]; rw [e2]; rfl
theorem sVal_loop {a : Int} {l : List Int} (h : l ∈ encs a) : spec_TypeVal.l0 20 a l 0 (wrap64 ((l.length : Int) - 1)) = some (valR a l) := by
  have hk : kindI a = true := by
    cases hk : kindI a
    · rw [encs_no hk] at h; cases h
    · rfl
  rcases kindI_iff.1 hk with rfl | rfl | rfl
  · have : ∀ c ∈ encs 1, spec_TypeVal.l0 20 1 c 0 (wrap64 ((c.length : Int) - 1)) = some (valR 1 c) := by decide +kernel
    exact this _ h
  · have : ∀ c ∈ encs 2, spec_TypeVal.l0 20 2 c 0 (wrap64 ((c.length : Int) - 1)) = some (valR 2 c) := by decide +kernel
    exact this _ h
  · have : ∀ c ∈ encs 3, spec_TypeVal.l0 20 3 c 0 (wrap64 ((c.length : Int) - 1)) = some (valR 3 c) := by decide +kernel
    exact this _ h
theorem sTypeVal (a : Int) (l : List Int) (hm : l.length < 1099511627776) : Ev (fun k => spec_TypeVal.f k a l) (valR a l) := by
  obtain ⟨K, h⟩ := sTypeOk a l hm
  rw [valR_ok] at h
  by_cases hl : l ∈ encs a
  · refine ⟨K + 20, fun k hk => ?_⟩
    have e := h k (by omega)
    dsimp only at e ⊢
    unfold spec_TypeVal.f
    rw [e, decide_eq_true hl]; simp only [Option.bind_some, if_true]
    exact at_rounds (g := fun k => spec_TypeVal.l0 k a l 0 (wrap64 ((l.length : Int) - 1))) (fun k => spec_TypeVal.mono_l k a l 0 _) (show 20 ≤ k by omega) (sVal_loop hl)
  · refine ⟨K, fun k hk => ?_⟩
    have e := h k (by omega)
    dsimp only at e ⊢
    unfold spec_TypeVal.f
    rw [e, decide_eq_false hl, valR, find_no hl]; rfl

end Go.Proofs.Ytnkdgonekadibaa.P
