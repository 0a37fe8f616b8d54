import Derived.Test.YtcdnmnipaaooiaaShareNonePackC
import Derived.Test.YtcdnmnipaaooiaaShareNonePackA
import Derived.Test.YtcdnmnipaaooiaaKitG
import Derived.Test.YtcdnmnipaaooiaaShareNonePackB
import Derived.Test.YtcdnmnipaaooiaaKitI
import Derived.SizedLaws
import Derived.ChangeSlices
-- Written by a program of this session (wip/tools/pack.py): texts of this seat laid one behind the other, without what the claim does not reach
section
namespace Go.Proofs.Ytcdnmnipaaooiaa.P
open Go.RowKit Go.Proofs.Ytcdnmnipaaooiaa.Num Go.Proofs.YtcdnmnipaaooiaaW.PrintWords
theorem two_l0 {c a : List Int} (ha : a.length ≤ 50) (d : Nat) : ∀ (l : List Int) (p : Int), l.length + d = a.length → Rd c p → p + d ≤ 800000 → ∃ b q, (Ev (fun k => spec_l91Two.l0 k a l (l.length : Int) c p) (a, b, q)) ∧ b.length ≤ a.length + 1 := by
  induction d with
  | zero =>
    intro l p hl h hp
    obtain ⟨v, e, a0, b0⟩ := pick_ev h (n := 20) (by omega)
    have h1 := h.next (by omega)
    by_cases v0 : v = 0
    · refine ⟨l ++ [1], p + 1, ⟨2, fun k hk => ?_⟩, by simp; omega⟩
      obtain ⟨k, rfl⟩ : ∃ m, k = m + 2 := ⟨k - 2, by omega⟩
      simp only [spec_l91Two.l0]
      rw [if_neg (by omega), e _ (by omega)]
      simp only [Option.bind_some]
      rw [if_pos v0, if_pos (by omega)]
    by_cases v1 : v = 1
    · by_cases hl0 : (l.length : Int) > 0
      · obtain ⟨v2, e2, a2, b2⟩ := pick_ev h1 (n := (l.length : Int)) (by omega)
        refine ⟨l.set v2.toNat (-1), p + 1 + 1, ⟨2, fun k hk => ?_⟩, by simp; omega⟩
        obtain ⟨k, rfl⟩ : ∃ m, k = m + 2 := ⟨k - 2, by omega⟩
        simp only [spec_l91Two.l0]
        rw [if_neg (by omega), e _ (by omega)]
        simp only [Option.bind_some]
        rw [if_neg v0, if_pos v1, if_pos hl0, e2 _ (by omega)]
        simp only [Option.bind_some]
        rw [if_pos a2, if_pos b2]
      · refine ⟨l, p + 1, ⟨2, fun k hk => ?_⟩, by omega⟩
        obtain ⟨k, rfl⟩ : ∃ m, k = m + 2 := ⟨k - 2, by omega⟩
        simp only [spec_l91Two.l0]
        rw [if_neg (by omega), e _ (by omega)]
        simp only [Option.bind_some]
        rw [if_neg v0, if_pos v1, if_neg hl0]
    · refine ⟨l, p + 1, ⟨2, fun k hk => ?_⟩, by omega⟩
      obtain ⟨k, rfl⟩ : ∃ m, k = m + 2 := ⟨k - 2, by omega⟩
      simp only [spec_l91Two.l0]
      rw [if_neg (by omega), e _ (by omega)]
      simp only [Option.bind_some]
      rw [if_neg v0, if_neg v1]
  | succ d ih =>
    intro l p hl h hp
    obtain ⟨v, e, a0, b0⟩ := pick_ev h (n := 31) (by omega)
    obtain ⟨b, q, ⟨K, hK⟩, h1⟩ := ih (l ++ [v]) (p + 1) (by simp; omega) (h.next (by omega)) (by omega)
    refine ⟨b, q, ⟨K + 2, fun k hk => ?_⟩, h1⟩
    obtain ⟨k, rfl⟩ : ∃ m, k = m + 1 := ⟨k - 1, by omega⟩
    simp only [spec_l91Two.l0]
    rw [if_pos (by omega), e _ (by omega)]
    simp only [Option.bind_some]
    rw [if_pos (by omega), w64 (by omega), show (l.length : Int) + 1 = ((l ++ [v]).length : Int) by simp]
    exact hK k (by omega)
theorem two_ev {c : List Int} (hb : Bytes c) (hl : c.length ≤ 2000) : ∃ a b q, (Ev (fun k => spec_l91Two.f k c 0) (a, b, q)) ∧ a.length ≤ 12 ∧ b.length ≤ 13 := by
  obtain ⟨a, q, ⟨K, e⟩, h1, h2, h3⟩ := list_ev (c := c) (p := 0) 12 (by omega) ⟨hb, hl, by omega, by omega⟩ (by omega)
  obtain ⟨b, q', ⟨K2, e'⟩, h4⟩ := two_l0 (c := c) (a := a) (by omega) a.length [] q (by simp) ⟨hb, hl, by omega, by omega⟩ (by omega)
  change ∀ k, K ≤ k → spec_l91List.f k c 0 12 = _ at e
  exact ⟨a, b, q', ⟨K + K2, fun k hk => by dsimp only; unfold spec_l91Two.f; rw [e k (by omega)]; exact e' k (by omega)⟩, h1, by omega⟩
theorem drawShareMake_ev {l : List Int} (h : Bytes l) : ∃ a b, Ev (fun k => spec_DrawShareMake.f k l) (a, b) ∧ a.length ≤ 12 ∧ b.length ≤ 13 := by
  obtain ⟨c, ho, hb, hl⟩ := open_ev h
  obtain ⟨a, b, q, ⟨K, e⟩, h1, h2⟩ := two_ev hb hl
  dsimp only at e
  exact ⟨a, b, ⟨K, fun k hk => by dsimp only; unfold spec_DrawShareMake.f; rw [ho]; simp only [Option.bind_some]; rw [e k hk]; rfl⟩, h1, h2⟩
def Vec (n : Nat) (l : List Int) : Prop := allOk l = true ∧ l.length = n
theorem Vec.rng {n : Nat} {l : List Int} (h : Vec n l) (j : Nat) : 0 ≤ cof l j ∧ cof l j ≤ 30 := cof_rng h.1 j
theorem of_pair {a b : List Int} (h : pairOk a b = true) : ∃ n, n ≤ 20 ∧ Vec n a ∧ Vec n b := by
  obtain ⟨h1, h2, h3, h4⟩ := pairOk_iff.1 h
  exact ⟨a.length, h2, ⟨h1, rfl⟩, h3, h4⟩
theorem pair_of {n : Nat} {a b : List Int} (hn : n ≤ 20) (ha : Vec n a) (hb : Vec n b) : pairOk a b = true := pairOk_iff.2 ⟨ha.1, by rw [ha.2]; exact hn, hb.1, by rw [ha.2, hb.2]⟩
theorem share_vec (f : Nat) {n : Nat} {a b : List Int} (hn : n ≤ 20) (ha : Vec n a) (hb : Vec n b) : share f a b = (both f a b, true) := by rw [share_def, pair_of hn ha hb, if_pos rfl]
theorem made_vec {n : Nat} {a b : List Int} (hn : n ≤ 20) (ha : Vec n a) (hb : Vec n b) : madeS a b = (both 49 a b, b, true) := by unfold madeS; rw [pair_of hn ha hb, if_pos rfl]
theorem mk49e {x y : Int} (hx : 0 ≤ x ∧ x ≤ 30) (hy : 0 ≤ y ∧ y ≤ 30) : mk 49 x y = (x - y) % 31 := by rw [mk49 hx hy, fdif_ok (okF_iff.2 hx) (okF_iff.2 hy)]
theorem cof_dif {n : Nat} {a b : List Int} (ha : Vec n a) (hb : Vec n b) {j : Nat} (h : j < n) : cof (both 49 a b) j = (cof a j - cof b j) % 31 := by
  rw [cof_in (by rw [both_length, ha.2]; exact h), both_at 49 a b (by rw [ha.2]; exact h), mk49e (ha.rng j) (hb.rng j)]
theorem vec_of {n : Nat} {l : List Int} (hl : l.length = n) (h : ∀ j, j < n → 0 ≤ cof l j ∧ cof l j ≤ 30) : Vec n l := by
  refine ⟨allOk_iff.2 fun x hx => ?_, hl⟩
  obtain ⟨i, hi, rfl⟩ := List.getElem_of_mem hx
  rw [← cof_in hi]
  exact okF_iff.2 (h i (by omega))
theorem vec_dif {n : Nat} {a b : List Int} (ha : Vec n a) (hb : Vec n b) : Vec n (both 49 a b) := vec_of (by rw [both_length, ha.2]) fun j hj => by rw [cof_dif ha hb hj]; omega
theorem vec_zero (n : Nat) : Vec n (List.replicate n 0) := ⟨allOk_iff.2 fun x hx => by rw [(List.mem_replicate.1 hx).2]; rfl, List.length_replicate⟩
theorem cof_replicate (n j : Nat) : cof (List.replicate n 0) j = 0 := by
  by_cases h : j < n
  · rw [cof_in (by simpa using h), List.getElem_replicate]
  · rw [cof_out (by simpa using h)]
theorem vec_ext {n : Nat} {a b : List Int} (ha : a.length = n) (hb : b.length = n) (h : ∀ j, j < n → cof a j = cof b j) : a = b := list_of_cof (by rw [ha, hb]) fun j hj => h j (by omega)
theorem none_eq {n : Nat} {a : List Int} (ha : Vec n a) : both 49 a (List.replicate n 0) = a := by
  refine vec_ext (vec_dif ha (vec_zero n)).2 ha.2 fun j hj => ?_
  have h1 := ha.rng j
  rw [cof_dif ha (vec_zero n) hj, cof_replicate]
  omega
theorem self_eq {n : Nat} {a : List Int} (ha : Vec n a) : both 49 a a = List.replicate n 0 := by
  refine vec_ext (vec_dif ha ha).2 (vec_zero n).2 fun j hj => ?_
  rw [cof_dif ha ha hj, cof_replicate]
  omega
end Go.Proofs.Ytcdnmnipaaooiaa.P
end

section
namespace Go.Proofs.Ytcdnmnipaaooiaa.Pure
open Go.RowKit Go.Proofs.Ytcdnmnipaaooiaa.P Go.Proofs.Ytcdnmnipaaooiaa.Num Go.Proofs.YtcdnmnipaaooiaaW.PrintWords Go.Proofs.YtcdnmnipaaooiaaW.PrintLast
set_option linter.unusedSimpArgs false
set_option linter.unusedVariables false
theorem FnShareNone : laws_FnShareNone.Pure := by
  intro l _ _ hw
  unfold laws_FnShareNone.f
  by_cases h : (l.length : Int) > 1048576
  · exact ⟨0, by rw [if_pos h]⟩
  obtain ⟨a, b, ⟨K1, h1⟩, la, lb⟩ := drawShareMake_ev (bytes_of hw)
  obtain ⟨K2, h2⟩ := sShareMake a b (by omega) (by omega)
  have h3 := iShareMake a b
  obtain ⟨r, s, ok, e⟩ : ∃ r s ok, madeS a b = (r, s, ok) := ⟨_, _, _, rfl⟩
  have hr : r.length ≤ 20 ∧ s.length ≤ 20 := by have := made_len a b; rw [e] at this; exact this
  obtain ⟨K4, h4⟩ := loInts_ev r r (by omega)
  obtain ⟨K5, h5⟩ := loInts_ev s s (by omega)
  obtain ⟨K6, h6⟩ := loInts_ev a a (by omega)
  obtain ⟨K7, h7⟩ := loInts_ev b b (by omega)
  obtain ⟨K8, h8⟩ := loInts_ev (List.replicate a.length 0) (List.replicate a.length 0) (by rw [List.length_replicate]; omega)
  dsimp only at h1 h2 h4 h5 h6 h7 h8
  refine ⟨K1 + K2 + K4 + K5 + K6 + K7 + K8 + 5, ?_⟩
  rw [if_neg h, h1 _ (by omega)]
  simp only [Option.bind_some]
  rw [h2 _ (by omega), h3, e]
  simp only [Option.bind_some, bne_self_eq_false, Bool.false_eq_true, if_false]
  rw [h4 _ (by omega)]
  simp only [Option.bind_some, decide_true, if_true]
  rw [h5 _ (by omega)]
  simp only [Option.bind_some, decide_true, if_true, laws_FnShareNone.j0]
  cases hp : pairOk a b
  · have e' := e
    unfold madeS at e'
    rw [hp] at e'
    simp only [Bool.false_eq_true, if_false, Prod.mk.injEq] at e'
    obtain ⟨rfl, rfl, rfl⟩ := e'
    simp only [Bool.not_false, if_true, beq_self_eq_true]
    rw [h4 _ (by omega)]
    simp only [Option.bind_some, decide_true, if_true]
  · obtain ⟨n, hn, va, vb⟩ := of_pair hp
    rw [made_vec hn va vb] at e
    simp only [Prod.mk.injEq] at e
    obtain ⟨rfl, rfl, rfl⟩ := e
    simp only [Bool.not_true, Bool.false_eq_true, if_false]
    have vz := vec_zero a.length
    rw [← va.2] at hn va
    rw [if_pos (by omega), Int.toNat_natCast, if_pos (by omega), iShareMake, made_vec hn va vz, none_eq va, iShareDrawn, share_vec 49 hn va va, self_eq va]
    simp only [Option.bind_some, if_true]
    rw [h6 _ (by omega)]
    simp only [Option.bind_some, decide_true, if_true]
    rw [h8 _ (by omega)]
    simp only [Option.bind_some, decide_true, if_true]
end Go.Proofs.Ytcdnmnipaaooiaa.Pure
end

section
namespace Go.Proofs.YtcdnmnipaaooiaaW.PrintWords
open Go.ChangeShapes Go.WideShapes
/-- A row's slice of whole numbers is no longer than its weight allows. -/
theorem sized_ints {H : Type} {enc : TypeId × Value → H} {P : Program} {W : World} {base : Nat} {spare : Nat → Bool} {held : Bool} {t e : TypeId} {k : IntKind} {a : Option Addr} {len cap : Nat} {d : DataW H} {ps : List MemPlace} {ts : List TypeId} {ds : List (DataW H)} {j : Nat}
    (hsz : (DataW.weightsEach P ts ds).all (· ≤ reachBytes) = true) (ht : ts[j]? = some t) (hd : ds[j]? = some d) (hu : P.underlying t = some (.slice e)) (he : P.underlying e = some (.int k)) (hc : P.cellsOf e = 1) {B : Nat} (hB : P.bytesOf e = B)
    (h : DataW.Trod enc P W base spare held t (.slice a len cap) d ps) : len * B ≤ 140737488351232 := by
  obtain ⟨fuel, hf⟩ := h
  rcases open_ints hu he hc hf with ⟨hcs, _⟩ | ⟨x, l, c, zs, hcs, _, hl, _, hz, hx, _, _⟩
  · simp [Value.cells] at hcs
    obtain ⟨rfl, rfl, rfl⟩ := hcs
    simp
  · simp [Value.cells] at hcs
    obtain ⟨rfl, rfl, rfl⟩ := hcs
    obtain ⟨hx, _⟩ := Prod.mk.inj hx
    subst hx
    have z := sized_slice hsz ht hd hu
    rw [hB] at z
    have hl2 : len ≤ zs.length := by
      rw [hz]
      split
      · exact hl
      · exact Nat.le_refl _
    have h1 : (lits (H := H) k (zs.take len)).length + (lits (H := H) k (zs.drop len)).length = zs.length := by
      simp [lits]
      omega
    rw [h1] at z
    exact Nat.le_trans (Nat.mul_le_mul_right _ hl2) z
end Go.Proofs.YtcdnmnipaaooiaaW.PrintWords
end
