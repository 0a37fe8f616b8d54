/- The contract of cut: two lists of its own, each cut down to its length, and the two numbers between them. Written by a program (wip/tools/gen_handcut.py). Conditions: the list is long enough and at most 20 long. -/
import Derived.Test.YtnkdgonekadibaaPx0
import Derived.Test.YtnkdgonekadibaaHandType
namespace Go.Proofs.Ytnkdgonekadibaa.P
open Go.RowKit Go.Proofs.YtnkdgonekadibaaW.PrintWords Go.Proofs.YtnkdgonekadibaaW.PrintLast Go.Proofs.YtnkdgonekadibaaW.PrintMore
attribute [local go_sem] max2_int min2_int max_two min_two max_three min_three max_four min_four
set_option linter.unusedVariables false
set_option linter.unusedSimpArgs false

theorem hand_Clip (ad : Addr) (n c : Nat) (w : World) (hc : n ≤ c) : Calls Try.prog 59 #[.slice (some ad) n c] w fun e w' => e = .returned (.slice (some ad) n n) ∧ ∃ nd, w' = w.drewN nd := by
  have h1 : decide ((n : Int) ≤ (c : Int)) = true := decide_eq_true (by omega)
  go_enter Try.func59, Try.ntmps59
  go_wp2
  go_ret
  exact ⟨by first | rfl | (simp; done), ⟨0, rfl⟩⟩
set_option maxHeartbeats 8000000 in
set_option maxRecDepth 100000 in
theorem hand_Clone (ad : Addr) (c : Nat) (l : List Int) (w : World) (hr : Kd.C (Kd.int .i64) w (some ad) l.length l) (hl : l.length < 17592186044416) :
    Calls Try.prog 60 #[.slice (some ad) l.length c] w fun e w' => ∃ v, e = .returned v ∧ Kd.R (Kd.int .i64) 3 w' w.heap.size (fun _ => True) v l ∧ Below w.heap.size w w' := by
  have HR := Aside0.mk hr
  have LM := Aside0.mk hl
  clear hr hl
  have HB := Aside0.mk (Below.refl w.heap.size w)
  have hnil : ∀ W, Sem.run Try.prog (binOp BinOp.eql 24 (Value.slice (some ad) l.length c) (Value.slice none 0 0)) W = Result.ok (.bool false) W := fun _ => rfl
  go_enter Try.func60, Try.ntmps60
  go_wp2_with (first
    | ((with_reducible refine gate_dst (N := 5) rfl ?_); (try (refine gate_guard (by rfl) ?_; dsimp only)); refine Kd.R_lit (Kd.int .i64) _ 3 ?hg (N := 5) ?hd (xs := ([] : List Int)) (inner := []) (ok := fun _ => True) (okp := fun _ => True) ?hr ?hp (fun _ hk => hk) trivial (Below.refl _ _) (Nat.le_refl _) (by simp) ?_; (case hd => rfl); (case hg => rfl); (case hr => first | (go_simp; done) | (go_simp; rfl)); (case hp => exact (Reps.none _ _)); intro v1 w28 ho29 hb hg_ hnew_; clear hg_ hnew_; have n1_ := Aside0.mk (Kd.R_lower ho29 (below_size HB.out)); have n2_ := Aside0.mk (Kd.C_below HR.out hb); have n3_ := Aside0.mk (below_step HB.out hb); clear HR HB; have HO := n1_; have HR := n2_; have HB := n3_; clear n1_ n2_ n3_; clear hb ho29)
    | ((with_reducible refine gate_builtin (b := .append) (xs := #[.tmp 5, .tmp 6]) rfl ?_); (try (refine gate_guard (by rfl) ?_; dsimp only)); at_builtin; refine Kd.R_append_rows (Kd.int .i64) (w0 := w) w.heap.size rfl (.tmp 5) (.tmp 6) 24 3 (.int .i64 0) 8 rfl Try.underlying24 info3 rfl (by decide) (by omega) v1 [] l _ _ _ (fun _ => True) (fun _ => False) rfl rfl ?aO ?aR (fun _ _ h => h) (fun _ h => h.elim) ?aF ?aB ?aS ?aL ?_; (case aR => exact HR.out); (case aB => exact HB.out); (case aF => exact (fun _ _ => trivial)); (case aO => exact HO.out); (case aS => exact (below_size HB.out)); (case aL => have := LM.out; simp only [List.length_nil]; omega); intro v364 w31 ho hb hg hat; clear HO HB HR; have HO := Aside0.mk ho; have HB := Aside0.mk hb; clear ho hb hg hat))
  go_ret
  exact ⟨_, rfl, by simpa using HO.out, HB.out⟩

theorem hand_CloneN (ad : Addr) (c n : Nat) (l : List Int) (w : World) (hn : l.length = n) (hr : Kd.C (Kd.int .i64) w (some ad) l.length l) (hl : l.length < 17592186044416) :
    Calls Try.prog 60 #[.slice (some ad) n c] w fun e w' => ∃ v, e = .returned v ∧ Kd.R (Kd.int .i64) 3 w' w.heap.size (fun _ => True) v l ∧ Below w.heap.size w w' := by
  subst hn
  exact hand_Clone ad c l w hr hl

/-- What cut answers. -/
def impl_cut.f (a0 : Int) (l1 : List Int) : Option (List Int × Int × Int × List Int) := if 0 < lenI a0 ∧ lenI a0 + 2 < (l1.length : Int) ∧ l1.length ≤ 20 then some (l1.take (lenI a0).toNat, rd l1 (lenI a0), rd l1 (lenI a0 + 1), l1.drop (lenI a0 + 2).toNat) else none

/-! ### Rows that were cut down to their length -/
/-- One value is another, with less room. -/
def Clip (v u : Value) : Prop := ∃ A n c c', v = .slice A n c ∧ u = .slice A n c' ∧ n ≤ c ∧ c ≤ c'
theorem Clip.own {v u : Value} (h : Clip v u) : v.ownBlock = u.ownBlock := by
  obtain ⟨A, n, c, c', rfl, rfl, _, _⟩ := h
  cases A <;> rfl
theorem w64c {n : Int} (h : -9223372036854775808 ≤ n ∧ n ≤ 9223372036854775807) : wrap64 n = n := by unfold wrap64; omega
theorem C_some {w : World} {A : Option Addr} {l : List Int} (h : Kd.C (Kd.int .i64) w A l.length l) (hp : 0 < l.length) : ∃ ad, A = some ad := by
  obtain ⟨ad, e, _⟩ := Kd.at_int h 0 (by omega) (by omega)
  exact ⟨ad, e⟩
def cutT : Bool × List (List Nat × List Nat) := (true, [([], []), ([], []), ([0, 1], [0, 1]), ([2], [2]), ([3, 3], [3]), ([], []), ([], []), ([5, 6], [5, 6]), ([7], [7]), ([], []), ([], []), ([10], [10]), ([9, 11], [9, 11]), ([12], [12]), ([], []), ([], []), ([15], [15]), ([14, 16], [14, 16]), ([17, 4], [17]), ([18, 18], [18]), ([8, 13, 19], [8, 13, 19]), ([4, 19, 0, 1, 2, 3, 4], [4]), ([20, 21, 0, 1, 2, 3, 4, 5, 6, 7, 8, 9, 10, 11, 12, 13, 14, 15, 16, 17, 18, 19, 20, 21], [20])])
theorem cut_tab : rtab .any (opsOf Try.f52 2) = cutT := by kernel_rfl
abbrev PR {α : Type} (d : Kd α) (e : Nat) (w : World) (base : Nat) (ok : Nat → Prop) (v : Value) (xs : List α) : Prop := Kd.R d e w base ok v xs
section
variable {α : Type} {d : Kd α} {e : Nat} {w w1 W : World} {base base' N : Nat} {ok ok' : Nat → Prop} {v u : Value} {xs : List α}
theorem PR_lower (h : PR d e w base ok v xs) (hb : base' ≤ base) : PR d e w base' ok v xs := Kd.R_lower h hb
theorem PR_base (h : PR d e w base ok v xs) : ∀ k, v.ownBlock = some k → base ≤ k := Kd.R_base h
theorem PR_new' (h : PR d e w1 W.heap.size ok v xs) (hlt : ∀ k, u.ownBlock = some k → k < W.heap.size) : PR d e w1 W.heap.size (fun k => ok k ∧ some k ≠ u.ownBlock) v xs := Kd.R_new' h hlt
theorem PR_row (h : PR d e w base ok v xs) (hp : 0 < xs.length) : ∃ ad c, v = .slice (some ad) xs.length c ∧ xs.length ≤ c := by
  obtain ⟨A, c, rfl, hc, _⟩ := Kd.R_reads h
  obtain ⟨g, cap, e1, _⟩ := Kd.R_form h hp
  cases e1
  exact ⟨_, _, rfl, hc⟩
theorem PR_clip (h : PR d e w base ok v xs) : Clip v v := by
  obtain ⟨A, c, rfl, hc, _⟩ := Kd.R_reads h
  exact ⟨A, _, c, c, rfl, rfl, hc, Nat.le_refl _⟩
end
theorem cell_far3 {W : World} {gb : Nat} {w : World} {a : Addr} {x y0 y1 y2 z : Value} (hg : w.heap.size ≤ gb) (hw : w.cell? a = some z) (h : W.cell? a = some x) :
    (((W.setCell ⟨gb, 0, none⟩ y0).setCell ⟨gb, 1, none⟩ y1).setCell ⟨gb, 2, none⟩ y2).cell? a = some x := by
  have hb : a.block < gb := Nat.lt_of_lt_of_le (World.block_lt_of_cell? _ _ hw) hg
  have e0 := cell_far (W := W) (p := ⟨gb, 0, none⟩) (a := a) (Nat.ne_of_lt hb) y0
  have e1 := cell_far (W := W.setCell ⟨gb, 0, none⟩ y0) (p := ⟨gb, 1, none⟩) (a := a) (Nat.ne_of_lt hb) y1
  have e2 := cell_far (W := (W.setCell ⟨gb, 0, none⟩ y0).setCell ⟨gb, 1, none⟩ y1) (p := ⟨gb, 2, none⟩) (a := a) (Nat.ne_of_lt hb) y2
  exact e2.trans (e1.trans (e0.trans h))

namespace Z
/-- A row of the call's own, perhaps with less room than its block has. -/
def Kd.R {α : Type} (d : Kd α) (e : Nat) (w : World) (base : Nat) (ok : Nat → Prop) (v : Value) (xs : List α) : Prop := ∃ u, Clip v u ∧ PR d e w base ok u xs
section
variable {α : Type} {d : Kd α} {e : Nat} {w w1 W W2 : World} {base base' N b : Nat} {ok ok' ok1 : Nat → Prop} {v u : Value} {xs : List α} {S : Nat → Prop}
theorem of (h : PR d e w base ok v xs) : Kd.R d e w base ok v xs := ⟨v, PR_clip h, h⟩
theorem clip_of {ad : Addr} {n c : Nat} (h : PR d e w base ok (.slice (some ad) n c) xs) : Kd.R d e w base ok (.slice (some ad) n n) xs := by
  have hc := (_root_.Go.Proofs.YtnkdgonekadibaaW.PrintWords.Kd.R_reads' h).2.1
  exact ⟨_, ⟨some ad, n, n, c, rfl, rfl, Nat.le_refl _, hc⟩, h⟩
theorem Kd.R_mono (h : Kd.R d e w base ok v xs) (hok : ∀ k, ok k → ok' k) : Kd.R d e w base ok' v xs := h.elim fun u h => ⟨u, h.1, _root_.Go.Proofs.YtnkdgonekadibaaW.PrintWords.Kd.R_mono h.2 hok⟩
theorem Kd.R_alloc (h : Kd.R d e w base ok v xs) (o : Obj) : Kd.R d e (w.alloc o) base ok v xs := h.elim fun u h => ⟨u, h.1, _root_.Go.Proofs.YtnkdgonekadibaaW.PrintWords.Kd.R_alloc h.2 o⟩
theorem Kd.R_drew (h : Kd.R d e w base ok v xs) : Kd.R d e w.drew base ok v xs := h.elim fun u h => ⟨u, h.1, _root_.Go.Proofs.YtnkdgonekadibaaW.PrintWords.Kd.R_drew h.2⟩
theorem Kd.R_drewN (h : Kd.R d e w base ok v xs) (m : Nat) : Kd.R d e (w.drewN m) base ok v xs := h.elim fun u h => ⟨u, h.1, _root_.Go.Proofs.YtnkdgonekadibaaW.PrintWords.Kd.R_drewN h.2 m⟩
theorem Kd.R_slice (h : Kd.R d e w base ok v xs) : ∃ A c, v = .slice A xs.length c := by
  obtain ⟨u, ⟨A, n, c, c', rfl, rfl, h1, h2⟩, h⟩ := h
  have := (_root_.Go.Proofs.YtnkdgonekadibaaW.PrintWords.Kd.R_reads' h).1
  exact ⟨A, c, by rw [this]⟩
theorem Kd.R_reads' {A : Option Addr} {n c : Nat} (h : Kd.R d e w base ok (.slice A n c) xs) : n = xs.length ∧ n ≤ c ∧ _root_.Go.Proofs.YtnkdgonekadibaaW.PrintWords.Kd.C d w A xs.length xs := by
  obtain ⟨u, ⟨A', n', c1, c2, e1, rfl, h1, h2⟩, h⟩ := h
  cases e1
  have := _root_.Go.Proofs.YtnkdgonekadibaaW.PrintWords.Kd.R_reads' h
  exact ⟨this.1, h1, this.2.2⟩
theorem Kd.R_lower (h : Kd.R d e w base ok v xs) (hb : base' ≤ base) : Kd.R d e w base' ok v xs := h.elim fun u h => ⟨u, h.1, _root_.Go.Proofs.YtnkdgonekadibaaW.PrintWords.Kd.R_lower h.2 hb⟩
theorem Kd.R_below (h : Kd.R d e w base ok v xs) (hb : Below w.heap.size w w1) : Kd.R d e w1 base ok v xs := h.elim fun u h => ⟨u, h.1, _root_.Go.Proofs.YtnkdgonekadibaaW.PrintWords.Kd.R_below h.2 hb⟩
theorem Kd.R_far (h : Kd.R d e w base ok v xs) {p : Addr} (hok : ∀ k, ok k → k ≠ p.block) (x : Value) : Kd.R d e (w.setCell p x) base ok v xs := h.elim fun u h => ⟨u, h.1, _root_.Go.Proofs.YtnkdgonekadibaaW.PrintWords.Kd.R_far h.2 hok x⟩
theorem Kd.R_types (h : Kd.R d e w base ok v xs) {g t : Nat} {cells : Array Value} (hb : w.heap[g]? = some (.cells cells t (0, 0))) (ht : ∀ q, q ∈ e :: d.E → q ≠ t) : Kd.R d e w base (fun k => ok k ∧ k ≠ g) v xs := h.elim fun u h => ⟨u, h.1, _root_.Go.Proofs.YtnkdgonekadibaaW.PrintWords.Kd.R_types h.2 hb ht⟩
theorem Kd.R_nil (d : Kd α) (e : Nat) (w : World) (base : Nat) (ok : Nat → Prop) : Kd.R d e w base ok (.slice none 0 0) [] := of (_root_.Go.Proofs.YtnkdgonekadibaaW.PrintWords.Kd.R_nil d e w base ok)
theorem Kd.R_tight (hE : d.E = []) (h : Kd.R d e w base ok v xs) : Kd.R d e w base (fun k => some k = v.ownBlock) v xs := h.elim fun u h => ⟨u, h.1, by rw [h.1.own]; exact _root_.Go.Proofs.YtnkdgonekadibaaW.PrintWords.Kd.R_tight hE h.2⟩
theorem Kd.R_reok (hE : d.E = []) (h : Kd.R d e W base ok1 v xs) (hok : ∀ k, v.ownBlock = some k → ok k) : Kd.R d e W base ok v xs := h.elim fun u h => ⟨u, h.1, _root_.Go.Proofs.YtnkdgonekadibaaW.PrintWords.Kd.R_reok hE h.2 (fun k hk => hok k (h.1.own.trans hk))⟩
theorem Kd.R_ne (h : Kd.R d e w base ok v xs) {g t : Nat} {cells : Array Value} (hb : w.heap[g]? = some (.cells cells t (0, 0))) (ht : e ≠ t) : some g ≠ v.ownBlock := h.elim fun u h => by rw [h.1.own]; exact _root_.Go.Proofs.YtnkdgonekadibaaW.PrintWords.Kd.R_ne h.2 hb ht
theorem Kd.R_told (h : Kd.R d e w1 base (fun k => ok k ∧ k < N) u xs) (hbase : ∀ k, v.ownBlock = some k → N ≤ k) : Kd.R d e w1 base (fun k => (ok k ∧ some k ≠ v.ownBlock) ∧ k < N) u xs := h.elim fun u h => ⟨u, h.1, _root_.Go.Proofs.YtnkdgonekadibaaW.PrintMore.Kd.R_told h.2 hbase⟩
theorem Kd.R_old (h : Kd.R d e W base ok u xs) (hb : Below W.heap.size W w1) : Kd.R d e w1 base (fun k => ok k ∧ k < W.heap.size) u xs := h.elim fun u h => ⟨u, h.1, _root_.Go.Proofs.YtnkdgonekadibaaW.PrintMore.Kd.R_old h.2 hb⟩
theorem Kd.R_base (h : Kd.R d e w base ok v xs) : ∀ k, v.ownBlock = some k → base ≤ k := h.elim fun u h => by rw [h.1.own]; exact _root_.Go.Proofs.YtnkdgonekadibaaW.PrintWords.Kd.R_base h.2
theorem Kd.R_lt (h : Kd.R d e w base ok v xs) : ∀ k, v.ownBlock = some k → k < w.heap.size := h.elim fun u h => by rw [h.1.own]; exact _root_.Go.Proofs.YtnkdgonekadibaaW.PrintWords.Kd.R_lt h.2
theorem Kd.R_new' (h : Kd.R d e w1 W.heap.size ok v xs) (hlt : ∀ k, u.ownBlock = some k → k < W.heap.size) : Kd.R d e w1 W.heap.size (fun k => ok k ∧ some k ≠ u.ownBlock) v xs := h.elim fun u h => ⟨u, h.1, _root_.Go.Proofs.YtnkdgonekadibaaW.PrintWords.Kd.R_new' h.2 hlt⟩
theorem Kd.R_elder' (h : Kd.R d e W base ok u xs) (hbase : ∀ k, v.ownBlock = some k → W.heap.size ≤ k) (hb : Below W.heap.size W w1) : Kd.R d e w1 base (fun k => ok k ∧ some k ≠ v.ownBlock) u xs := h.elim fun u h => ⟨u, h.1, _root_.Go.Proofs.YtnkdgonekadibaaW.PrintWords.Kd.R_elder' h.2 hbase hb⟩
theorem Kd.R_keptB (h : Kd.R d e W base ok v xs) (hk : Kept W W2 S) (hne : ∀ k, ok k → ¬ S k) : Kd.R d e W2 base (fun k => ok k ∧ (¬ S k ∧ k < W.heap.size)) v xs := h.elim fun u h => ⟨u, h.1, _root_.Go.Proofs.YtnkdgonekadibaaW.PrintWords.Kd.R_keptB h.2 hk hne⟩
theorem Kd.R_form (h : Kd.R d e w base ok v xs) (hp : 0 < xs.length) : ∃ g cap, v = .slice (some ⟨g, 0, none⟩) xs.length cap ∧ base ≤ g ∧ g < w.heap.size ∧ ∃ cells, w.heap[g]? = some (.cells cells e (0, 0)) := by
  obtain ⟨u, ⟨A, n, c, c', rfl, rfl, h1, h2⟩, h⟩ := h
  obtain ⟨g, cap, e1, r⟩ := _root_.Go.Proofs.YtnkdgonekadibaaW.PrintWords.Kd.R_form h hp
  cases e1
  exact ⟨g, c, rfl, r⟩
end
section
variable {α : Type} {enc : α → Value} {h1 : ∀ x, (enc x).oneCell' = true} {e g n cap : Nat} {W : World} {base : Nat} {ok : Nat → Prop} {xs : List α}
theorem Kd.R_celln (d : α) (h : Kd.R (Kd.scalar enc h1) e W base ok (.slice (some ⟨g, 0, none⟩) n cap) xs) (i : Int) (h0 : 0 ≤ i) (hi : i < n) : W.cell? ⟨g, i.toNat, none⟩ = some (enc (rdOf d xs i)) ∧ W.frozen? ⟨g, i.toNat, none⟩ = false := by
  obtain ⟨u, ⟨A, n', c, c', e1, rfl, _, _⟩, h⟩ := h
  cases e1
  exact _root_.Go.Proofs.YtnkdgonekadibaaW.PrintWords.Kd.R_celln d h i h0 hi
theorem Kd.R_putg (h : Kd.R (Kd.scalar enc h1) e W base ok (.slice (some ⟨g, 0, none⟩) n cap) xs) (i : Int) (x : α) : Kd.R (Kd.scalar enc h1) e (W.setCell ⟨g, i.toNat, none⟩ (enc x)) base ok (.slice (some ⟨g, 0, none⟩) n cap) (xs.set i.toNat x) ∧ W.grownBy (W.setCell ⟨g, i.toNat, none⟩ (enc x)) (some g) := by
  obtain ⟨u, ⟨A, n', c, c', e1, rfl, h2, h3⟩, h⟩ := h
  cases e1
  have := _root_.Go.Proofs.YtnkdgonekadibaaW.PrintWords.Kd.R_putg h i x
  exact ⟨⟨_, ⟨_, _, _, _, rfl, rfl, h2, h3⟩, this.1⟩, this.2⟩
end

set_option maxHeartbeats 16000000 in
set_option maxRecDepth 100000 in
theorem impl_cut.calls (a0 : Int) (A1 : Option Addr) (c1 : Nat) (l1 : List Int) (r1 : List Int) (r2 : Int) (r3 : Int) (r4 : List Int) (w : World) (hr1 : Kd.C (Kd.int .i64) w A1 l1.length l1) (hc1 : l1.length ≤ c1) (h : impl_cut.f a0 l1 = some (r1, r2, r3, r4)) :
    Calls Try.prog 52 #[.int .i64 a0, .slice A1 l1.length c1] w fun e w' => ∃ v0_ v3_ : Value, e = .returned (.tuple #[v0_, .agg #[.int .i64 r2, .int .i64 r3, v3_]]) ∧ Kd.R (Kd.int .i64) 3 w' w.heap.size (fun k_ => some k_ ≠ (v3_ : Value).ownBlock) v0_ r1 ∧ Kd.R (Kd.int .i64) 3 w' w.heap.size (fun k_ => some k_ ≠ (v0_ : Value).ownBlock) v3_ r4 ∧ Below w.heap.size w w' := by
  have hu35 := Try.underlying35
  unfold impl_cut.f at h
  split at h
  rotate_left
  · cases h
  rename_i hcond
  obtain ⟨t, ht⟩ : ∃ t, lenI a0 = t := ⟨_, rfl⟩
  rw [ht] at hcond h
  simp only [Option.some.injEq, Prod.mk.injEq] at h
  obtain ⟨rfl, rfl, rfl, rfl⟩ := h
  obtain ⟨k0, k1, k2⟩ := hcond
  have HT0 := Aside0.mk k0
  have HL := Aside0.mk k1
  have L20 := Aside0.mk k2
  have TLc := Aside0.mk (show impl_TypeLen.f a0 = some t by unfold impl_TypeLen.f; rw [ht])
  clear ht
  have HC1 := Aside0.mk hc1
  obtain ⟨ad, e1, hw0⟩ := Kd.at_int hr1 t (by omega) (by omega)
  cases e1
  obtain ⟨ad', e2, hw1⟩ := Kd.at_int hr1 (t + 1) (by omega) (by omega)
  obtain rfl : ad = ad' := by injection e2
  clear e2
  have HR0 := Aside0.mk hr1
  obtain ⟨ji8, hji8⟩ : ∃ j_ : Int, wrap64 (t + 1) = j_ := ⟨_, rfl⟩
  have hji8w : (IntKind.i64.wrap (t + 1)) = ji8 := (i64_w _).trans hji8
  have q8 : ji8 = t + 1 := by rw [← hji8, w64c (by omega)]
  obtain ⟨ji11, hji11⟩ : ∃ j_ : Int, wrap64 (t + 2) = j_ := ⟨_, rfl⟩
  have hji11w : (IntKind.i64.wrap (t + 2)) = ji11 := (i64_w _).trans hji11
  have q11 : ji11 = t + 2 := by rw [← hji11, w64c (by omega)]
  have HJ := Aside0.mk q11
  rw [← q8] at hw1
  have E3 := Aside0.mk q8
  have z0 := eq_true (show 0 ≤ t by omega)
  have z1 := eq_true (show t ≤ (l1.length : Int) by omega)
  have z2 := eq_true (show t < (l1.length : Int) by omega)
  have z3 := eq_true (show 0 ≤ ji8 by omega)
  have z4 := eq_true (show ji8 < (l1.length : Int) by omega)
  have z5 := eq_true (show 0 ≤ ji11 by omega)
  have z6 := eq_true (show ji11 ≤ (l1.length : Int) by omega)
  clear hji8 hji11 k0 k1 k2 q8 q11 hc1 hr1
  have HB := Aside0.mk (Below.refl w.heap.size w)
  go_enter Try.func52, Try.ntmps52
  try go_wp2_with (first | ((with_reducible refine gate_dst (N := 5) rfl ?_); refine box_event ?hg (N := 5) ?hd (cs := #[.int .i64 0, .int .i64 0, .slice none 0 0]) (t := 35) ?hr ?_; (case hd => rfl); (case hg => rfl); (case hr => first | (go_simp; done) | (go_simp; rfl)); intro gb hg w7 hbox hb; have n0_ := Aside0.mk (below_step HB.out hb); have n1_ := Aside0.mk hbox; have n2_ := Aside0.mk (show w.heap.size ≤ gb by omega); clear HB; have HB := n0_; have BK := n1_; have GW := n2_; have GE := n2_; clear n0_ n1_ n2_; clear hb hbox hg) | ((with_reducible refine gate_callee (f := 16) rfl ?_); refine goesL_ (some 8) rfl rfl Try.func16 (by kernel_rfl) rfl #[.int .i64 a0] rfl (by (try simp only [List.map_toArray, List.map_cons, List.map_nil]); first | done | rfl | (simp only [List.length_drop, List.length_take]; rfl)) ?_; (with_reducible refine (impl_TypeLen.calls a0 t _ TLc.out).mono ?_); rintro e w8 ⟨rfl, hb⟩; refine ⟨_, rfl, ?_⟩; have n0_ := Aside0.mk (blk_below (g := gb) (o := .cells #[.int .i64 0, .int .i64 0, .slice none 0 0] 35 (0, 0)) (by (with_reducible repeat (first | refine blk_drewN ?_ _ | refine blk_drew ?_ | refine blk_alloc ?_ _)); exact BK.out) hb); have n1_ := Aside0.mk (below_step (by repeat (first | (with_reducible first | exact HB.out | apply below_alloc | apply pw_below_drewN | apply below_drew1 | refine below_set ?_ GE.out) | exact HB.out)) hb); clear BK; clear HB; have BK := n0_; have HB := n1_; clear n0_ n1_; clear hb))
  have n0_ := Aside0.mk (blk_drew BK.out)
  have n1_ := Aside0.mk (below_drew1 HB.out)
  clear BK HB
  have BK := n0_
  have HB := n1_
  clear n0_ n1_
  obtain ⟨i017, hi017, _, hsz17, _⟩ := info_parts info3
  obtain ⟨hcut17, hA17, hC17⟩ := print_take_of (P := Try.prog) (Value.int .i64) 0 24 3 .i64 Try.underlying24 hi017 hsz17 (some ad) c1 l1 t (of_eq_true z0) (of_eq_true z1) HC1.out
  have HR1 := Aside0.mk (Kd.C_of_reads (h1 := fun _ => rfl) (hA17 _ (Kd.reads_of_C HR0.out)))
  clear hA17 hC17 hi017 hsz17
  obtain ⟨i018, hi018, _, hsz18, _⟩ := info_parts info3
  obtain ⟨B18, hcut18, hA18, hC18⟩ := print_drop_of (P := Try.prog) (Value.int .i64) 0 24 3 .i64 Try.underlying24 hi018 hsz18 (some ad) c1 l1 ji11 (of_eq_true z5) (of_eq_true z6) HC1.out
  have HR2 := Aside0.mk (Kd.C_of_reads (h1 := fun _ => rfl) (hA18 _ (Kd.reads_of_C HR0.out)))
  obtain ⟨A18, e18⟩ := C_some HR2.out (by have := HL.out; have := HT0.out; have := HJ.out; rw [List.length_drop]; omega)
  subst e18
  clear hA18 hC18 hi018 hsz18
  refine start_ (n := 23) (S := fun w' => w'.cell? (ad.add t.toNat) = some (.int .i64 (rd l1 t)) ∧ w'.cell? (ad.add ji8.toNat) = some (.int .i64 (rd l1 ji8))) (ds := []) #[false, false, false, false, false, false, false, false, false, false, false, false, false, false, false, false, false, false, false, false, false, false, false] (by kernel_rfl) rfl rfl ⟨((HB.out.cell (World.block_lt_of_cell? w _ hw0)).trans hw0), ((HB.out.cell (World.block_lt_of_cell? w _ hw1)).trans hw1)⟩ (fun hHeld => ?_); refine with_tab cut_tab (fun HT_ => ?_)
  generalize w8.drew = w2 at BK HB hHeld ⊢
  refine pure_ (i := 0) (N := some 9) (v := ?_) (a' := ?_) #[true, false, false, false, false, false, false, false, false, false, false, false, false, false, false, false, false, false, false, false, false, false, false] rfl rfl (any_of HT_.out (by kernel_rfl)) (fun _ _ _ h => h) (Or.inl ⟨by rfl, ?_⟩) ?_ ?_
  rotate_left
  · intro w'
    go_simp
    with_reducible rfl
  rotate_left
  · simp only [Act.put, List.setIfInBounds_toArray, List.set_cons_zero, List.set_cons_succ, i64_w, i32_w]
    rfl
  refine pure_ (i := 1) (N := some 10) (v := ?_) (a' := ?_) #[true, true, false, false, false, false, false, false, false, false, false, false, false, false, false, false, false, false, false, false, false, false, false] rfl rfl (any_of HT_.out (by kernel_rfl)) (fun _ _ _ h => h) (Or.inl ⟨by rfl, ?_⟩) ?_ ?_
  rotate_left
  · intro w'
    go_simp
    with_reducible rfl
  rotate_left
  · simp only [Act.put, List.setIfInBounds_toArray, List.set_cons_zero, List.set_cons_succ, i64_w, i32_w]
    rfl
  refine pure_ (i := 2) (N := some 11) (v := ?_) (a' := ?_) #[true, true, true, false, false, false, false, false, false, false, false, false, false, false, false, false, false, false, false, false, false, false, false] rfl rfl (any_of HT_.out (by kernel_rfl)) (fun _ _ _ h => h) (Or.inl ⟨by rfl, ?_⟩) ?_ ?_
  rotate_left
  · intro w'
    go_simp
    with_reducible rfl
  rotate_left
  · simp only [Act.put, List.setIfInBounds_toArray, List.set_cons_zero, List.set_cons_succ, i64_w, i32_w]
    rfl
  refine pure_ (i := 5) (N := some 14) (v := ?_) (a' := ?_) #[true, true, true, false, false, true, false, false, false, false, false, false, false, false, false, false, false, false, false, false, false, false, false] rfl rfl (any_of HT_.out (by kernel_rfl)) (fun _ _ _ h => h) (Or.inl ⟨by rfl, ?_⟩) ?_ ?_
  rotate_left
  · intro w'
    go_simp
    with_reducible rfl
  rotate_left
  · simp only [Act.put, List.setIfInBounds_toArray, List.set_cons_zero, List.set_cons_succ, i64_w, i32_w]
    rfl
  refine pure_ (i := 6) (N := some 15) (v := ?_) (a' := ?_) #[true, true, true, false, false, true, true, false, false, false, false, false, false, false, false, false, false, false, false, false, false, false, false] rfl rfl (any_of HT_.out (by kernel_rfl)) (fun _ _ _ h => h) (Or.inl ⟨by rfl, ?_⟩) ?_ ?_
  rotate_left
  · intro w'
    go_simp
    with_reducible rfl
  rotate_left
  · simp only [Act.put, List.setIfInBounds_toArray, List.set_cons_zero, List.set_cons_succ, i64_w, i32_w]
    rfl
  refine pure_ (i := 7) (N := some 16) (v := ?_) (a' := ?_) #[true, true, true, false, false, true, true, true, false, false, false, false, false, false, false, false, false, false, false, false, false, false, false] rfl rfl (any_of HT_.out (by kernel_rfl)) (fun _ _ _ h => h) (Or.inl ⟨by rfl, ?_⟩) ?_ ?_
  rotate_left
  · intro w'
    go_simp
    with_reducible rfl
  rotate_left
  · simp only [Act.put, List.setIfInBounds_toArray, List.set_cons_zero, List.set_cons_succ, i64_w, i32_w]
    rfl
  refine pure_ (i := 9) (N := some 18) (v := ?_) (a' := ?_) #[true, true, true, false, false, true, true, true, false, true, false, false, false, false, false, false, false, false, false, false, false, false, false] rfl rfl (any_of HT_.out (by kernel_rfl)) (fun _ _ _ h => h) (Or.inl ⟨by rfl, ?_⟩) ?_ ?_
  rotate_left
  · intro w'
    go_simp
    with_reducible rfl
  rotate_left
  · simp only [Act.put, List.setIfInBounds_toArray, List.set_cons_zero, List.set_cons_succ, i64_w, i32_w]
    rfl
  refine pure_ (i := 10) (N := some 19) (v := ?_) (a' := ?_) #[true, true, true, false, false, true, true, true, false, true, true, false, false, false, false, false, false, false, false, false, false, false, false] rfl rfl (any_of HT_.out (by kernel_rfl)) (fun _ _ _ h => h) (Or.inl ⟨by rfl, ?_⟩) ?_ ?_
  rotate_left
  · intro w'
    go_simp
    with_reducible rfl
  rotate_left
  · simp only [Act.put, List.setIfInBounds_toArray, List.set_cons_zero, List.set_cons_succ, i64_w, i32_w]
    rfl
  refine pure_ (i := 11) (N := some 20) (v := ?_) (a' := ?_) #[true, true, true, false, false, true, true, true, false, true, true, true, false, false, false, false, false, false, false, false, false, false, false] rfl rfl (any_of HT_.out (by kernel_rfl)) (fun _ _ _ h => h) (Or.inl ⟨by rfl, ?_⟩) ?_ ?_
  rotate_left
  · intro w'
    go_simp
    with_reducible rfl
  rotate_left
  · simp only [Act.put, List.setIfInBounds_toArray, List.set_cons_zero, List.set_cons_succ, i64_w, i32_w]
    rfl
  refine pure_ (i := 12) (N := some 21) (v := ?_) (a' := ?_) #[true, true, true, false, false, true, true, true, false, true, true, true, true, false, false, false, false, false, false, false, false, false, false] rfl rfl (any_of HT_.out (by kernel_rfl)) (fun _ _ _ h => h) (Or.inl ⟨by rfl, ?_⟩) ?_ ?_
  rotate_left
  · intro w'
    go_simp
    with_reducible rfl
  rotate_left
  · simp only [Act.put, List.setIfInBounds_toArray, List.set_cons_zero, List.set_cons_succ, i64_w, i32_w]
    rfl
  refine pure_ (i := 14) (N := some 23) (v := ?_) (a' := ?_) #[true, true, true, false, false, true, true, true, false, true, true, true, true, false, true, false, false, false, false, false, false, false, false] rfl rfl (any_of HT_.out (by kernel_rfl)) (fun _ _ _ h => h) (Or.inl ⟨by rfl, ?_⟩) ?_ ?_
  rotate_left
  · intro w'
    go_simp
    with_reducible rfl
  rotate_left
  · simp only [Act.put, List.setIfInBounds_toArray, List.set_cons_zero, List.set_cons_succ, i64_w, i32_w]
    rfl
  refine pure_ (i := 15) (N := some 24) (v := ?_) (a' := ?_) #[true, true, true, false, false, true, true, true, false, true, true, true, true, false, true, true, false, false, false, false, false, false, false] rfl rfl (any_of HT_.out (by kernel_rfl)) (fun _ _ _ h => h) (Or.inl ⟨by rfl, ?_⟩) ?_ ?_
  rotate_left
  · intro w'
    go_simp
    with_reducible rfl
  rotate_left
  · simp only [Act.put, List.setIfInBounds_toArray, List.set_cons_zero, List.set_cons_succ, i64_w, i32_w]
    rfl
  refine pure_ (i := 16) (N := some 25) (v := ?_) (a' := ?_) #[true, true, true, false, false, true, true, true, false, true, true, true, true, false, true, true, true, false, false, false, false, false, false] rfl rfl (any_of HT_.out (by kernel_rfl)) (fun _ _ _ h => h) (Or.inl ⟨by rfl, ?_⟩) ?_ ?_
  rotate_left
  · intro w'
    go_simp
    with_reducible rfl
  rotate_left
  · simp only [Act.put, List.setIfInBounds_toArray, List.set_cons_zero, List.set_cons_succ, i64_w, i32_w]
    rfl
  refine pure_ (i := 17) (N := some 26) (v := ?_) (a' := ?_) #[true, true, true, false, false, true, true, true, false, true, true, true, true, false, true, true, true, true, false, false, false, false, false] rfl rfl (any_of HT_.out (by kernel_rfl)) (fun _ _ _ h => h) (Or.inl ⟨by rfl, ?_⟩) ?_ ?_
  rotate_left
  · intro w'
    go_simp
    with_reducible rfl
  rotate_left
  · simp only [Act.put, List.setIfInBounds_toArray, List.set_cons_zero, List.set_cons_succ, i64_w, i32_w]
    rfl
  refine take_ (i := 8) (N := some 17) (v := ?_) (a' := ?_) #[true, true, true, false, false, true, true, true, true, true, true, true, true, false, true, true, true, true, false, false, false, false, false] rfl rfl (take_of HT_.out (by kernel_rfl)) (fun _ _ _ h => h) (Or.inl ⟨by rfl, ?_⟩) hHeld ?_ ?_
  rotate_left
  · rintro w' ⟨s0, s1⟩
    go_simp
    with_reducible rfl
  rotate_left
  · simp only [Act.put, List.setIfInBounds_toArray, List.set_cons_zero, List.set_cons_succ, i64_w, i32_w]
    rfl
  refine take_ (i := 13) (N := some 22) (v := ?_) (a' := ?_) #[true, true, true, false, false, true, true, true, true, true, true, true, true, true, true, true, true, true, false, false, false, false, false] rfl rfl (take_of HT_.out (by kernel_rfl)) (fun _ _ _ h => h) (Or.inl ⟨by rfl, ?_⟩) hHeld ?_ ?_
  rotate_left
  · rintro w' ⟨s0, s1⟩
    go_simp
    with_reducible rfl
  rotate_left
  · simp only [Act.put, List.setIfInBounds_toArray, List.set_cons_zero, List.set_cons_succ, i64_w, i32_w]
    rfl
  refine one_ (i := 3) (N := some 12) #[true, true, true, true, false, true, true, true, true, true, true, true, true, true, true, true, true, true, false, false, false, false, false] rfl rfl (one_of HT_.out (by kernel_rfl)) (by decide) (fun K hK => ?_)
  refine goes_ Try.func60 (by kernel_rfl) rfl #[.slice (some ad) t.toNat c1] (by rfl) rfl rfl (by (try simp only [List.map_toArray, List.map_cons, List.map_nil]); first | done | rfl | (simp only [List.length_drop, List.length_take]; rfl)) ?_
  refine (hand_CloneN ad c1 _ (l1.take t.toNat) _ (by have := HT0.out; have := HL.out; rw [List.length_take]; omega) (Kd.C_below HR1.out HB.out) (by have := L20.out; rw [List.length_take]; omega)).mono ?_
  rintro e w3 ⟨v12, rfl, ho, hb⟩
  refine ⟨_, rfl, ?_⟩
  have n0_ := Aside0.mk (PR_lower ho (below_size (by repeat (first | (with_reducible first | exact HB.out | apply below_alloc | apply pw_below_drewN | apply below_drew1 | refine below_set ?_ GE.out) | exact HB.out))))
  have n1_ := Aside0.mk (blk_below (g := gb) (o := .cells #[.int .i64 0, .int .i64 0, .slice none 0 0] 35 (0, 0)) (by (with_reducible repeat (first | refine blk_drewN ?_ _ | refine blk_drew ?_ | refine blk_alloc ?_ _)); exact BK.out) hb)
  have n2_ := Aside0.mk (below_step (by repeat (first | (with_reducible first | exact HB.out | apply below_alloc | apply pw_below_drewN | apply below_drew1 | refine below_set ?_ GE.out) | exact HB.out)) hb)
  clear HB BK
  have HO1 := n0_
  have BK := n1_
  have HB := n2_
  clear n0_ n1_ n2_ ho hb
  obtain ⟨A12, c12, e12, hc12⟩ := PR_row HO1.out (by have := HL.out; have := HT0.out; rw [List.length_take]; omega)
  subst e12
  refine hK.out _ _ ⟨((HB.out.cell (World.block_lt_of_cell? w _ hw0)).trans hw0), ((HB.out.cell (World.block_lt_of_cell? w _ hw1)).trans hw1)⟩ (fun hHeld => ?_)
  clear hK K
  refine norm_ (a' := ?_) ?_ ?_
  rotate_left
  · show Act.put _ (some 12) _ = _
    simp only [Act.put, List.setIfInBounds_toArray, List.set_cons_zero, List.set_cons_succ, i64_w, i32_w]
    rfl
  refine one_ (i := 4) (N := some 13) #[true, true, true, true, true, true, true, true, true, true, true, true, true, true, true, true, true, true, false, false, false, false, false] rfl rfl (one_of HT_.out (by kernel_rfl)) (by decide) (fun K hK => ?_)
  refine goes_ Try.func59 (by kernel_rfl) rfl #[.slice (some A12) (l1.take t.toNat).length c12] (by rfl) rfl rfl (by (try simp only [List.map_toArray, List.map_cons, List.map_nil]); first | done | rfl | (simp only [List.length_drop, List.length_take]; rfl)) ?_
  refine (hand_Clip A12 _ c12 _ hc12).mono ?_
  rintro e w' ⟨rfl, ⟨nd, rfl⟩⟩
  refine ⟨_, rfl, ?_⟩
  have n0_ := Aside0.mk (Kd.R_drewN (clip_of HO1.out) nd)
  have n1_ := Aside0.mk (blk_drewN BK.out nd)
  have n2_ := Aside0.mk (pw_below_drewN HB.out nd)
  clear HO1 HB BK
  have HO1 := n0_
  have BK := n1_
  have HB := n2_
  clear n0_ n1_ n2_
  generalize w3.drewN nd = w4 at HO1 BK HB ⊢
  refine hK.out _ _ ⟨((HB.out.cell (World.block_lt_of_cell? w _ hw0)).trans hw0), ((HB.out.cell (World.block_lt_of_cell? w _ hw1)).trans hw1)⟩ (fun hHeld => ?_)
  clear hK K
  refine norm_ (a' := ?_) ?_ ?_
  rotate_left
  · show Act.put _ (some 13) _ = _
    simp only [Act.put, List.setIfInBounds_toArray, List.set_cons_zero, List.set_cons_succ, i64_w, i32_w]
    rfl
  refine one_ (i := 18) (N := some 27) #[true, true, true, true, true, true, true, true, true, true, true, true, true, true, true, true, true, true, true, false, false, false, false] rfl rfl (one_of HT_.out (by kernel_rfl)) (by decide) (fun K hK => ?_)
  refine goes_ Try.func60 (by kernel_rfl) rfl #[.slice (some A18) (l1.length - ji11.toNat) (c1 - ji11.toNat)] (by rfl) rfl rfl (by (try simp only [List.map_toArray, List.map_cons, List.map_nil]); first | done | rfl | (simp only [List.length_drop, List.length_take]; rfl)) ?_
  refine (hand_CloneN A18 (c1 - ji11.toNat) _ (l1.drop ji11.toNat) _ (List.length_drop) (Kd.C_below HR2.out HB.out) (by have := L20.out; rw [List.length_drop]; omega)).mono ?_
  rintro e w5 ⟨v27, rfl, ho, hb⟩
  refine ⟨_, rfl, ?_⟩
  have n3_ := Aside0.mk (Kd.R_elder' HO1.out (PR_base ho) hb)
  have n0_ := Aside0.mk (PR_lower (PR_new' ho (Kd.R_lt HO1.out)) (below_size (by repeat (first | (with_reducible first | exact HB.out | apply below_alloc | apply pw_below_drewN | apply below_drew1 | refine below_set ?_ GE.out) | exact HB.out))))
  have n1_ := Aside0.mk (blk_below (g := gb) (o := .cells #[.int .i64 0, .int .i64 0, .slice none 0 0] 35 (0, 0)) (by (with_reducible repeat (first | refine blk_drewN ?_ _ | refine blk_drew ?_ | refine blk_alloc ?_ _)); exact BK.out) hb)
  have n2_ := Aside0.mk (below_step (by repeat (first | (with_reducible first | exact HB.out | apply below_alloc | apply pw_below_drewN | apply below_drew1 | refine below_set ?_ GE.out) | exact HB.out)) hb)
  clear HB BK HO1
  have HO2 := n0_
  have BK := n1_
  have HB := n2_
  have HO1 := n3_
  clear n0_ n1_ n2_ n3_ ho hb
  obtain ⟨A27, c27, e27, hc27⟩ := PR_row HO2.out (by have := HL.out; have := HT0.out; have := HJ.out; rw [List.length_drop]; omega)
  subst e27
  refine hK.out _ _ ⟨((HB.out.cell (World.block_lt_of_cell? w _ hw0)).trans hw0), ((HB.out.cell (World.block_lt_of_cell? w _ hw1)).trans hw1)⟩ (fun hHeld => ?_)
  clear hK K
  refine norm_ (a' := ?_) ?_ ?_
  rotate_left
  · show Act.put _ (some 27) _ = _
    simp only [Act.put, List.setIfInBounds_toArray, List.set_cons_zero, List.set_cons_succ, i64_w, i32_w]
    rfl
  refine one_ (i := 19) (N := some 28) #[true, true, true, true, true, true, true, true, true, true, true, true, true, true, true, true, true, true, true, true, false, false, false] rfl rfl (one_of HT_.out (by kernel_rfl)) (by decide) (fun K hK => ?_)
  refine goes_ Try.func59 (by kernel_rfl) rfl #[.slice (some A27) (l1.drop ji11.toNat).length c27] (by rfl) rfl rfl (by (try simp only [List.map_toArray, List.map_cons, List.map_nil]); first | done | rfl | (simp only [List.length_drop, List.length_take]; rfl)) ?_
  refine (hand_Clip A27 _ c27 _ hc27).mono ?_
  rintro e w' ⟨rfl, ⟨nd, rfl⟩⟩
  refine ⟨_, rfl, ?_⟩
  have n0_ := Aside0.mk (Kd.R_drewN (clip_of HO2.out) nd)
  have n3_ := Aside0.mk (Kd.R_drewN HO1.out nd)
  have n1_ := Aside0.mk (blk_drewN BK.out nd)
  have n2_ := Aside0.mk (pw_below_drewN HB.out nd)
  clear HO1 HO2 HB BK
  have HO2 := n0_
  have HO1 := n3_
  have BK := n1_
  have HB := n2_
  clear n0_ n1_ n2_ n3_
  generalize w5.drewN nd = w6 at HO1 HO2 BK HB ⊢
  refine hK.out _ _ ⟨((HB.out.cell (World.block_lt_of_cell? w _ hw0)).trans hw0), ((HB.out.cell (World.block_lt_of_cell? w _ hw1)).trans hw1)⟩ (fun hHeld => ?_)
  clear hK K
  refine norm_ (a' := ?_) ?_ ?_
  rotate_left
  · show Act.put _ (some 28) _ = _
    simp only [Act.put, List.setIfInBounds_toArray, List.set_cons_zero, List.set_cons_succ, i64_w, i32_w]
    rfl
  refine pure_ (i := 20) (N := some 29) (v := ?_) (a' := ?_) #[true, true, true, true, true, true, true, true, true, true, true, true, true, true, true, true, true, true, true, true, true, false, false] rfl rfl (any_of HT_.out (by kernel_rfl)) (fun _ _ _ h => h) (Or.inl ⟨by rfl, ?_⟩) ?_ ?_
  rotate_left
  · intro w'
    go_simp
    with_reducible rfl
  rotate_left
  · simp only [Act.put, List.setIfInBounds_toArray, List.set_cons_zero, List.set_cons_succ, i64_w, i32_w]
    rfl
  refine pure_ (i := 21) (N := some 4) (v := ?_) (a' := ?_) #[true, true, true, true, true, true, true, true, true, true, true, true, true, true, true, true, true, true, true, true, true, true, false] rfl rfl (any_of HT_.out (by kernel_rfl)) (fun _ _ _ h => h) (Or.inl ⟨by rfl, ?_⟩) ?_ ?_
  rotate_left
  · intro w'
    go_simp
    with_reducible rfl
  rotate_left
  · simp only [Act.put, List.setIfInBounds_toArray, List.set_cons_zero, List.set_cons_succ, i64_w, i32_w]
    rfl
  refine one_ (i := 22) (N := none) #[true, true, true, true, true, true, true, true, true, true, true, true, true, true, true, true, true, true, true, true, true, true, true] rfl rfl (one_of HT_.out (by kernel_rfl)) (by decide) (fun K hK => ?_)
  have hs0 : w6.cell? ⟨gb, 0, none⟩ = some (.int .i64 0) := (blk_cell BK.out 0).trans rfl
  have hf0 := blk_frozen BK.out 0
  have hs1 : w6.cell? ⟨gb, 1, none⟩ = some (.int .i64 0) := (blk_cell BK.out 1).trans rfl
  have hf1 := blk_frozen BK.out 1
  have hs2 : w6.cell? ⟨gb, 2, none⟩ = some (.slice none 0 0) := (blk_cell BK.out 2).trans rfl
  have hf2 := blk_frozen BK.out 2
  refine skip_ (w1 := ?_) (by rfl) rfl ?_ ?_
  rotate_left
  · go_simp
    rfl
  refine hK.out _ _ ⟨cell_far3 GW.out hw0 hHeld.1, cell_far3 GW.out hw1 hHeld.2⟩ (fun hHeld => ?_)
  clear hK K
  refine done_ (done_of HT_.out (by kernel_rfl)) ?_
  try go_wp2
  refine bodyPost_ret (results_tc rfl _ _ gb 35 #[.int .i64 (rd l1 t), .int .i64 (rd l1 ji8), (.slice (some A27) (l1.length - ji11.toNat) (l1.length - ji11.toNat))] (0, 0) _ rfl (by (with_reducible repeat (first | refine blk_drewN ?_ _ | refine blk_drew ?_ | refine blk_alloc ?_ _)); refine blk_put (cs := #[.int .i64 (rd l1 t), .int .i64 (rd l1 ji8), .slice none 0 0]) ?_ 2 _ rfl; (with_reducible repeat (first | refine blk_drewN ?_ _ | refine blk_drew ?_ | refine blk_alloc ?_ _)); refine blk_put (cs := #[.int .i64 (rd l1 t), .int .i64 0, .slice none 0 0]) ?_ 1 _ rfl; (with_reducible repeat (first | refine blk_drewN ?_ _ | refine blk_drew ?_ | refine blk_alloc ?_ _)); refine blk_put (cs := #[.int .i64 0, .int .i64 0, .slice none 0 0]) ?_ 0 _ rfl; (with_reducible repeat (first | refine blk_drewN ?_ _ | refine blk_drew ?_ | refine blk_alloc ?_ _)); exact BK.out) Try.underlying35 rfl (by kernel_rfl)) rfl ?_
  have hq_ : (l1.take t.toNat).length = t.toNat := by have := HL.out; have := HT0.out; rw [List.length_take]; omega
  have n1_ := HO1.out
  rw [hq_] at n1_
  have HO1 := Aside0.mk n1_
  have n0_ := HO2.out
  rw [List.length_drop] at n0_
  have HO2 := Aside0.mk n0_
  have e3 := E3.out
  have e11 := HJ.out
  subst e3
  subst e11
  exact ⟨_, _, rfl, by (with_reducible repeat (first | apply Kd.R_alloc | apply Kd.R_drewN | apply Kd.R_drew)); exact Kd.R_mono (Kd.R_far (p := ⟨gb, 2, none⟩) (Kd.R_far (p := ⟨gb, 1, none⟩) (Kd.R_far (p := ⟨gb, 0, none⟩) (Kd.R_types HO1.out BK.out (by decide)) (fun _ hk => hk.2) (.int .i64 (rd l1 t))) (fun _ hk => hk.2) (.int .i64 (rd l1 (t + 1)))) (fun _ hk => hk.2) (.slice (some A27) (l1.length - (t + 2).toNat) (l1.length - (t + 2).toNat))) (fun _ hk => hk.1.2), by (with_reducible repeat (first | apply Kd.R_alloc | apply Kd.R_drewN | apply Kd.R_drew)); exact Kd.R_mono (Kd.R_far (p := ⟨gb, 2, none⟩) (Kd.R_far (p := ⟨gb, 1, none⟩) (Kd.R_far (p := ⟨gb, 0, none⟩) (Kd.R_types HO2.out BK.out (by decide)) (fun _ hk => hk.2) (.int .i64 (rd l1 t))) (fun _ hk => hk.2) (.int .i64 (rd l1 (t + 1)))) (fun _ hk => hk.2) (.slice (some A27) (l1.length - (t + 2).toNat) (l1.length - (t + 2).toNat))) (fun _ hk => hk.1.2), by repeat (first | (with_reducible first | exact HB.out | apply below_alloc | apply pw_below_drewN | apply below_drew1 | refine below_set ?_ GE.out) | exact HB.out)⟩
end Z

end Go.Proofs.Ytnkdgonekadibaa.P
