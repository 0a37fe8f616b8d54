import Derived.Test.YtcdnmnipaaooiaaKitE
import Derived.Conc.FxBegin
import Derived.Conc.FxGenLone
-- Written by a program of this session (wip/tools/pack.py): texts of this seat laid one behind the other, without what the claim does not reach
section
namespace Go.Tw
open Go.Conc
open Go.ConcN (sumTo upd sumTo_upd upd_ne upd_same)
/-- A past in which goroutine 0 has said so many 'disable's. -/
structure PastD (Shun : Loc → Prop) (B dd : Nat) (t : Trace) : Prop where
  clean : ∀ said, ¬ Race said t
  known : ∀ i a, touchAt t i = some a → a.loc.isMemory = true → Knows t 0 i ∨ (Shun a.loc ∧ a.kind = .atomic)
  over : t.HandedOver
  hears : Deaf t 0 = dd
  seen : ∀ op ∈ t, op.act.low B
section
variable {Shun : Loc → Prop} {B dd : Nat} {t u : Trace}
theorem pastD_of (h : Past Shun B t) : PastD Shun B 0 t := ⟨h.clean, h.known, h.over, h.hears, h.seen⟩
theorem past_of (h : PastD Shun B 0 t) : Past Shun B t := ⟨h.clean, h.known, h.over, h.hears, h.seen⟩
theorem PastD.app0 {dd' : Nat} (h : PastD Shun B dd t) (hu : ∀ op ∈ u, op.g = 0) (hs : ∀ op ∈ u, ∀ b, op.act.touch? = some b → Shun b.loc → b.kind ≠ .plain) (hd : Deaf (t ++ u) 0 = dd') (hl : ∀ op ∈ u, op.act.low B) : PastD Shun B dd' (t ++ u) := by
  refine ⟨fun said => noRace_append (h.clean said) hu fun i a ha op hop b hb hc => ?_, fun i a ha hm => ?_, handedOver_app h.over fun op hop => .inl (hu op hop), hd, seen_app h.seen hl⟩
  · rcases h.known i a ha hc.2.1 with hk | ⟨hsa, hka⟩
    · exact hk
    · have hkb := hs op hop b hb (hc.1 ▸ hsa)
      obtain ⟨_, _, _, hcase⟩ := hc
      rw [hka] at hcase
      rcases hcase with x | x | ⟨_, x, _⟩
      · cases x
      · exact absurd x hkb
      · cases x
  · obtain ⟨x, hx, hxa⟩ := touch_of ha
    rcases getElem?_append_cases hx with ⟨_, hx'⟩ | ⟨_, hxu⟩
    · exact (h.known i a (by rw [touchAt_of hx']; exact hxa) hm).imp (·.app u) id
    · have := knows_own hx
      rw [hu x hxu] at this
      exact .inl this
theorem PastD.own (h : PastD Shun B dd t) {fn : FuncId} {pos : String} {es : Array Event} (hes : ∀ e ∈ es, EvL Shun B e) : PastD Shun B dd (t ++ MemOp.ofEvents 0 fn pos es) := by
  refine h.app0 (fun op hop => by obtain ⟨e, _, rfl⟩ := Go.Conc.mem_ofEvents hop; rfl) (fun op hop b hb => by obtain ⟨e, he, rfl⟩ := Go.Conc.mem_ofEvents hop; exact (hes e he).1 b hb) ?_ (fun op hop => by obtain ⟨e, he, rfl⟩ := Go.Conc.mem_ofEvents hop; exact (hes e he).2.2.2)
  rw [Deaf_own, h.hears]
  exact deafBehind_still (fun e he => ⟨(hes e he).2.1, (hes e he).2.2.1⟩) _
theorem PastD.mark (h : PastD Shun B dd t) {fn : FuncId} {pos : String} {m : Mark} (hm : (MemAct.mark m).touch? = none) (hl : (MemAct.mark m).low B) : PastD Shun B (deafBehind dd #[Go.ConcX.mk m]) (t ++ MemOp.ofEvents 0 fn pos #[Go.ConcX.mk m]) := by
  have e : ∀ op ∈ MemOp.ofEvents 0 fn pos #[Go.ConcX.mk m], op.g = 0 ∧ op.act = .mark m := fun op hop => by
    obtain ⟨e, he, rfl⟩ := Go.Conc.mem_ofEvents hop
    simp at he
    subst he
    exact ⟨rfl, rfl⟩
  refine h.app0 (fun op hop => (e op hop).1) (fun op hop b hb => ?_) ?_ (fun op hop => ?_)
  · rw [(e op hop).2, hm] at hb; cases hb
  · rw [Deaf_own, h.hears]
  · rw [(e op hop).2]; exact hl
theorem PastD.mute (h : PastD Shun B dd t) {g : Nat} (hg : g ≠ 0) {fn : FuncId} {pos : String} {es : Array Event} (hm : ∀ e ∈ es, e.mute = true) : PastD Shun B dd (t ++ MemOp.ofEvents g fn pos es) := by
  have hu : ∀ op ∈ MemOp.ofEvents g fn pos es, op.g = g := fun op hop => by obtain ⟨e, _, rfl⟩ := Go.Conc.mem_ofEvents hop; rfl
  have hn : ∀ op ∈ MemOp.ofEvents g fn pos es, op.act.touch? = none := fun op hop => by obtain ⟨e, he, rfl⟩ := Go.Conc.mem_ofEvents hop; exact touch_mute (hm e he)
  refine ⟨fun said => noRace_append (h.clean said) hu fun i a _ op hop b hb _ => (by rw [hn op hop] at hb; cases hb), fun i a ha hm' => ?_, handedOver_app h.over fun op hop => .inr (hn op hop), (Deaf_other t hg _ hu).trans h.hears, seen_app h.seen fun op hop => by obtain ⟨e, he, rfl⟩ := Go.Conc.mem_ofEvents hop; exact low_mute (hm e he) B⟩
  obtain ⟨x, hx, hxa⟩ := touch_of ha
  rcases getElem?_append_cases hx with ⟨_, hx'⟩ | ⟨_, hxu⟩
  · exact (h.known i a (by rw [touchAt_of hx']; exact hxa) hm').imp (·.app _) id
  · rw [hn x hxu] at hxa; cases hxa
end
section
variable {P : Program} {Shun : Loc → Prop} {B dd : Nat} {D : World → World → Array Event → Prop}
/-- To where the scheduler has picked goroutine 0 at its stop. -/
theorem picked_beside {Stop : Goroutine → World → Prop} (hSr : ∀ g w, Stop g w → g.status = .running) (hD : ∀ w w' es, D w w' es → ∀ e ∈ es, EvL Shun B e) :
    ∀ (M n : Nat) (gs : Array Goroutine) (a : Goroutine) (w : World) (sl : Option (Nat × Nat)) (T : Trace) (q : Nat → Nat), n + sumTo gs.size q = M → gs[0]? = some a →
      Leavers P T gs q → PastD Shun B dd T → Goes P true AtRel D Stop n a w →
      ∃ (N : Nat) (gs' : Array Goroutine) (a' : Goroutine) (w' : World) (sl' : Option (Nat × Nat)) (T' : Trace) (q' : Nat → Nat) (d : Nat) (sl'' : Option (Nat × Nat)),
        runNT P N (crowd gs w sl) T = (.next (crowd gs' w' sl'), T') ∧ gs'.size = gs.size ∧ gs'[0]? = some a' ∧ Leavers P T' gs' q' ∧ PastD Shun B dd T' ∧ Stop a' (w'.at d) ∧
        stepT P (crowd gs' w' sl') = runT P (crowd gs' (w'.at d) sl'') 0 := by
  intro M
  induction M using Nat.strongRecOn with
  | _ M ih =>
    intro n gs a w sl T q hM h0 hL hP hG
    have hrun : a.status = .running := hG.running hSr w (atRel_refl w)
    have hpos : 0 < gs.size := (Array.getElem?_eq_some_iff.1 h0).1
    have haw : ∀ g ∈ gs, awake g := by
      intro g hg
      obtain ⟨i, hi, rfl⟩ := Array.mem_iff_getElem.1 hg
      rcases Nat.eq_zero_or_pos i with rfl | hp
      · have : gs[0] = a := by simpa [Array.getElem?_eq_getElem hi] using h0
        rw [this]; exact awake_of (.inl hrun)
      · exact awake_of ((hL.old i _ hp (Array.getElem?_eq_getElem hi)).status.elim .inl fun x => .inr (.inr x))
    obtain ⟨i, g, d, sl', hi, hg, hst⟩ := crowd_pick (P := P) (w := w) (sl := sl) haw ⟨0, a, h0, hrun⟩
    rcases Nat.eq_zero_or_pos i with rfl | hp
    · obtain rfl : g = a := by rw [h0] at hi; exact (Option.some.inj hi).symm
      have hcases : (∀ w₁, AtRel w w₁ → Stop g w₁) ∨ ∃ n', n = n' + 1 ∧ ∀ w₁, AtRel w w₁ → (stepG P true g w₁).goes fun g' w' es => D w₁ w' es ∧ Goes P true AtRel D Stop n' g' w' := by
        cases n with
        | zero => exact .inl hG
        | succ n' => exact hG.imp id fun x => ⟨n', rfl, x.2⟩
      rcases hcases with hstop | ⟨n', rfl, hstep⟩
      · exact ⟨0, gs, g, w, sl, T, q, d, sl', rfl, rfl, h0, hL, hP, hstop (w.at d) ⟨d, rfl⟩, hst⟩
      · have hs := hstep (w.at d) ⟨d, rfl⟩
        cases hgo : stepG P true g (w.at d) with
        | go a' w' es =>
          rw [hgo, goes_go] at hs
          obtain ⟨hd, hG'⟩ := hs
          have hrunT := runT_crowd_go (P := P) (sl := sl') (i := 0) hi (show stepG P (0 == 0) g (w.at d) = _ from hgo)
          have hsz : ((gs.map (woken P g a' w')).setIfInBounds 0 a').size = gs.size := by simp
          obtain ⟨N, gs', a'', w'', sl₂, T', q', d', sl₃, hr, hs', h0', hL', hP', hS, hst'⟩ := ih (n' + sumTo gs.size q) (by omega) n' ((gs.map (woken P g a' w')).setIfInBounds 0 a') a' w' sl'
            (T ++ MemOp.ofEvents 0 g.frame.fn g.frame.place es) q (by rw [hsz]) (by simp [hpos]) (hL.own hpos _ _ es) (hP.own (hD _ _ _ hd)) hG'
          exact ⟨N + 1, gs', a'', w'', sl₂, T', q', d', sl₃, by simp only [runNT, hst, hrunT]; exact hr, hs'.trans hsz, h0', hL', hP', hS, hst'⟩
        | _ => rw [hgo] at hs; exact hs.elim
    · have hq := hL.old i g hp hi
      have hi0 : (i == 0) = false := by simp; omega
      have hlt : i < gs.size := (Array.getElem?_eq_some_iff.1 hi).1
      cases hqi : q i with
      | zero => rw [hqi] at hq; rw [hq.1] at hg; cases hg
      | succ k =>
        rw [hqi] at hq
        rcases hq with ⟨hf, _⟩ | ⟨_, g', es, hm, hstp, hq'⟩
        · rw [hf] at hg; cases hg
        have hrunT := runT_crowd_go (P := P) (sl := sl') (i := i) hi (by rw [hi0]; exact hstp (w.at d))
        have hsz : ((gs.map (woken P g g' (w.at d))).setIfInBounds i g').size = gs.size := by simp
        have hsum : sumTo gs.size (upd q i k) + (k + 1) = sumTo gs.size q + k := by
          have := sumTo_upd q k id hlt
          simpa [hqi] using this
        obtain ⟨N, gs', a'', w'', sl₂, T', q', d', sl₃, hr, hs', h0', hL', hP', hS, hst'⟩ := ih (n + sumTo gs.size (upd q i k)) (by omega) n ((gs.map (woken P g g' (w.at d))).setIfInBounds i g') a (w.at d) sl'
          (T ++ MemOp.ofEvents i g.frame.fn g.frame.place es) (upd q i k) (by rw [hsz])
          (by rw [Array.getElem?_setIfInBounds_ne (by omega), Array.getElem?_map, h0]; simp [woken_run hrun])
          ⟨fun j x hj hx => by
            by_cases hji : i = j
            · subst hji
              rw [Array.getElem?_setIfInBounds_self_of_lt (by simpa using hlt)] at hx
              obtain rfl := Option.some.inj hx
              rw [upd_same, Deaf_own]
              exact hq'
            · rw [Array.getElem?_setIfInBounds_ne hji, Array.getElem?_map] at hx
              obtain ⟨y, hy, rfl⟩ := Option.map_eq_some_iff.1 hx
              have hqj := hL.old j y hj hy
              rw [woken_quitsD hqj, upd_ne q k (Ne.symm hji), Deaf_other T hji _ (fun op hop => by obtain ⟨e, _, rfl⟩ := Go.Conc.mem_ofEvents hop; rfl)]
              exact hqj,
           fun j hj => by
            have hj' : gs.size ≤ j := by simpa using hj
            rw [Deaf_other T (g' := i) (by omega) _ (fun op hop => by obtain ⟨e, _, rfl⟩ := Go.Conc.mem_ofEvents hop; rfl)]
            exact hL.above j hj'⟩
          (hP.mute (by omega) hm) (Goes.rely atRel_trans hG ⟨d, rfl⟩)
        exact ⟨N + 1, gs', a'', w'', sl₂, T', q', d', sl₃, by simp only [runNT, hst, hrunT]; exact hr, hs'.trans hsz, h0', hL', hP', hS, hst'⟩
/-- Through a step that says a mark. -/
theorem beside_mark {m : Mark} {Next : Goroutine → World → Prop} (hm : (MemAct.mark m).touch? = none) (hl : (MemAct.mark m).low B) (hD : ∀ w w' es, D w w' es → ∀ e ∈ es, EvL Shun B e)
    {n : Nat} {gs : Array Goroutine} {a : Goroutine} {w : World} {sl : Option (Nat × Nat)} {T : Trace} {q : Nat → Nat} (h0 : gs[0]? = some a) (hL : Leavers P T gs q) (hP : PastD Shun B dd T) (hG : Goes P true AtRel D (Go.ConcX.AtMkS P m Next) n a w) :
    ∃ (N : Nat) (gs' : Array Goroutine) (a' : Goroutine) (w' : World) (sl' : Option (Nat × Nat)) (T' : Trace) (q' : Nat → Nat),
      runNT P N (crowd gs w sl) T = (.next (crowd gs' w' sl'), T') ∧ gs'.size = gs.size ∧ gs'[0]? = some a' ∧ Next a' w' ∧ Leavers P T' gs' q' ∧ PastD Shun B (deafBehind dd #[Go.ConcX.mk m]) T' := by
  obtain ⟨N, gs', a', w', sl', T', q', d, sl'', hr, hs, h0', hL', hP', ⟨_, a'', hgo, hN⟩, hst⟩ := picked_beside (fun _ _ x => x.1) hD _ n gs a w sl T q rfl h0 hL hP hG
  have hpos : 0 < gs'.size := (Array.getElem?_eq_some_iff.1 h0').1
  have hrunT := runT_crowd_go (P := P) (sl := sl'') (i := 0) h0' (show stepG P (0 == 0) a' (w'.at d) = _ from hgo)
  refine ⟨N + 1, _, a'', w'.at d, sl'', _, q', Go.ConcX.runNT_then hr (hst.trans hrunT), by simp [hs], by simp [hpos], hN, hL'.own hpos _ _ _, hP'.mark hm hl⟩
/-- To a stop, in a past of whatever deafness. -/
theorem walk_besideD {Stop : Goroutine → World → Prop} (hSr : ∀ g w, Stop g w → g.status = .running) (hSa : ∀ (g : Goroutine) (w : World) (d : Nat), Stop g (w.at d) → ∀ d', Stop g (w.at d')) (hD : ∀ w w' es, D w w' es → ∀ e ∈ es, EvL Shun B e)
    {n : Nat} {gs : Array Goroutine} {a : Goroutine} {w : World} {sl : Option (Nat × Nat)} {T : Trace} {q : Nat → Nat} (h0 : gs[0]? = some a) (hL : Leavers P T gs q) (hP : PastD Shun B dd T) (hG : Goes P true AtRel D Stop n a w) :
    ∃ (N : Nat) (gs' : Array Goroutine) (a' : Goroutine) (w' : World) (sl' : Option (Nat × Nat)) (T' : Trace) (q' : Nat → Nat),
      runNT P N (crowd gs w sl) T = (.next (crowd gs' w' sl'), T') ∧ gs'.size = gs.size ∧ gs'[0]? = some a' ∧ Stop a' w' ∧ Leavers P T' gs' q' ∧ PastD Shun B dd T' := by
  obtain ⟨N, gs', a', w', sl', T', q', d, sl'', hr, hs, h0', hL', hP', hS, hst⟩ := picked_beside hSr hD _ n gs a w sl T q rfl h0 hL hP hG
  exact ⟨N, gs', a', w', sl', T', q', hr, hs, h0', by have := hSa a' w' d hS w'.drawn; exact this, hL', hP'⟩
end
section
variable {P : Program}
/-- A walk with its two marks: 'disable', then 'enable'. -/
def Marked (P : Program) (D : World → World → Array Event → Prop) (Stop : Goroutine → World → Prop) (g : Goroutine) (w : World) : Prop :=
  ∃ n, Goes P true AtRel D (Go.ConcX.AtMkS P .disable fun a w => ∃ n, Goes P true AtRel D (Go.ConcX.AtMkS P .enable fun a w => ∃ n, Goes P true AtRel D Stop n a w) n a w) n g w
/-- ████ GOROUTINE 0's WALK WITH ITS TWO MARKS, BESIDE LEAVERS. ████ -/
theorem marked0 {S : Nat → Prop} {g : Goroutine} {gs : Array Goroutine} {W : World} {sl : Option (Nat × Nat)} {T : Trace} {q : Nat → Nat} (hz : gs[0]? = some g) (hL : Leavers P T gs q) (hP : ∃ B, Past (Sh S) B T) {Stop' : Goroutine → World → Prop}
    (hSr : ∀ g w, Stop' g w → g.status = .running) (hSa : ∀ (g : Goroutine) (w : World) (d : Nat), Stop' g (w.at d) → ∀ d', Stop' g (w.at d'))
    (hG : ∃ B₁, ∀ B, B₁ ≤ B → ∃ D : World → World → Array Event → Prop, (∀ w w' es, D w w' es → ∀ e ∈ es, EvL (Sh S) B e) ∧ Marked P D Stop' g W) :
    ∃ N g' gs' W' sl' T' q', runNT P N (crowd gs W sl) T = (.next (crowd gs' W' sl'), T') ∧ Stop' g' W' ∧ gs'[0]? = some g' ∧ Leavers P T' gs' q' ∧ ∃ B, Past (Sh S) B T' := by
  obtain ⟨B₀, hP⟩ := hP
  obtain ⟨B₁, hG⟩ := hG
  obtain ⟨D, hD, n, hG⟩ := hG _ (Nat.le_max_right B₀ B₁)
  obtain ⟨N1, gs1, a1, w1, sl1, T1, q1, r1, _, z1, ⟨n2, g2⟩, L1, P1⟩ := beside_mark (m := .disable) (sl := sl) rfl trivial hD hz hL (pastD_of (hP.mono (Nat.le_max_left ..))) hG
  obtain ⟨N2, gs2, a2, w2, sl2, T2, q2, r2, _, z2, ⟨n3, g3⟩, L2, P2⟩ := beside_mark (m := .enable) (sl := sl1) rfl trivial hD z1 L1 P1 g2
  obtain ⟨N3, gs3, a3, w3, sl3, T3, q3, r3, _, z3, hst, L3, P3⟩ := walk_besideD (sl := sl2) hSr hSa hD z2 L2 P2 g3
  exact ⟨N1 + (N2 + N3), a3, gs3, w3, sl3, T3, q3, Go.ConcX.runNT_trans r1 (Go.ConcX.runNT_trans r2 r3), hst, z3, L3, _, past_of P3⟩
end
end Go.Tw
end

section
set_option linter.unusedSimpArgs false
set_option linter.unusedVariables false
namespace Go.Proofs.Ytcdnmnipaaooiaa
open Go.Conc Go.RowKit Go.Conc.Lib Go.ConcR.Gen Go.Tw
open Go.ConcR (KK wgBlock WgAt stA smA rd wr)
/-- What the library's steps on the group may list. -/
abbrev shyE (S : Nat → Prop) (B N : Nat) (hB : N + 6 < B) (hS : ∀ b, S b → b < N) : Go.ConcX.Shy (N + 5) (N + 3) where
  ok x := x.low B ∧ ∀ y, x.touch? = some y → Sh S y.loc → y.kind ≠ .plain
  atomicWg a wr h := ⟨by show a.block < B; omega, fun y hy hs => by
    simp only [MemAct.touch?, Option.some.injEq] at hy
    subst hy
    obtain ⟨a', e, hb⟩ := hs
    cases e
    have := hS _ hb
    omega⟩
  readWg a h := ⟨by show a.block < B; omega, fun y hy hs => by
    simp only [MemAct.touch?, Option.some.injEq] at hy
    subst hy
    obtain ⟨a', e, hb⟩ := hs
    cases e
    have := hS _ hb
    omega⟩
  writeWg a h := ⟨by show a.block < B; omega, fun y hy hs => by
    simp only [MemAct.touch?, Option.some.injEq] at hy
    subst hy
    obtain ⟨a', e, hb⟩ := hs
    cases e
    have := hS _ hb
    omega⟩
  theirs a wr h := ⟨by show a.block < B; omega, fun y hy hs => by
    simp only [MemAct.touch?, Option.some.injEq] at hy
    subst hy
    obtain ⟨a', e, hb⟩ := hs
    cases e
    have := hS _ hb
    omega⟩
  disable := ⟨trivial, fun y hy => by cases hy⟩
  enable := ⟨trivial, fun y hy => by cases hy⟩
  relMerge := ⟨by show N + 5 < B; omega, fun y hy => by cases hy⟩
  acquire := ⟨by show N + 5 < B; omega, fun y hy => by cases hy⟩
  go1 := ⟨trivial, fun y hy => by cases hy⟩
  start := ⟨trivial, fun y hy => by cases hy⟩
  stop _ _ := True
theorem evL_shy {S : Nat → Prop} {B N : Nat} (hB : N + 6 < B) (hS : ∀ b, S b → b < N) {e : Event} (h : @Go.ConcX.EvS (N + 5) (N + 3) (shyE S B N hB hS) e) : EvL (Sh S) B e := by
  obtain ⟨_, _, _, h1, h2, h3⟩ := h
  have h3' : (MemAct.ofEvent e).low B ∧ ∀ y, (MemAct.ofEvent e).touch? = some y → Sh S y.loc → y.kind ≠ .plain := h3
  refine ⟨h3'.2, fun he => ?_, fun he => ?_, h3'.1⟩
  · obtain ⟨loc, a, b⟩ := e
    simp only at he
    subst he
    exact h1 rfl
  · obtain ⟨loc, a, b⟩ := e
    simp only at he
    subst he
    exact h2 rfl
section
variable {A B : Option Addr} {n m c e f N : Nat} {cs : List Frame} {W : World}
set_option maxRecDepth 100000 in
set_option maxHeartbeats 4000000 in
theorem h6 [Go.ConcX.Shy (N + 5) (N + 3)] (hn : 0 < n) (hs : W.heap.size = N + 6) (hw : WgAt 72 (N + 5) W 0 0) (hE6 : Go.ConcX.EvS (N + 5) (N + 3) ⟨.cell ⟨N + 6, 0, none⟩, true, false⟩) :
    Marked Try.prog (DE (Go.ConcX.EvS (N + 5) (N + 3))) (fun g w' => g = G (goFrame #[.slice A n c, .slice B n e, .func (.func f) #[] #[], .pointer (some ⟨N, 0, none⟩), .pointer (some ⟨N + 1, 0, none⟩), .pointer (some ⟨N + 2, 0, none⟩), .slice none 0 0, .bool false, .pointer (some ⟨N + 4, 0, none⟩), .pointer (some ⟨N + 5, 0, none⟩), .pointer (some ⟨N + 6, 0, none⟩), .slice A n c, .bool true, .bool false, .bool false, .slice B n e, .bool true, .bool false, .bool false, .bool false, .slice A n c, .int .i64 n, .slice B n e, .int .i64 n, .bool false, .bool false, .slice A n c, .int .i64 n, .slice (some ⟨N + 3, 0, none⟩) n n, .slice A n c, .int .i64 n, .int .i64 (0 : Nat), .bool true, .int .i64 (0 : Nat), .tuple #[], .func (.func 69) #[] #[.pointer (some ⟨N + 5, 0, none⟩), .pointer (some ⟨N + 2, 0, none⟩), .pointer (some ⟨N, 0, none⟩), .pointer (some ⟨N + 6, 0, none⟩), .pointer (some ⟨N + 1, 0, none⟩), .pointer (some ⟨N + 4, 0, none⟩)], undef, undef, undef]) cs ∧ ∃ d, w' = ((W.alloc (.cells #[.int .i64 0] 3)).setCell (stA (N + 5)) (.int .u64 KK)).at d) (G ((base 46).at ⟨#[.slice A n c, .slice B n e, .func (.func f) #[] #[], .pointer (some ⟨N, 0, none⟩), .pointer (some ⟨N + 1, 0, none⟩), .pointer (some ⟨N + 2, 0, none⟩), .slice none 0 0, .bool false, .pointer (some ⟨N + 4, 0, none⟩), .pointer (some ⟨N + 5, 0, none⟩), undef, .slice A n c, .bool true, .bool false, .bool false, .slice B n e, .bool true, .bool false, .bool false, .bool false, .slice A n c, .int .i64 n, .slice B n e, .int .i64 n, .bool false, .bool false, .slice A n c, .int .i64 n, .slice (some ⟨N + 3, 0, none⟩) n n, .slice A n c, .int .i64 n, .int .i64 (0 : Nat), undef, undef, undef, undef, undef, undef, undef], []⟩ [.code L46, .inLoop L46, .inBlock 0, .code R46]) cs) W := by
  have hlt : (0 : Int) < (n : Int) := by omega
  refine ⟨12 + 18, ?_⟩
  have hA := fun (b₀ : Frame) (a₀ : Act) (ops₀ : Array Oper) (i₀ : Nat) (rest₀ : List Nat) (k₀ : List Item) (cs : List Frame) (mT : Nat) (StopG : Goroutine → World → Prop) => Go.ConcX.Gen.addPos (L := Try.link) (P := Try.prog) (Wg := N + 5) (C := N + 3) (b₀ := b₀) (a₀ := a₀) (ops₀ := ops₀) (i₀ := i₀) (rest₀ := rest₀) (k₀ := k₀) (cs := cs) (mT := mT) (StopG := StopG) Try.wgLib
  simp only [Go.ConcX.Gen.body_add, addFn, Option.getD_some] at hA
  simp only [goFrame, ops9, r10, L46, R46, body46, Try.f46, Option.getD_some]
  refine Goes.step rfl (fun _ h₁ => ?_); obtain ⟨d, rfl⟩ := h₁
  try simp only [at_at]
  rw [stepG_seq]; simp only [goes_go]; refine ⟨nil_evs _, ?_⟩
  refine Goes.step rfl (fun _ h₁ => ?_); obtain ⟨d, rfl⟩ := h₁
  try simp only [at_at]
  rw [stepG_region]; simp only [goes_go, List.size_toArray, List.length_cons, List.length_nil, Nat.reduceAdd, Nat.zero_add, List.range, List.range.loop]; refine ⟨nil_evs _, ?_⟩
  refine Goes.step rfl (fun _ h₁ => ?_); obtain ⟨d, rfl⟩ := h₁
  try simp only [at_at]
  refine goes_oper_k rfl rfl (by k_ne) (fun K hK => ?_)
  go_simp
  try simp only [alloc_at, at_heap] at hK ⊢
  refine hK _ _ ⟨?_, ?_⟩
  · intro x hx
    have hm := mem_listed hx
    simp [go_sem] at hm
  clear hK K
  try simp only [alloc_at, at_heap]
  try w_num
  refine Goes.step rfl (fun _ h₁ => ?_); obtain ⟨d, rfl⟩ := h₁
  try simp only [at_at]
  rw [stepG_region_end]; simp only [goes_go]; refine ⟨nil_evs _, ?_⟩
  refine Goes.step rfl (fun _ h₁ => ?_); obtain ⟨d, rfl⟩ := h₁
  try simp only [at_at]
  rw [stepG_seq]; simp only [goes_go]; refine ⟨nil_evs _, ?_⟩
  refine Goes.step rfl (fun _ h₁ => ?_); obtain ⟨d, rfl⟩ := h₁
  try simp only [at_at]
  rw [stepG_cond (t := true) rfl]; simp only [goes_go, if_true, if_false, Bool.false_eq_true, ↓reduceIte]; refine ⟨nil_evs _, ?_⟩
  refine Goes.step rfl (fun _ h₁ => ?_); obtain ⟨d, rfl⟩ := h₁
  try simp only [at_at]
  rw [stepG_skip]; simp only [goes_go]; refine ⟨nil_evs _, ?_⟩
  refine Goes.step rfl (fun _ h₁ => ?_); obtain ⟨d, rfl⟩ := h₁
  try simp only [at_at]
  rw [stepG_seq]; simp only [goes_go]; refine ⟨nil_evs _, ?_⟩
  refine Goes.step rfl (fun _ h₁ => ?_); obtain ⟨d, rfl⟩ := h₁
  try simp only [at_at]
  rw [stepG_block]; simp only [goes_go]; refine ⟨nil_evs _, ?_⟩
  refine Goes.step rfl (fun _ h₁ => ?_); obtain ⟨d, rfl⟩ := h₁
  try simp only [at_at]
  rw [stepG_seq]; simp only [goes_go]; refine ⟨nil_evs _, ?_⟩
  refine Goes.step rfl (fun _ h₁ => ?_); obtain ⟨d, rfl⟩ := h₁
  try simp only [at_at]
  rw [stepG_region]; simp only [goes_go, List.size_toArray, List.length_cons, List.length_nil, Nat.reduceAdd, Nat.zero_add, List.range, List.range.loop]; refine ⟨nil_evs _, ?_⟩
  refine Goes.step rfl (fun _ h₁ => ?_); obtain ⟨d, rfl⟩ := h₁
  try simp only [at_at]
  refine goes_oper_k rfl rfl (by k_ne) (fun K hK => ?_)
  go_simp
  try simp only [alloc_at, at_heap] at hK ⊢
  refine hK _ _ ⟨?_, ?_⟩
  · intro x hx
    have hm := mem_listed hx
    simp [go_sem] at hm
  clear hK K
  try simp only [alloc_at, at_heap]
  try w_num
  refine Goes.step rfl (fun _ h₁ => ?_); obtain ⟨d, rfl⟩ := h₁
  try simp only [at_at]
  refine goes_oper_k rfl rfl (by k_ne) (fun K hK => ?_)
  go_simp
  simp only [alloc_at, at_heap, hs] at hK ⊢
  refine hK _ _ ⟨?_, ?_⟩
  · intro x hx
    have hm := mem_listed hx
    simp [go_sem] at hm
  clear hK K
  try simp only [alloc_at, at_heap]
  refine Goes.step rfl (fun _ h₁ => ?_); obtain ⟨d, rfl⟩ := h₁
  try simp only [at_at]
  have hbo : (W.alloc (.cells #[.int .i64 0] 3)).heap[N + 6]? = some (.cells #[.int .i64 0] 3) := by
    have := heap_alloc_new W (.cells #[.int .i64 0] 3)
    rwa [hs] at this
  have hst : (W.alloc (.cells #[.int .i64 0] 3)).setCell ⟨N + 6, 0, none⟩ (.int .i64 0) = W.alloc (.cells #[.int .i64 0] 3) := by
    have := set_new W (.int .i64 0) (.int .i64 0) 3
    rwa [hs] at this
  have hfz : ((W.alloc (.cells #[.int .i64 0] 3)).at d).frozen? ⟨N + 6, 0, none⟩ = false := (cell_of_cells (w := (W.alloc (.cells #[.int .i64 0] 3)).at d) hbo).2
  have hce := cell_at_of hbo d
  refine goes_oper_k rfl rfl (by k_ne) (fun K hK => ?_)
  go_simp
  simp only [setCell_at, hst] at hK ⊢
  refine hK _ _ ⟨?_, ?_⟩
  · intro x hx
    have hm := mem_listed hx
    simp [go_sem, hs, hce, hfz] at hm
    subst hm
    exact hE6
  clear hK K hst hfz hce
  refine Goes.step rfl (fun _ h₁ => ?_); obtain ⟨d, rfl⟩ := h₁
  try simp only [at_at]
  rw [stepG_region_end]; simp only [goes_go]; refine ⟨nil_evs _, ?_⟩
  refine Goes.step rfl (fun _ h₁ => ?_); obtain ⟨d, rfl⟩ := h₁
  try simp only [at_at]
  rw [stepG_seq]; simp only [goes_go]; refine ⟨nil_evs _, ?_⟩
  refine Goes.step rfl (fun _ h₁ => ?_); obtain ⟨d, rfl⟩ := h₁
  try simp only [at_at]
  rw [stepG_region]; simp only [goes_go, List.size_toArray, List.length_cons, List.length_nil, Nat.reduceAdd, Nat.zero_add, List.range, List.range.loop]; refine ⟨nil_evs _, ?_⟩
  refine Goes.step rfl (fun _ h₁ => ?_); obtain ⟨d, rfl⟩ := h₁
  try simp only [at_at]
  refine goes_call rfl rfl (by k_ne) rfl Try.func68 (nm_add Try.link) rfl ⟨nil_evs _, ?_⟩
  walk_nrmf Try.f68
  have hwg : Go.ConcX.WgAt Try.link.tWg (N + 5) ((W.alloc (.cells #[.int .i64 0] 3)).at d) 0 0 := by
    show (W.alloc (.cells #[.int .i64 0] 3)).heap[N + 5]? = _
    rw [Below.heap_alloc _ _ _ (by omega)]
    exact hw
  refine hA _ _ _ _ _ _ _ 20 _ _ hwg ?_
  clear hA hwg
  walk_nrm
  refine Goes.step rfl (fun _ h₁ => ?_); obtain ⟨d, rfl⟩ := h₁
  try simp only [at_at]
  rw [stepG_region_end]; simp only [goes_go]; refine ⟨nil_evs _, ?_⟩
  refine Goes.step rfl (fun _ h₁ => ?_); obtain ⟨d, rfl⟩ := h₁
  try simp only [at_at]
  rw [stepG_region]; simp only [goes_go, List.size_toArray, List.length_cons, List.length_nil, Nat.reduceAdd, Nat.zero_add, List.range, List.range.loop]; refine ⟨nil_evs _, ?_⟩
  refine Goes.step rfl (fun _ h₁ => ?_); obtain ⟨d, rfl⟩ := h₁
  try simp only [at_at]
  refine goes_oper_k rfl rfl (by k_ne) (fun K hK => ?_)
  go_simp
  try simp only [alloc_at, at_heap] at hK ⊢
  refine hK _ _ ⟨?_, ?_⟩
  · intro x hx
    have hm := mem_listed hx
    simp [go_sem] at hm
  clear hK K
  try simp only [alloc_at, at_heap]
  try w_num
  exact Goes.stop (fun _ h₁ => by obtain ⟨d, rfl⟩ := h₁; exact ⟨rfl, _, rfl⟩)
end
end Go.Proofs.Ytcdnmnipaaooiaa
end

section
set_option linter.unusedSimpArgs false
set_option linter.unusedVariables false
namespace Go.Proofs.Ytcdnmnipaaooiaa
open Go.Conc Go.RowKit Go.Conc.Lib Go.ConcR.Gen Go.Tw
open Go.ConcR (KK wgBlock WgAt stA smA rd wr)
section
variable {E : Event → Prop} {A B : Option Addr} {n m c e f N : Nat} {cT : Frame} {Z : List Frame} {W : World}
set_option maxRecDepth 100000 in
set_option maxHeartbeats 4000000 in
theorem h7 (hw : WgAt 72 (N + 5) W 0 0) (hb4 : W.heap[N + 4]? = some (.cells #[.slice (some ⟨N + 3, 0, none⟩) 0 0] 23)) (hEa : E ⟨.cell ⟨N + 5, 0, none⟩, false, true⟩) (hEq : E ⟨.mark (.acquire ⟨N + 5, 0, none⟩), false, true⟩) (hE4 : E ⟨.cell ⟨N + 4, 0, none⟩, false, false⟩) :
    Marked Try.prog (DE E) (fun g w' => g = G (cT.finish (.tuple #[.slice (some ⟨N + 3, 0, none⟩) 0 0, .bool true])) Z ∧ ∃ d, w' = W.at d) (G ((base 46).at ⟨#[.slice A 0 c, .slice B 0 e, .func (.func f) #[] #[], .pointer (some ⟨N, 0, none⟩), .pointer (some ⟨N + 1, 0, none⟩), .pointer (some ⟨N + 2, 0, none⟩), .slice none 0 0, .bool false, .pointer (some ⟨N + 4, 0, none⟩), .pointer (some ⟨N + 5, 0, none⟩), undef, .slice A 0 c, .bool true, .bool false, .bool false, .slice B 0 e, .bool true, .bool false, .bool false, .bool false, .slice A 0 c, .int .i64 (0 : Nat), .slice B 0 e, .int .i64 (0 : Nat), .bool false, .bool false, .slice A 0 c, .int .i64 (0 : Nat), .slice (some ⟨N + 3, 0, none⟩) 0 0, .slice A 0 c, .int .i64 (0 : Nat), .int .i64 (0 : Nat), undef, undef, undef, undef, undef, undef, undef], []⟩ [.code L46, .inLoop L46, .inBlock 0, .code R46]) (cT :: Z)) W := by
  refine ⟨100, ?_⟩
  simp only [L46, R46, body46, Try.f46, Option.getD_some]
  refine Goes.step rfl (fun _ h₁ => ?_); obtain ⟨d, rfl⟩ := h₁
  try simp only [at_at]
  rw [stepG_seq]; simp only [goes_go]; refine ⟨nil_evs _, ?_⟩
  refine Goes.step rfl (fun _ h₁ => ?_); obtain ⟨d, rfl⟩ := h₁
  try simp only [at_at]
  rw [stepG_region]; simp only [goes_go, List.size_toArray, List.length_cons, List.length_nil, Nat.reduceAdd, Nat.zero_add, List.range, List.range.loop]; refine ⟨nil_evs _, ?_⟩
  refine Goes.step rfl (fun _ h₁ => ?_); obtain ⟨d, rfl⟩ := h₁
  try simp only [at_at]
  refine goes_oper_k rfl rfl (by k_ne) (fun K hK => ?_)
  go_simp
  try simp only [alloc_at, at_heap] at hK ⊢
  refine hK _ _ ⟨?_, ?_⟩
  · intro x hx
    have hm := mem_listed hx
    simp [go_sem] at hm
  clear hK K
  try simp only [alloc_at, at_heap]
  try w_num
  refine Goes.step rfl (fun _ h₁ => ?_); obtain ⟨d, rfl⟩ := h₁
  try simp only [at_at]
  rw [stepG_region_end]; simp only [goes_go]; refine ⟨nil_evs _, ?_⟩
  refine Goes.step rfl (fun _ h₁ => ?_); obtain ⟨d, rfl⟩ := h₁
  try simp only [at_at]
  rw [stepG_seq]; simp only [goes_go]; refine ⟨nil_evs _, ?_⟩
  refine Goes.step rfl (fun _ h₁ => ?_); obtain ⟨d, rfl⟩ := h₁
  try simp only [at_at]
  rw [stepG_cond (t := false) rfl]; simp only [goes_go, if_true, if_false, Bool.false_eq_true, ↓reduceIte]; refine ⟨nil_evs _, ?_⟩
  refine Goes.step rfl (fun _ h₁ => ?_); obtain ⟨d, rfl⟩ := h₁
  try simp only [at_at]
  rw [stepG_exit rfl]; simp only [goes_go]; refine ⟨nil_evs _, ?_⟩
  refine Goes.step rfl (fun _ h₁ => ?_); obtain ⟨d, rfl⟩ := h₁
  try simp only [at_at]
  rw [stepG_seq]; simp only [goes_go]; refine ⟨nil_evs _, ?_⟩
  refine Goes.step rfl (fun _ h₁ => ?_); obtain ⟨d, rfl⟩ := h₁
  try simp only [at_at]
  rw [stepG_region]; simp only [goes_go, List.size_toArray, List.length_cons, List.length_nil, Nat.reduceAdd, Nat.zero_add, List.range, List.range.loop]; refine ⟨nil_evs _, ?_⟩
  refine Goes.step rfl (fun _ h₁ => ?_); obtain ⟨d, rfl⟩ := h₁
  try simp only [at_at]
  refine goes_call rfl rfl (by k_ne) rfl Try.func71 (nm_wait Try.link) rfl ⟨nil_evs _, ?_⟩
  walk_nrmf Try.f71
  refine Goes.step rfl (fun _ h₁ => ?_); obtain ⟨d, rfl⟩ := h₁
  try simp only [at_at]
  rw [stepG_seq]; simp only [goes_go]; refine ⟨nil_evs _, ?_⟩
  refine Goes.step rfl (fun _ h₁ => ?_); obtain ⟨d, rfl⟩ := h₁
  try simp only [at_at]
  rw [stepG_cond (t := true) rfl]; simp only [goes_go, if_true, if_false, Bool.false_eq_true, ↓reduceIte]; refine ⟨nil_evs _, ?_⟩
  refine Goes.step rfl (fun _ h₁ => ?_); obtain ⟨d, rfl⟩ := h₁
  try simp only [at_at]
  rw [stepG_region]; simp only [goes_go, List.size_toArray, List.length_cons, List.length_nil, Nat.reduceAdd, Nat.zero_add, List.range, List.range.loop]; refine ⟨nil_evs _, ?_⟩
  refine Goes.stop (fun _ h₁ => ?_)
  obtain ⟨d, rfl⟩ := h₁
  try simp only [at_at]
  refine ⟨rfl, _, stepG_mark0 .disable (by simp) rfl rfl (by k_ne) rfl Try.wgLib.f_disable (x_disable_n Try.link) (x_disable_b Try.link) (x_disable_x Try.link) (x_disable_f Try.link), 100, ?_⟩
  walk_nrm
  refine Goes.step rfl (fun _ h₁ => ?_); obtain ⟨d, rfl⟩ := h₁
  try simp only [at_at]
  rw [stepG_region_end]; simp only [goes_go]; refine ⟨nil_evs _, ?_⟩
  refine Goes.step rfl (fun _ h₁ => ?_); obtain ⟨d, rfl⟩ := h₁
  try simp only [at_at]
  rw [stepG_block]; simp only [goes_go]; refine ⟨nil_evs _, ?_⟩
  refine Goes.step rfl (fun _ h₁ => ?_); obtain ⟨d, rfl⟩ := h₁
  try simp only [at_at]
  rw [stepG_loop]; simp only [goes_go]; refine ⟨nil_evs _, ?_⟩
  refine Goes.step rfl (fun _ h₁ => ?_); obtain ⟨d, rfl⟩ := h₁
  try simp only [at_at]
  rw [stepG_block]; simp only [goes_go]; refine ⟨nil_evs _, ?_⟩
  refine Goes.step rfl (fun _ h₁ => ?_); obtain ⟨d, rfl⟩ := h₁
  try simp only [at_at]
  rw [stepG_seq]; simp only [goes_go]; refine ⟨nil_evs _, ?_⟩
  refine Goes.step rfl (fun _ h₁ => ?_); obtain ⟨d, rfl⟩ := h₁
  try simp only [at_at]
  rw [stepG_region]; simp only [goes_go, List.size_toArray, List.length_cons, List.length_nil, Nat.reduceAdd, Nat.zero_add, List.range, List.range.loop]; refine ⟨nil_evs _, ?_⟩
  refine Goes.step rfl (fun _ h₁ => ?_); obtain ⟨d, rfl⟩ := h₁
  try simp only [at_at]
  refine goes_oper_k rfl rfl (by k_ne) (fun K hK => ?_)
  go_simp
  try simp only [alloc_at, at_heap] at hK ⊢
  refine hK _ _ ⟨?_, ?_⟩
  · intro x hx
    have hm := mem_listed hx
    simp [go_sem] at hm
  clear hK K
  try simp only [alloc_at, at_heap]
  try w_num
  refine Goes.step rfl (fun _ h₁ => ?_); obtain ⟨d, rfl⟩ := h₁
  try simp only [at_at]
  refine goes_oper_k rfl rfl (by k_ne) (fun K hK => ?_)
  go_simp
  try simp only [alloc_at, at_heap] at hK ⊢
  refine hK _ _ ⟨?_, ?_⟩
  · intro x hx
    have hm := mem_listed hx
    simp [go_sem] at hm
  clear hK K
  try simp only [alloc_at, at_heap]
  try w_num
  refine Goes.step rfl (fun _ h₁ => ?_); obtain ⟨d, rfl⟩ := h₁
  try simp only [at_at]
  refine goes_oper_k rfl rfl (by k_ne) (fun K hK => ?_)
  go_simp
  try simp only [alloc_at, at_heap] at hK ⊢
  refine hK _ _ ⟨?_, ?_⟩
  · intro x hx
    have hm := mem_listed hx
    simp [go_sem] at hm
  clear hK K
  try simp only [alloc_at, at_heap]
  try w_num
  refine Goes.step rfl (fun _ h₁ => ?_); obtain ⟨d, rfl⟩ := h₁
  try simp only [at_at]
  refine goes_call rfl rfl (by k_ne) rfl Try.func93 (nm_uLoad Try.link) rfl ⟨nil_evs _, ?_⟩
  walk_nrmf Try.f93
  refine Goes.step rfl (fun _ h₁ => ?_); obtain ⟨d, rfl⟩ := h₁
  try simp only [at_at]
  rw [stepG_seq]; simp only [goes_go]; refine ⟨nil_evs _, ?_⟩
  refine Goes.step rfl (fun _ h₁ => ?_); obtain ⟨d, rfl⟩ := h₁
  try simp only [at_at]
  rw [stepG_region]; simp only [goes_go, List.size_toArray, List.length_cons, List.length_nil, Nat.reduceAdd, Nat.zero_add, List.range, List.range.loop]; refine ⟨nil_evs _, ?_⟩
  refine Goes.step rfl (fun _ h₁ => ?_); obtain ⟨d, rfl⟩ := h₁
  try simp only [at_at]
  refine goes_oper_k rfl rfl (by k_ne) (fun K hK => ?_)
  go_simp
  try simp only [alloc_at, at_heap] at hK ⊢
  refine hK _ _ ⟨?_, ?_⟩
  · intro x hx
    have hm := mem_listed hx
    simp [go_sem] at hm
  clear hK K
  try simp only [alloc_at, at_heap]
  try w_num
  refine Goes.step rfl (fun _ h₁ => ?_); obtain ⟨d, rfl⟩ := h₁
  try simp only [at_at]
  rw [stepG_region_end]; simp only [goes_go]; refine ⟨nil_evs _, ?_⟩
  refine Goes.step rfl (fun _ h₁ => ?_); obtain ⟨d, rfl⟩ := h₁
  try simp only [at_at]
  rw [stepG_seq]; simp only [goes_go]; refine ⟨nil_evs _, ?_⟩
  refine Goes.step rfl (fun _ h₁ => ?_); obtain ⟨d, rfl⟩ := h₁
  try simp only [at_at]
  rw [stepG_region]; simp only [goes_go, List.size_toArray, List.length_cons, List.length_nil, Nat.reduceAdd, Nat.zero_add, List.range, List.range.loop]; refine ⟨nil_evs _, ?_⟩
  refine Goes.step rfl (fun _ h₁ => ?_); obtain ⟨d, rfl⟩ := h₁
  try simp only [at_at]
  refine goes_oper_k rfl rfl (by k_ne) (fun K hK => ?_)
  go_simp
  try simp only [alloc_at, at_heap] at hK ⊢
  refine hK _ _ ⟨?_, ?_⟩
  · intro x hx
    have hm := mem_listed hx
    simp [go_sem] at hm
  clear hK K
  try simp only [alloc_at, at_heap]
  try w_num
  refine Goes.step rfl (fun _ h₁ => ?_); obtain ⟨d, rfl⟩ := h₁
  try simp only [at_at]
  refine goes_oper_k rfl rfl (by k_ne) (fun K hK => ?_)
  go_simp
  try simp only [alloc_at, at_heap] at hK ⊢
  refine hK _ _ ⟨?_, ?_⟩
  · intro x hx
    have hm := mem_listed hx
    simp [go_sem] at hm
  clear hK K
  try simp only [alloc_at, at_heap]
  try w_num
  refine Goes.step rfl (fun _ h₁ => ?_); obtain ⟨d, rfl⟩ := h₁
  try simp only [at_at]
  refine goes_oper_k rfl rfl (by k_ne) (fun K hK => ?_)
  go_simp
  try simp only [alloc_at, at_heap] at hK ⊢
  refine hK _ _ ⟨?_, ?_⟩
  · intro x hx
    have hm := mem_listed hx
    simp [go_sem] at hm
  clear hK K
  try simp only [alloc_at, at_heap]
  try w_num
  refine Goes.step rfl (fun _ h₁ => ?_); obtain ⟨d, rfl⟩ := h₁
  try simp only [at_at]
  rw [stepG_load_atomic (v := 0) rfl rfl (by k_ne) rfl Try.wgLib.f_loadU64 (x_loadU64_n Try.link) (x_loadU64_b Try.link) (x_loadU64_x Try.link) .u64 (x_loadU64_f Try.link) rfl (WgAt.cellSt (w := W.at d) hw)]
  simp only [goes_go]
  refine ⟨fun x hx => ?_, ?_⟩
  · simp only [Array.mem_singleton] at hx
    subst hx
    exact hEa
  walk_nrm
  refine Goes.step rfl (fun _ h₁ => ?_); obtain ⟨d, rfl⟩ := h₁
  try simp only [at_at]
  refine goes_oper_k rfl rfl (by k_ne) (fun K hK => ?_)
  go_simp
  try simp only [alloc_at, at_heap] at hK ⊢
  refine hK _ _ ⟨?_, ?_⟩
  · intro x hx
    have hm := mem_listed hx
    simp [go_sem] at hm
  clear hK K
  try simp only [alloc_at, at_heap]
  try w_num
  refine Goes.step rfl (fun _ h₁ => ?_); obtain ⟨d, rfl⟩ := h₁
  try simp only [at_at]
  rw [stepG_region_end]; simp only [goes_go]; refine ⟨nil_evs _, ?_⟩
  refine Goes.step rfl (fun _ h₁ => ?_); obtain ⟨d, rfl⟩ := h₁
  try simp only [at_at]
  rw [stepG_ret']; simp only [goes_go]; refine ⟨nil_evs _, ?_⟩
  refine Goes.step rfl (fun _ h₁ => ?_); obtain ⟨d, rfl⟩ := h₁
  try simp only [at_at]
  refine goes_leave1 rfl rfl Try.func93 rfl ⟨nil_evs _, ?_⟩
  walk_nrm
  refine Goes.step rfl (fun _ h₁ => ?_); obtain ⟨d, rfl⟩ := h₁
  try simp only [at_at]
  refine goes_oper_k rfl rfl (by k_ne) (fun K hK => ?_)
  go_simp
  try simp only [alloc_at, at_heap] at hK ⊢
  refine hK _ _ ⟨?_, ?_⟩
  · intro x hx
    have hm := mem_listed hx
    simp [go_sem] at hm
  clear hK K
  try simp only [alloc_at, at_heap]
  try w_num
  refine Goes.step rfl (fun _ h₁ => ?_); obtain ⟨d, rfl⟩ := h₁
  try simp only [at_at]
  rw [stepG_region_end]; simp only [goes_go]; refine ⟨nil_evs _, ?_⟩
  refine Goes.step rfl (fun _ h₁ => ?_); obtain ⟨d, rfl⟩ := h₁
  try simp only [at_at]
  rw [stepG_seq]; simp only [goes_go]; refine ⟨nil_evs _, ?_⟩
  refine Goes.step rfl (fun _ h₁ => ?_); obtain ⟨d, rfl⟩ := h₁
  try simp only [at_at]
  rw [stepG_region]; simp only [goes_go, List.size_toArray, List.length_cons, List.length_nil, Nat.reduceAdd, Nat.zero_add, List.range, List.range.loop]; refine ⟨nil_evs _, ?_⟩
  refine Goes.step rfl (fun _ h₁ => ?_); obtain ⟨d, rfl⟩ := h₁
  try simp only [at_at]
  refine goes_oper_k rfl rfl (by k_ne) (fun K hK => ?_)
  go_simp
  try simp only [alloc_at, at_heap] at hK ⊢
  refine hK _ _ ⟨?_, ?_⟩
  · intro x hx
    have hm := mem_listed hx
    simp [go_sem] at hm
  clear hK K
  try simp only [alloc_at, at_heap]
  try w_num
  refine Goes.step rfl (fun _ h₁ => ?_); obtain ⟨d, rfl⟩ := h₁
  try simp only [at_at]
  refine goes_oper_k rfl rfl (by k_ne) (fun K hK => ?_)
  go_simp
  try simp only [alloc_at, at_heap] at hK ⊢
  refine hK _ _ ⟨?_, ?_⟩
  · intro x hx
    have hm := mem_listed hx
    simp [go_sem] at hm
  clear hK K
  try simp only [alloc_at, at_heap]
  try w_num
  refine Goes.step rfl (fun _ h₁ => ?_); obtain ⟨d, rfl⟩ := h₁
  try simp only [at_at]
  refine goes_oper_k rfl rfl (by k_ne) (fun K hK => ?_)
  go_simp
  try simp only [alloc_at, at_heap] at hK ⊢
  refine hK _ _ ⟨?_, ?_⟩
  · intro x hx
    have hm := mem_listed hx
    simp [go_sem] at hm
  clear hK K
  try simp only [alloc_at, at_heap]
  try w_num
  refine Goes.step rfl (fun _ h₁ => ?_); obtain ⟨d, rfl⟩ := h₁
  try simp only [at_at]
  refine goes_oper_k rfl rfl (by k_ne) (fun K hK => ?_)
  go_simp
  try simp only [alloc_at, at_heap] at hK ⊢
  refine hK _ _ ⟨?_, ?_⟩
  · intro x hx
    have hm := mem_listed hx
    simp [go_sem] at hm
  clear hK K
  try simp only [alloc_at, at_heap]
  try w_num
  refine Goes.step rfl (fun _ h₁ => ?_); obtain ⟨d, rfl⟩ := h₁
  try simp only [at_at]
  rw [stepG_region_end]; simp only [goes_go]; refine ⟨nil_evs _, ?_⟩
  refine Goes.step rfl (fun _ h₁ => ?_); obtain ⟨d, rfl⟩ := h₁
  try simp only [at_at]
  rw [stepG_seq]; simp only [goes_go]; refine ⟨nil_evs _, ?_⟩
  refine Goes.step rfl (fun _ h₁ => ?_); obtain ⟨d, rfl⟩ := h₁
  try simp only [at_at]
  rw [stepG_region]; simp only [goes_go, List.size_toArray, List.length_cons, List.length_nil, Nat.reduceAdd, Nat.zero_add, List.range, List.range.loop]; refine ⟨nil_evs _, ?_⟩
  refine Goes.step rfl (fun _ h₁ => ?_); obtain ⟨d, rfl⟩ := h₁
  try simp only [at_at]
  refine goes_oper_k rfl rfl (by k_ne) (fun K hK => ?_)
  go_simp
  try simp only [alloc_at, at_heap] at hK ⊢
  refine hK _ _ ⟨?_, ?_⟩
  · intro x hx
    have hm := mem_listed hx
    simp [go_sem] at hm
  clear hK K
  try simp only [alloc_at, at_heap]
  try w_num
  refine Goes.step rfl (fun _ h₁ => ?_); obtain ⟨d, rfl⟩ := h₁
  try simp only [at_at]
  refine goes_oper_k rfl rfl (by k_ne) (fun K hK => ?_)
  go_simp
  try simp only [alloc_at, at_heap] at hK ⊢
  refine hK _ _ ⟨?_, ?_⟩
  · intro x hx
    have hm := mem_listed hx
    simp [go_sem] at hm
  clear hK K
  try simp only [alloc_at, at_heap]
  try w_num
  refine Goes.step rfl (fun _ h₁ => ?_); obtain ⟨d, rfl⟩ := h₁
  try simp only [at_at]
  refine goes_oper_k rfl rfl (by k_ne) (fun K hK => ?_)
  go_simp
  try simp only [alloc_at, at_heap] at hK ⊢
  refine hK _ _ ⟨?_, ?_⟩
  · intro x hx
    have hm := mem_listed hx
    simp [go_sem] at hm
  clear hK K
  try simp only [alloc_at, at_heap]
  try w_num
  refine Goes.step rfl (fun _ h₁ => ?_); obtain ⟨d, rfl⟩ := h₁
  try simp only [at_at]
  refine goes_oper_k rfl rfl (by k_ne) (fun K hK => ?_)
  go_simp
  try simp only [alloc_at, at_heap] at hK ⊢
  refine hK _ _ ⟨?_, ?_⟩
  · intro x hx
    have hm := mem_listed hx
    simp [go_sem] at hm
  clear hK K
  try simp only [alloc_at, at_heap]
  try w_num
  refine Goes.step rfl (fun _ h₁ => ?_); obtain ⟨d, rfl⟩ := h₁
  try simp only [at_at]
  rw [stepG_region_end]; simp only [goes_go]; refine ⟨nil_evs _, ?_⟩
  refine Goes.step rfl (fun _ h₁ => ?_); obtain ⟨d, rfl⟩ := h₁
  try simp only [at_at]
  rw [stepG_seq]; simp only [goes_go]; refine ⟨nil_evs _, ?_⟩
  refine Goes.step rfl (fun _ h₁ => ?_); obtain ⟨d, rfl⟩ := h₁
  try simp only [at_at]
  rw [stepG_seq]; simp only [goes_go]; refine ⟨nil_evs _, ?_⟩
  refine Goes.step rfl (fun _ h₁ => ?_); obtain ⟨d, rfl⟩ := h₁
  try simp only [at_at]
  rw [stepG_region]; simp only [goes_go, List.size_toArray, List.length_cons, List.length_nil, Nat.reduceAdd, Nat.zero_add, List.range, List.range.loop]; refine ⟨nil_evs _, ?_⟩
  refine Goes.step rfl (fun _ h₁ => ?_); obtain ⟨d, rfl⟩ := h₁
  try simp only [at_at]
  refine goes_oper_k rfl rfl (by k_ne) (fun K hK => ?_)
  go_simp
  try simp only [alloc_at, at_heap] at hK ⊢
  refine hK _ _ ⟨?_, ?_⟩
  · intro x hx
    have hm := mem_listed hx
    simp [go_sem] at hm
  clear hK K
  try simp only [alloc_at, at_heap]
  try w_num
  refine Goes.step rfl (fun _ h₁ => ?_); obtain ⟨d, rfl⟩ := h₁
  try simp only [at_at]
  refine goes_oper_k rfl rfl (by k_ne) (fun K hK => ?_)
  go_simp
  try simp only [alloc_at, at_heap] at hK ⊢
  refine hK _ _ ⟨?_, ?_⟩
  · intro x hx
    have hm := mem_listed hx
    simp [go_sem] at hm
  clear hK K
  try simp only [alloc_at, at_heap]
  try w_num
  refine Goes.step rfl (fun _ h₁ => ?_); obtain ⟨d, rfl⟩ := h₁
  try simp only [at_at]
  rw [stepG_region_end]; simp only [goes_go]; refine ⟨nil_evs _, ?_⟩
  refine Goes.step rfl (fun _ h₁ => ?_); obtain ⟨d, rfl⟩ := h₁
  try simp only [at_at]
  rw [stepG_cond (t := true) rfl]; simp only [goes_go, if_true, if_false, Bool.false_eq_true, ↓reduceIte]; refine ⟨nil_evs _, ?_⟩
  refine Goes.step rfl (fun _ h₁ => ?_); obtain ⟨d, rfl⟩ := h₁
  try simp only [at_at]
  rw [stepG_seq]; simp only [goes_go]; refine ⟨nil_evs _, ?_⟩
  refine Goes.step rfl (fun _ h₁ => ?_); obtain ⟨d, rfl⟩ := h₁
  try simp only [at_at]
  rw [stepG_cond (t := true) rfl]; simp only [goes_go, if_true, if_false, Bool.false_eq_true, ↓reduceIte]; refine ⟨nil_evs _, ?_⟩
  refine Goes.step rfl (fun _ h₁ => ?_); obtain ⟨d, rfl⟩ := h₁
  try simp only [at_at]
  rw [stepG_seq]; simp only [goes_go]; refine ⟨nil_evs _, ?_⟩
  refine Goes.step rfl (fun _ h₁ => ?_); obtain ⟨d, rfl⟩ := h₁
  try simp only [at_at]
  rw [stepG_region]; simp only [goes_go, List.size_toArray, List.length_cons, List.length_nil, Nat.reduceAdd, Nat.zero_add, List.range, List.range.loop]; refine ⟨nil_evs _, ?_⟩
  refine Goes.stop (fun _ h₁ => ?_)
  obtain ⟨d, rfl⟩ := h₁
  try simp only [at_at]
  refine ⟨rfl, _, stepG_mark0 .enable (by simp) rfl rfl (by k_ne) rfl Try.wgLib.f_enable (x_enable_n Try.link) (x_enable_b Try.link) (x_enable_x Try.link) (x_enable_f Try.link), 100, ?_⟩
  walk_nrm
  refine Goes.step rfl (fun _ h₁ => ?_); obtain ⟨d, rfl⟩ := h₁
  try simp only [at_at]
  rw [stepG_region_end]; simp only [goes_go]; refine ⟨nil_evs _, ?_⟩
  refine Goes.step rfl (fun _ h₁ => ?_); obtain ⟨d, rfl⟩ := h₁
  try simp only [at_at]
  rw [stepG_region]; simp only [goes_go, List.size_toArray, List.length_cons, List.length_nil, Nat.reduceAdd, Nat.zero_add, List.range, List.range.loop]; refine ⟨nil_evs _, ?_⟩
  refine Goes.step rfl (fun _ h₁ => ?_); obtain ⟨d, rfl⟩ := h₁
  try simp only [at_at]
  refine goes_oper_k rfl rfl (by k_ne) (fun K hK => ?_)
  go_simp
  try simp only [alloc_at, at_heap] at hK ⊢
  refine hK _ _ ⟨?_, ?_⟩
  · intro x hx
    have hm := mem_listed hx
    simp [go_sem] at hm
  clear hK K
  try simp only [alloc_at, at_heap]
  try w_num
  refine Goes.step rfl (fun _ h₁ => ?_); obtain ⟨d, rfl⟩ := h₁
  try simp only [at_at]
  have hcell := WgAt.cellSt (w := W.at d) hw
  refine goes_oper_k rfl rfl (by k_ne) (fun Kx hKx => ?_)
  have hcv : Sem.run Try.prog (convert 83 85 (.pointer (some ⟨N + 5, 0, none⟩))) (W.at d) = .ok (.pointer (some ⟨N + 5, 0, none⟩)) (W.at d) := run_convert_to_unsafe (P := Try.prog) Try.wgLib.underlying_tWgP Try.wgLib.underlying_tUP Try.wgLib.room_tWg hcell
  have hce : ∀ es, Sem.events Try.prog (convert 83 85 (.pointer (some ⟨N + 5, 0, none⟩))) (W.at d) es = es := fun es => events_convert_to_unsafe (P := Try.prog) Try.wgLib.underlying_tWgP Try.wgLib.underlying_tUP Try.wgLib.room_tWg hcell es
  go_simp
  refine hKx _ _ ⟨?_, ?_⟩
  · intro ex hex
    have hmx := mem_listed hex
    simp [go_sem, hce] at hmx
  clear hKx Kx hcv hce hcell
  refine Goes.step rfl (fun _ h₁ => ?_); obtain ⟨d, rfl⟩ := h₁
  try simp only [at_at]
  rw [stepG_markAt (ad := ⟨N + 5, 0, none⟩) .acquire (by simp) rfl rfl (by k_ne) rfl Try.wgLib.f_acquire (x_acquire_n Try.link) (x_acquire_b Try.link) (x_acquire_x Try.link) (x_acquire_f Try.link) (by simp [Act.eval])]
  simp only [goes_go]
  refine ⟨fun x hx => ?_, ?_⟩
  · simp only [Array.mem_singleton] at hx
    subst hx
    exact hEq
  walk_nrm
  refine Goes.step rfl (fun _ h₁ => ?_); obtain ⟨d, rfl⟩ := h₁
  try simp only [at_at]
  rw [stepG_region_end]; simp only [goes_go]; refine ⟨nil_evs _, ?_⟩
  refine Goes.step rfl (fun _ h₁ => ?_); obtain ⟨d, rfl⟩ := h₁
  try simp only [at_at]
  rw [stepG_seq]; simp only [goes_go]; refine ⟨nil_evs _, ?_⟩
  refine Goes.step rfl (fun _ h₁ => ?_); obtain ⟨d, rfl⟩ := h₁
  try simp only [at_at]
  rw [stepG_seq]; simp only [goes_go]; refine ⟨nil_evs _, ?_⟩
  refine Goes.step rfl (fun _ h₁ => ?_); obtain ⟨d, rfl⟩ := h₁
  try simp only [at_at]
  rw [stepG_region]; simp only [goes_go, List.size_toArray, List.length_cons, List.length_nil, Nat.reduceAdd, Nat.zero_add, List.range, List.range.loop]; refine ⟨nil_evs _, ?_⟩
  refine Goes.step rfl (fun _ h₁ => ?_); obtain ⟨d, rfl⟩ := h₁
  try simp only [at_at]
  refine goes_oper_k rfl rfl (by k_ne) (fun K hK => ?_)
  go_simp
  try simp only [alloc_at, at_heap] at hK ⊢
  refine hK _ _ ⟨?_, ?_⟩
  · intro x hx
    have hm := mem_listed hx
    simp [go_sem] at hm
  clear hK K
  try simp only [alloc_at, at_heap]
  try w_num
  refine Goes.step rfl (fun _ h₁ => ?_); obtain ⟨d, rfl⟩ := h₁
  try simp only [at_at]
  refine goes_oper_k rfl rfl (by k_ne) (fun K hK => ?_)
  go_simp
  try simp only [alloc_at, at_heap] at hK ⊢
  refine hK _ _ ⟨?_, ?_⟩
  · intro x hx
    have hm := mem_listed hx
    simp [go_sem] at hm
  clear hK K
  try simp only [alloc_at, at_heap]
  try w_num
  refine Goes.step rfl (fun _ h₁ => ?_); obtain ⟨d, rfl⟩ := h₁
  try simp only [at_at]
  refine goes_oper_k rfl rfl (by k_ne) (fun K hK => ?_)
  go_simp
  try simp only [alloc_at, at_heap] at hK ⊢
  refine hK _ _ ⟨?_, ?_⟩
  · intro x hx
    have hm := mem_listed hx
    simp [go_sem] at hm
  clear hK K
  try simp only [alloc_at, at_heap]
  try w_num
  refine Goes.step rfl (fun _ h₁ => ?_); obtain ⟨d, rfl⟩ := h₁
  try simp only [at_at]
  refine goes_oper_k rfl rfl (by k_ne) (fun K hK => ?_)
  go_simp
  try simp only [alloc_at, at_heap] at hK ⊢
  refine hK _ _ ⟨?_, ?_⟩
  · intro x hx
    have hm := mem_listed hx
    simp [go_sem] at hm
  clear hK K
  try simp only [alloc_at, at_heap]
  try w_num
  refine Goes.step rfl (fun _ h₁ => ?_); obtain ⟨d, rfl⟩ := h₁
  try simp only [at_at]
  refine goes_oper_k rfl rfl (by k_ne) (fun K hK => ?_)
  go_simp
  try simp only [alloc_at, at_heap] at hK ⊢
  refine hK _ _ ⟨?_, ?_⟩
  · intro x hx
    have hm := mem_listed hx
    simp [go_sem] at hm
  clear hK K
  try simp only [alloc_at, at_heap]
  try w_num
  refine Goes.step rfl (fun _ h₁ => ?_); obtain ⟨d, rfl⟩ := h₁
  try simp only [at_at]
  refine goes_oper_k rfl rfl (by k_ne) (fun K hK => ?_)
  go_simp
  try simp only [alloc_at, at_heap] at hK ⊢
  refine hK _ _ ⟨?_, ?_⟩
  · intro x hx
    have hm := mem_listed hx
    simp [go_sem] at hm
  clear hK K
  try simp only [alloc_at, at_heap]
  try w_num
  refine Goes.step rfl (fun _ h₁ => ?_); obtain ⟨d, rfl⟩ := h₁
  try simp only [at_at]
  refine goes_oper_k rfl rfl (by k_ne) (fun K hK => ?_)
  go_simp
  try simp only [alloc_at, at_heap] at hK ⊢
  refine hK _ _ ⟨?_, ?_⟩
  · intro x hx
    have hm := mem_listed hx
    simp [go_sem] at hm
  clear hK K
  try simp only [alloc_at, at_heap]
  try w_num
  refine Goes.step rfl (fun _ h₁ => ?_); obtain ⟨d, rfl⟩ := h₁
  try simp only [at_at]
  refine goes_oper_k rfl rfl (by k_ne) (fun K hK => ?_)
  go_simp
  try simp only [alloc_at, at_heap] at hK ⊢
  refine hK _ _ ⟨?_, ?_⟩
  · intro x hx
    have hm := mem_listed hx
    simp [go_sem] at hm
  clear hK K
  try simp only [alloc_at, at_heap]
  try w_num
  refine Goes.step rfl (fun _ h₁ => ?_); obtain ⟨d, rfl⟩ := h₁
  try simp only [at_at]
  rw [stepG_unwanted rfl rfl]; simp only [goes_go]; refine ⟨nil_evs _, ?_⟩
  try walk_nrm
  refine Goes.step rfl (fun _ h₁ => ?_); obtain ⟨d, rfl⟩ := h₁
  try simp only [at_at]
  rw [stepG_unwanted rfl rfl]; simp only [goes_go]; refine ⟨nil_evs _, ?_⟩
  try walk_nrm
  refine Goes.step rfl (fun _ h₁ => ?_); obtain ⟨d, rfl⟩ := h₁
  try simp only [at_at]
  refine goes_oper_k rfl rfl (by k_ne) (fun K hK => ?_)
  go_simp
  try simp only [alloc_at, at_heap] at hK ⊢
  refine hK _ _ ⟨?_, ?_⟩
  · intro x hx
    have hm := mem_listed hx
    simp [go_sem] at hm
  clear hK K
  try simp only [alloc_at, at_heap]
  try w_num
  refine Goes.step rfl (fun _ h₁ => ?_); obtain ⟨d, rfl⟩ := h₁
  try simp only [at_at]
  rw [stepG_region_end]; simp only [goes_go]; refine ⟨nil_evs _, ?_⟩
  refine Goes.step rfl (fun _ h₁ => ?_); obtain ⟨d, rfl⟩ := h₁
  try simp only [at_at]
  rw [stepG_cond (t := false) rfl]; simp only [goes_go, if_true, if_false, Bool.false_eq_true, ↓reduceIte]; refine ⟨nil_evs _, ?_⟩
  refine Goes.step rfl (fun _ h₁ => ?_); obtain ⟨d, rfl⟩ := h₁
  try simp only [at_at]
  rw [stepG_skip]; simp only [goes_go]; refine ⟨nil_evs _, ?_⟩
  refine Goes.step rfl (fun _ h₁ => ?_); obtain ⟨d, rfl⟩ := h₁
  try simp only [at_at]
  rw [stepG_ret']; simp only [goes_go]; refine ⟨nil_evs _, ?_⟩
  refine Goes.step rfl (fun _ h₁ => ?_); obtain ⟨d, rfl⟩ := h₁
  try simp only [at_at]
  refine goes_leave0 rfl rfl Try.func71 rfl ⟨nil_evs _, ?_⟩
  walk_nrm
  refine Goes.step rfl (fun _ h₁ => ?_); obtain ⟨d, rfl⟩ := h₁
  try simp only [at_at]
  rw [stepG_region_end]; simp only [goes_go]; refine ⟨nil_evs _, ?_⟩
  refine Goes.step rfl (fun _ h₁ => ?_); obtain ⟨d, rfl⟩ := h₁
  try simp only [at_at]
  rw [stepG_seq]; simp only [goes_go]; refine ⟨nil_evs _, ?_⟩
  refine Goes.step rfl (fun _ h₁ => ?_); obtain ⟨d, rfl⟩ := h₁
  try simp only [at_at]
  rw [stepG_region]; simp only [goes_go, List.size_toArray, List.length_cons, List.length_nil, Nat.reduceAdd, Nat.zero_add, List.range, List.range.loop]; refine ⟨nil_evs _, ?_⟩
  refine Goes.step rfl (fun _ h₁ => ?_); obtain ⟨d, rfl⟩ := h₁
  try simp only [at_at]
  refine goes_oper_k rfl rfl (by k_ne) (fun K hK => ?_)
  have hc := cell_at_of hb4 d
  go_simp
  try simp only [hc]
  go_simp
  refine hK _ _ ⟨?_, ?_⟩
  · intro x hx
    have hm := mem_listed hx
    simp [go_sem, hc] at hm
    subst hm
    exact hE4
  clear hK K hc
  try w_num
  refine Goes.step rfl (fun _ h₁ => ?_); obtain ⟨d, rfl⟩ := h₁
  try simp only [at_at]
  refine goes_oper_k rfl rfl (by k_ne) (fun K hK => ?_)
  go_simp
  try simp only [alloc_at, at_heap] at hK ⊢
  refine hK _ _ ⟨?_, ?_⟩
  · intro x hx
    have hm := mem_listed hx
    simp [go_sem] at hm
  clear hK K
  try simp only [alloc_at, at_heap]
  try w_num
  refine Goes.step rfl (fun _ h₁ => ?_); obtain ⟨d, rfl⟩ := h₁
  try simp only [at_at]
  refine goes_oper_k rfl rfl (by k_ne) (fun K hK => ?_)
  go_simp
  try simp only [alloc_at, at_heap] at hK ⊢
  refine hK _ _ ⟨?_, ?_⟩
  · intro x hx
    have hm := mem_listed hx
    simp [go_sem] at hm
  clear hK K
  try simp only [alloc_at, at_heap]
  try w_num
  refine Goes.step rfl (fun _ h₁ => ?_); obtain ⟨d, rfl⟩ := h₁
  try simp only [at_at]
  rw [stepG_region_end]; simp only [goes_go]; refine ⟨nil_evs _, ?_⟩
  refine Goes.step rfl (fun _ h₁ => ?_); obtain ⟨d, rfl⟩ := h₁
  try simp only [at_at]
  rw [stepG_ret']; simp only [goes_go]; refine ⟨nil_evs _, ?_⟩
  refine Goes.step rfl (fun _ h₁ => ?_); obtain ⟨d, rfl⟩ := h₁
  try simp only [at_at]
  rw [stepG_leave (b := base 46) rfl rfl Try.func46 (results_tmp2 (t := 6) (u := 7) rfl _ _ _) (events_results_tmp2 (t := 6) (u := 7) rfl _ _)]; simp only [goes_go]; refine ⟨nil_evs _, ?_⟩
  exact Goes.stop (fun _ h₁ => by obtain ⟨d, rfl⟩ := h₁; exact ⟨rfl, _, rfl⟩)
end
end Go.Proofs.Ytcdnmnipaaooiaa
end
