import Derived.Conc.CrowdRun
import Derived.Test.YtcdnmnipaaooiaaKitC
import Derived.Conc.Beside
import Derived.Conc.CrowdMono
import Derived.Laws.MakeOwn
import Derived.Test.YtcdnmnipaaooiaaKitB
import Derived.Tactics
import Derived.Below
import Derived.Conc.Own4
-- Written by a program of this session (wip/tools/pack.py): texts of this seat laid one behind the other, without what the claim does not reach
section
namespace Go.Tw
open Go.Conc Go.ConcN
open Go.ConcR (KK wgBlock WgAt stA smA rd wr mk Payload Aside2 DC0 Bk bk_of_mute)
variable [Payload]
section
variable {P : Program} {ty : TypeId} {Wg C n : Nat} {Own Rd : Nat → Loc → Prop} {Lw : Nat → Nat} {val : Nat → Value} {vals : List Value} {AnchW : Goroutine → World → Prop} {Post : Value → World → Prop}
  {gs : Array Goroutine} {w : World} {j : Nat} {D : Nat → WD} {tag : CTag} {f0 d0 : Nat} {a : Goroutine} {t : Trace} {st sm : Int}
theorem bk_mk {m : Mark} (h : m = .disable ∨ m = .enable) : ∀ e ∈ #[mk m], Bk Wg e := by
  have _p : Payload := inferInstance
  intro e he
  simp only [Array.mem_singleton] at he
  subst he
  rcases h with rfl | rfl
  · exact .inl rfl
  · exact .inr (.inl rfl)
theorem bk_two : ∀ e ∈ #[rd (stA Wg), wr (stA Wg)], Bk Wg e := by
  have _p : Payload := inferInstance
  intro e he
  simp at he
  rcases he with rfl | rfl <;> exact bk_cell _ _ rfl
theorem bk_one : ∀ e ∈ #[rd (stA Wg)], Bk Wg e := by have _p : Payload := inferInstance; intro e he; simp at he; subst he; exact bk_cell _ _ rfl
theorem bk_onew : ∀ e ∈ #[wr (stA Wg)], Bk Wg e := by have _p : Payload := inferInstance; intro e he; simp at he; subst he; exact bk_cell _ _ rfl
/-- ████ A worker. ████ -/
theorem worker_ord (hn : n < 2147483648) (hb : j + pend tag ≤ n) (hcom : Com P ty Wg C n Own Rd Lw val j gs w t D d0) (hwg : WgAt ty Wg w st sm) (hmode : ConcN.Mode j D tag st sm) {i : Nat} (hi : i < j) {g : Goroutine} (hg : gs[i + 1]? = some g) (hrun : g.status = .running) :
    ∃ g' w' es, stepG P false g w = .go g' w' es ∧ (∀ fn pos, ∀ op ∈ MemOp.ofEvents (i + 1) fn pos es, OkW (ShN Wg) Own Rd (i + 1) op) ∧ (((D i).deaf = 0 ∧ ∀ e ∈ es, e.loc ≠ .mark .disable ∧ e.loc ≠ .mark .enable) ∨ ∀ e ∈ es, Bk Wg e) := by
  obtain ⟨g₁, hg₁, hs⟩ := hcom.wk i hi
  obtain rfl : g = g₁ := by rw [hg] at hg₁; exact Option.some.inj hg₁
  generalize hst : (D i).stage = s at hs
  generalize (D i).fuel = m at hs
  generalize hde : (D i).deaf = dd at hs ⊢
  have hVj := Vc_le j D
  have book : ∀ {g' : Goroutine} {w' : World} {es : Array Event}, stepG P false g w = .go g' w' es → (∀ e ∈ es, Bk Wg e) →
      ∃ g' w' es, stepG P false g w = .go g' w' es ∧ (∀ fn pos, ∀ op ∈ MemOp.ofEvents (i + 1) fn pos es, OkW (ShN Wg) Own Rd (i + 1) op) ∧ ((dd = 0 ∧ ∀ e ∈ es, e.loc ≠ .mark .disable ∧ e.loc ≠ .mark .enable) ∨ ∀ e ∈ es, Bk Wg e) :=
    fun h hbk => ⟨_, _, _, h, fun _ _ => okW_of_Bk hbk, .inr hbk⟩
  cases hs with
  | r0 h =>
    rcases Goes.cases h with hstop | ⟨m', rfl, hstep⟩
    · obtain ⟨_, _, g', hgo, _⟩ := hstop w (RW.refl w)
      refine ⟨g', w, _, hgo, fun _ _ => okW_none (by intro e he; simp at he; subst he; rfl), .inl ⟨rfl, by intro e he; simp at he; subst he; simp [mk]⟩⟩
    · obtain ⟨g', w', es, hgo, ⟨_, hev⟩, _⟩ := hstep w (RW.refl w)
      exact ⟨g', w', es, hgo, fun _ _ => okW_of_EvW hev, .inl ⟨rfl, fun e he => ⟨(hev e he).2.1, (hev e he).2.2.1⟩⟩⟩
  | k1 h =>
    rcases Goes.cases h with hstop | ⟨m', rfl, hstep⟩
    · obtain ⟨_, g', hgo, _⟩ := hstop w (RW.refl w)
      exact book hgo (bk_mk (.inl rfl))
    · obtain ⟨g', w', es, hgo, ⟨rfl, rfl⟩, _⟩ := hstep w (RW.refl w)
      exact book hgo (by simp)
  | d1 h =>
    rcases Goes.cases h with hstop | ⟨m', rfl, hstep⟩
    · obtain ⟨_, hall⟩ := hstop w (RW.refl w)
      have hc1 : cnt (D i) = 1 := by simp [cnt, hst]
      have hV1 : 1 ≤ Vc j D := by have := le_sumTo (f := fun x => cnt (D x)) hi; simp only [Vc]; omega
      cases hmode with
      | opn h1 h2 h3 =>
        obtain ⟨v, hv⟩ : ∃ v, Vc j D + pend tag = v + 1 := ⟨Vc j D + pend tag - 1, by omega⟩
        rw [hv] at hwg
        obtain ⟨g', hgo, _⟩ := hall v 0 (by omega) (by omega) (by simpa using hwg)
        exact book hgo bk_two
      | reg h1 h2 h3 =>
        obtain ⟨v, hv⟩ : ∃ v, Vc j D = v + 1 := ⟨Vc j D - 1, by omega⟩
        rw [hv] at hwg
        obtain ⟨g', hgo, _⟩ := hall v 1 (by omega) (by omega) (by simpa using hwg)
        exact book hgo bk_two
      | last L h1 h2 h3 h4 =>
        by_cases e : i = L
        · subst e; omega
        · have := h4 i hi e; omega
      | sema h2 => have := h2 i hi; omega
      | fin _ h2 => have := h2 i hi; omega
    · obtain ⟨g', w', es, hgo, ⟨rfl, rfl⟩, _⟩ := hstep w (RW.refl w)
      exact book hgo (by simp)
  | d2 h =>
    rcases Goes.cases h with hstop | ⟨m', rfl, hstep⟩
    · obtain ⟨_, hall⟩ := hstop w (RW.refl w)
      obtain ⟨_, _, rfl, rfl⟩ := hmode.isLast hi (by omega)
      obtain ⟨g', hgo, _⟩ := hall (by simpa [hst] using hwg)
      exact book hgo bk_one
    · obtain ⟨g', w', es, hgo, ⟨rfl, rfl⟩, _⟩ := hstep w (RW.refl w)
      exact book hgo (by simp)
  | d3 h =>
    rcases Goes.cases h with hstop | ⟨m', rfl, hstep⟩
    · obtain ⟨_, hall⟩ := hstop w (RW.refl w)
      obtain ⟨_, _, rfl, rfl⟩ := hmode.isLast hi (by omega)
      obtain ⟨g', hgo, _⟩ := hall (by simpa [hst] using hwg)
      exact book hgo bk_onew
    · obtain ⟨g', w', es, hgo, ⟨rfl, rfl⟩, _⟩ := hstep w (RW.refl w)
      exact book hgo (by simp)
  | d4 h =>
    rcases Goes.cases h with hstop | ⟨m', rfl, hstep⟩
    · obtain ⟨_, _, hall⟩ := hstop w (RW.refl w)
      obtain ⟨_, _, rfl, rfl⟩ := hmode.isLast hi (by omega)
      obtain ⟨g', hgo, _⟩ := hall (by simpa [hst] using hwg)
      exact book hgo bk_sem
    · obtain ⟨g', w', es, hgo, ⟨rfl, rfl⟩, _⟩ := hstep w (RW.refl w)
      exact book hgo (by simp)
  | quit h =>
    cases m with
    | zero => rw [h.1] at hrun; cases hrun
    | succ q =>
      rcases h with ⟨hf, _⟩ | ⟨_, g', es, hm, hst', _⟩
      · rw [hf] at hrun; cases hrun
      · exact book (hst' w) (fun e he => bk_of_mute (hm e he))
/-- ████ The starter. ████ -/
theorem caller_ord (hn : n < 2147483648) (hAn : ∀ g w, AnchW g w → ∃ m, Goes P true (RC ty Wg C) (DP Wg Own Rd n (Lw n)) (AtW1 P ty Wg C n Own Rd (Lw n) vals AnchW Post) m g w)
    (hl : vals.length = n) (hv : ∀ i, i < n → vals[i]? = some (val i))
    (hcs : CSit P ty Wg C n Own Rd Lw val vals AnchW Post tag j f0 d0 a w) (hcom : Com P ty Wg C n Own Rd Lw val j gs w t D d0) (hwg : WgAt ty Wg w st sm) (hmode : ConcN.Mode j D tag st sm) (hrun : a.status = .running) :
    (∃ a' w' es, stepG P true a w = .go a' w' es ∧ (∀ fn pos, ∀ op ∈ MemOp.ofEvents 0 fn pos es, Ok0 (ShN Wg) Own Rd j op)) ∨
    (d0 = 0 ∧ ∃ a' child, stepG P true a w = .spawn a' child w #[]) ∨
    (tag = .ret ∧ j = n ∧ ∃ v es, stepG P true a w = .ended (.done v) w es ∧ AllQuit j D ∧ Full C vals w ∧ Post v w) := by
  have hVj := Vc_le j D
  have idle : ∀ {j' : Nat} {a' : Goroutine} {w' : World} {es : Array Event}, j' = j → stepG P true a w = .go a' w' es → DP Wg Own Rd j' (Lw j') w w' es →
      (∃ a' w' es, stepG P true a w = .go a' w' es ∧ (∀ fn pos, ∀ op ∈ MemOp.ofEvents 0 fn pos es, Ok0 (ShN Wg) Own Rd j op)) ∨ (d0 = 0 ∧ ∃ a' child, stepG P true a w = .spawn a' child w #[]) ∨
      (tag = .ret ∧ j = n ∧ ∃ v es, stepG P true a w = .ended (.done v) w es ∧ AllQuit j D ∧ Full C vals w ∧ Post v w) := by
    intro j' a' w' es e h hD
    subst e
    exact .inl ⟨_, _, _, h, fun _ _ => ok0_of_Ev0 hD.2⟩
  have book : ∀ {a' : Goroutine} {w' : World} {es : Array Event}, stepG P true a w = .go a' w' es → (∀ e ∈ es, Bk Wg e) →
      (∃ a' w' es, stepG P true a w = .go a' w' es ∧ (∀ fn pos, ∀ op ∈ MemOp.ofEvents 0 fn pos es, Ok0 (ShN Wg) Own Rd j op)) ∨ (d0 = 0 ∧ ∃ a' child, stepG P true a w = .spawn a' child w #[]) ∨
      (tag = .ret ∧ j = n ∧ ∃ v es, stepG P true a w = .ended (.done v) w es ∧ AllQuit j D ∧ Full C vals w ∧ Post v w) :=
    fun h hbk => .inl ⟨_, _, _, h, fun _ _ => ok0_of_Bk hbk⟩
  have w1 : ∀ {m : Nat}, j = n → isOpen tag → pend tag = 0 → Goes P true (RC ty Wg C) (DP Wg Own Rd n (Lw n)) (AtW1 P ty Wg C n Own Rd (Lw n) vals AnchW Post) m a w →
      (∃ a' w' es, stepG P true a w = .go a' w' es ∧ (∀ fn pos, ∀ op ∈ MemOp.ofEvents 0 fn pos es, Ok0 (ShN Wg) Own Rd j op)) ∨ (d0 = 0 ∧ ∃ a' child, stepG P true a w = .spawn a' child w #[]) ∨
      (tag = .ret ∧ j = n ∧ ∃ v es, stepG P true a w = .ended (.done v) w es ∧ AllQuit j D ∧ Full C vals w ∧ Post v w) := by
    intro m hj ho hp h
    subst hj
    rcases Goes.cases h with hstop | ⟨m', rfl, hstep⟩
    · obtain ⟨_, hall⟩ := hstop w (.refl w)
      cases hmode with
      | opn _ _ _ =>
        obtain ⟨a', hgo, _⟩ := hall (Vc j D) (by omega) (by simpa [hp] using hwg)
        exact book hgo bk_one
      | reg h1 _ _ => cases tag <;> first | exact ho.elim | exact h1.elim
      | last L h1 _ _ _ => cases tag <;> first | exact ho.elim | exact h1.elim
      | sema _ => exact ho.elim
      | fin h1 _ => cases tag <;> first | exact ho.elim | exact h1.elim
    · obtain ⟨a', w', es, hgo, hD, _⟩ := hstep w (.refl w)
      exact idle rfl hgo hD
  cases hcs with
  | skd hr h =>
    rcases Goes.cases h with hstop | ⟨m', rfl, hstep⟩
    · obtain ⟨_, a', hgo, _⟩ := hstop w (.refl w)
      exact book hgo (bk_mk (.inl rfl))
    · obtain ⟨a', w', es, hgo, hD, _⟩ := hstep w (.refl w)
      exact idle rfl hgo hD
  | sa1 hr h =>
    rename_i r
    rcases Goes.cases h with hstop | ⟨m', rfl, hstep⟩
    · obtain ⟨_, hall⟩ := hstop w (.refl w)
      cases hmode with
      | opn _ _ _ =>
        obtain ⟨a', hgo, _⟩ := hall (Vc (n - (r + 1)) D) (by omega) (by simpa [pend] using hwg)
        exact book hgo bk_two
      | reg h1 _ _ => exact h1.elim
      | last L h1 _ _ _ => exact h1.elim
      | fin h1 _ => exact h1.elim
    · obtain ⟨a', w', es, hgo, hD, _⟩ := hstep w (.refl w)
      exact idle rfl hgo hD
  | ske hr h =>
    rcases Goes.cases h with hstop | ⟨m', rfl, hstep⟩
    · obtain ⟨_, a', hgo, _⟩ := hstop w (.refl w)
      exact book hgo (bk_mk (.inr rfl))
    · obtain ⟨a', w', es, hgo, hD, _⟩ := hstep w (.refl w)
      exact idle rfl hgo hD
  | sgo hr h =>
    rcases Goes.cases h with hstop | ⟨m', rfl, hstep⟩
    · obtain ⟨_, a', child, hsp, _⟩ := hstop w (.refl w)
      exact .inr (.inl ⟨rfl, a', child, hsp⟩)
    · obtain ⟨a', w', es, hgo, hD, _⟩ := hstep w (.refl w)
      exact idle rfl hgo hD
  | kd h =>
    rcases Goes.cases h with hstop | ⟨m', rfl, hstep⟩
    · obtain ⟨_, a', hgo, _⟩ := hstop w (.refl w)
      exact book hgo (bk_mk (.inl rfl))
    · obtain ⟨a', w', es, hgo, hD, _⟩ := hstep w (.refl w)
      exact idle rfl hgo hD
  | anch h =>
    rcases Goes.cases h with hstop | ⟨m', rfl, hstep⟩
    · obtain ⟨m, hm⟩ := hAn a w (hstop w (.refl w))
      exact w1 rfl trivial rfl hm
    · obtain ⟨a', w', es, hgo, hD, _⟩ := hstep w (.refl w)
      exact idle rfl hgo hD
  | w1 h => exact w1 rfl trivial rfl h
  | w2 h =>
    rename_i vs
    rcases Goes.cases h with hstop | ⟨m', rfl, hstep⟩
    · obtain ⟨_, hall⟩ := hstop w (.refl w)
      cases hmode with
      | opn _ _ _ =>
        obtain ⟨hhit, hmiss⟩ := hall (Vc n D) (by omega) (by simpa [pend] using hwg)
        by_cases e : Vc n D = vs
        · obtain ⟨a', hgo, _⟩ := hhit e
          exact book hgo bk_two
        · obtain ⟨a', hgo, _⟩ := hmiss e
          exact book hgo bk_one
      | reg h1 _ _ => exact h1.elim
      | last L h1 _ _ _ => exact h1.elim
      | fin h1 _ => exact h1.elim
    · obtain ⟨a', w', es, hgo, hD, _⟩ := hstep w (.refl w)
      exact idle rfl hgo hD
  | w3 h =>
    rcases Goes.cases h with hstop | ⟨m', rfl, hstep⟩
    · obtain ⟨_, _, hbl, hup⟩ := hstop w (.refl w)
      cases hmode with
      | opn h1 _ _ => exact h1.elim
      | reg _ _ _ => exact book (hbl ⟨_, hwg⟩) (by simp)
      | last L _ _ _ _ => exact book (hbl ⟨_, hwg⟩) (by simp)
      | sema _ => obtain ⟨a', hgo, _⟩ := hup hwg; exact book hgo bk_sem
      | fin h1 _ => exact h1.elim
    · obtain ⟨a', w', es, hgo, hD, _⟩ := hstep w (.refl w)
      exact idle rfl hgo hD
  | blk h => cases hrun
  | w4 h =>
    rcases Goes.cases h with hstop | ⟨m', rfl, hstep⟩
    · obtain ⟨_, hall⟩ := hstop w (.refl w)
      obtain ⟨_, rfl, rfl⟩ := hmode.fin_inv trivial
      obtain ⟨a', hgo, _⟩ := hall hwg
      exact book hgo bk_one
    · obtain ⟨a', w', es, hgo, hD, _⟩ := hstep w (.refl w)
      exact idle rfl hgo hD
  | ke h =>
    rcases Goes.cases h with hstop | ⟨m', rfl, hstep⟩
    · obtain ⟨_, a', hgo, _⟩ := hstop w (.refl w)
      exact book hgo (bk_mk (.inr rfl))
    · obtain ⟨a', w', es, hgo, hD, _⟩ := hstep w (.refl w)
      exact idle rfl hgo hD
  | acq h =>
    rcases Goes.cases h with hstop | ⟨m', rfl, hstep⟩
    · obtain ⟨_, a', hgo, _⟩ := hstop w (.refl w)
      exact .inl ⟨_, _, _, hgo, fun _ _ => ok0_none (by intro e he; simp at he; subst he; rfl)⟩
    · obtain ⟨a', w', es, hgo, hD, _⟩ := hstep w (.refl w)
      exact idle rfl hgo hD
  | ret h =>
    rcases Goes.cases h with hstop | ⟨m', rfl, hstep⟩
    · obtain ⟨_, hx⟩ := hstop w (.refl w)
      obtain ⟨hq, rfl, rfl⟩ := hmode.fin_inv trivial
      have hfull := full_of hl hv hcom.pay fun i hi => hcom.has i hi (by rw [hq i hi]; omega)
      obtain ⟨v, es, hend, _, hpost⟩ := hx hfull
      exact .inr (.inr ⟨rfl, rfl, v, es, hend, hq, hfull, hpost⟩)
    · obtain ⟨a', w', es, hgo, hD, _⟩ := hstep w (.refl w)
      exact idle rfl hgo hD
end
end Go.Tw
end

section
namespace Go.Tw
open Go.Conc Go.ConcN
open Go.ConcR (KK wgBlock WgAt stA smA rd wr mk Payload Aside2 DC0 Bk)
section
variable {P : Program} {w : World}
def boxed (w : World) (v : Value) : World := { w with heap := w.heap.push (.cells v.cells 0) }
def boxedAt (w : World) : Value := .pointer (some ⟨w.heap.size, 0, none⟩)
theorem sink_box (v : Value) : stepG P true (G ((Sink P).finish v) [Bed P]) w = .go (G { Sink P with tmps := #[v, boxedAt w], todo := [.inRegion sinkOps [2]] } [Bed P]) (boxed w v) #[] := by
  let fr : Frame := { Sink P with tmps := #[v, undef], todo := [.inRegion sinkOps [1, 2]] }
  have e : (Sink P).finish v = fr := rfl
  let o : Oper := { dst := some 1, op := .box 0 (.tmp 0), type := 0, pos := "", after := #[], guard := none }
  have hr : (execOp fr.eval o).runT P w #[] = (.ok (.value (boxedAt w)) (boxed w v), #[]) := rfl
  have h1 : stepG P true (G fr [Bed P]) w = stepG.apply P true fr [Bed P] none (execOp fr.eval o) w := rfl
  have hs : seen P fr.fn #[] = #[] := rfl
  have hk : (fr.kind == CallKind.early) = false := rfl
  have hf : fr.finish (boxedAt w) = { Sink P with tmps := #[v, boxedAt w], todo := [.inRegion sinkOps [2]] } := rfl
  rw [e, h1]
  simp only [stepG.apply, hr, if_true, hk, Bool.false_eq_true, if_false, hs, GStep.after, hf, Array.append_empty]
  rfl
theorem sink_part (v u : Value) : (∃ vs x, v = .tuple vs ∧ stepG P true (G { Sink P with tmps := #[v, u], todo := [.inRegion sinkOps [2]] } [Bed P]) w = .go (G { Sink P with tmps := #[v, x], todo := [.inRegion sinkOps []] } [Bed P]) w #[]) ∨
    ∃ o es, stepG P true (G { Sink P with tmps := #[v, u], todo := [.inRegion sinkOps [2]] } [Bed P]) w = .ended o w es ∧ ¬ Done? o := by
  let fr : Frame := { Sink P with tmps := #[v, u], todo := [.inRegion sinkOps [2]] }
  let o : Oper := { dst := some 1, op := .extract (.tmp 0) 0, type := 0, pos := "", after := #[], guard := none }
  have h1 : stepG P true (G fr [Bed P]) w = stepG.apply P true fr [Bed P] none (execOp fr.eval o) w := rfl
  have hs : seen P fr.fn #[] = #[] := rfl
  have hk : (fr.kind == CallKind.early) = false := rfl
  have hv : fr.eval (.tmp 0) = v := rfl
  have e : (execOp fr.eval o).runT P w #[] = (Instr.extract v 0 >>= fun v => Pure.pure (Next.value v)).runT P w #[] := rfl
  have bad : ∀ m, (Instr.extract v 0) = Go.stuck m → ∃ o es, stepG P true (G fr [Bed P]) w = .ended o w es ∧ ¬ Done? o := by
    intro m hm
    have hr : (execOp fr.eval o).runT P w #[] = (.halt (.stuck m) w, #[]) := by rw [e, hm]; rfl
    refine ⟨.stuck m (fr.pos P), #[], ?_, fun h => h⟩
    rw [h1]
    simp only [stepG.apply, hr, if_true, hk, Bool.false_eq_true, if_false, hs, GStep.after]
    rfl
  cases v with
  | tuple vs =>
    cases hx : vs[0]? with
    | none => exact .inr (bad "Extract: no such component" (by unfold Instr.extract; simp only [hx]))
    | some x =>
      have hr : (execOp fr.eval o).runT P w #[] = (.ok (.value x) w, #[]) := by
        rw [e]
        unfold Instr.extract
        simp only [hx]
        rfl
      refine .inl ⟨vs, x, rfl, ?_⟩
      rw [show (G { Sink P with tmps := #[.tuple vs, u], todo := [.inRegion sinkOps [2]] } [Bed P]) = G fr [Bed P] from rfl, h1]
      simp only [stepG.apply, hr, if_true, hk, Bool.false_eq_true, if_false, hs, GStep.after, Array.append_empty]
      rfl
  | _ => exact .inr (bad "Extract: tuple expected" rfl)
theorem sink_end (v : Value) (u : Value) : stepG P true (G { Sink P with tmps := #[v, u], todo := [.inRegion sinkOps []] } [Bed P]) w = .go (G { Sink P with tmps := #[v, u], todo := [] } [Bed P]) w #[] := by
  simp [G, stepG, stepG.exec, Sink]
theorem sink_done (v : Value) (u : Value) : stepG P true (G { Sink P with tmps := #[v, u], todo := [] } [Bed P]) w = .go (G { Sink P with tmps := #[v, u], todo := [], mode := .returning } [Bed P]) w #[] := by
  simp [G, stepG, stepG.exec, Sink]
theorem sink_back (v : Value) (u : Value) : stepG P true (G { Sink P with tmps := #[v, u], todo := [], mode := .returning } [Bed P]) w = .go (G { Bed P with mode := .returning } []) w #[] := by
  simp [G, stepG, unwind, Sink, doReturn, Bed]
theorem bed_end (hi : P.inits.idxOf? P.funcs.size = none) : stepG P true (G { Bed P with mode := .returning } []) w = .ended (.done undef) w #[] := by
  simp [G, stepG, unwind, doReturn, Bed, hi]
theorem sink_falls (ch : List PanicEntry) : stepG P true (G ((Sink P).raise ch) [Bed P]) w = .go (G ((Bed P).raise ch) []) w #[] := by
  simp [G, stepG, unwind, Sink, Frame.raise, Frame.catches]
theorem bed_falls (ch : List PanicEntry) : ∃ o es, stepG P true (G ((Bed P).raise ch) []) w = .ended o w es ∧ ¬ Done? o := by
  have hc : ((Bed P).raise ch).catches P = true := by
    unfold Frame.catches Frame.raise Bed
    simp only [Array.getElem?_eq_none (Nat.le_refl _)]
    decide +kernel
  have e : (Bed P).raise ch = { Bed P with mode := .panicking (ch ++ [{ v := undef, recovered := true }]) } := rfl
  have hs : stepG P true (G ((Bed P).raise ch) []) w = .ended (.unsupported (.noEntry "a panic or Goexit out of a method that fmt calls behind a cut's door") (((Bed P).raise ch).pos P)) w #[] := by
    rw [e] at hc ⊢
    simp only [G, stepG, unwind, Bed] at hc ⊢
    exact if_pos hc
  exact ⟨_, _, hs, fun h => h⟩
theorem writeOn_lost (fr : Frame) (d : Dying) (f : Fatal) (hc : d.calling = false) (w : World) : Lost P (writeOn P fr d f w) := by
  unfold writeOn
  dsimp only
  split
  · exact lost_ended fun h => h
  · split
    · exact .inl ⟨_, _, _, rfl, .fatal rfl hc⟩
    · exact .inl ⟨_, _, _, rfl, .fatal rfl hc⟩
    · exact lost_ended fun h => h
    · exact lost_ended fun h => h
theorem doom_step {a : Goroutine} (h : Doom P a) (hr : a.status = .running) (w : World) : Lost P (stepG P true a w) := by
  cases h with
  | @fatal fr st d hf hc =>
    obtain ⟨f, hf⟩ := Option.isSome_iff_exists.1 hf
    have e : stepG P true { frame := fr, callers := [], status := st, dying := some d } w = writeOn P fr d f w := by
      obtain ⟨todo, texts, calling, pending, re, hand, fatal⟩ := d
      simp only at hf hc
      subst hf hc
      simp only [stepG, die]
    rw [e]
    exact writeOn_lost fr d f hc w
  | sink ch => exact .inl ⟨_, _, _, sink_falls ch, .bed ch⟩
  | bed ch =>
    obtain ⟨o, es, h1, h2⟩ := bed_falls (P := P) (w := w) ch
    exact .inr ⟨o, w, es, h1, h2⟩
  | waits => cases hr
theorem doom_again {a : Goroutine} (h : Doom P a) (hw : a.status ≠ .waiting) (w : World) : Doom P (a.again w) := by
  cases h with
  | @fatal fr st d hf hc =>
    unfold Goroutine.again
    split
    · rename_i h; cases h
    · exact .fatal hf hc
    · exact .fatal hf hc
    · exact .fatal hf hc
  | sink ch => exact .sink ch
  | bed ch => exact .bed ch
  | waits => exact absurd rfl hw
theorem doom_woken {a g g' : Goroutine} (h : Doom P a) (hw : a.status ≠ .waiting) (w : World) : Doom P (woken P g g' w a) := by
  unfold woken
  split
  · exact doom_again h hw w
  · exact h
end
variable [Payload]
/-- What a phase's data must be like. -/
structure Rules (P : Program) (ty : TypeId) (Wg C n : Nat) (Own Rd : Nat → Loc → Prop) (Lw : Nat → Nat) (val : Nat → Value) (vals : List Value) (AnchW : Goroutine → World → Prop) (Post : Value → World → Prop) : Prop where
  apart : Apart (ShN Wg) Own Rd
  geo : Geo Wg C Lw
  few : n < 2147483648
  runs : ∀ g w, AnchW g w → g.status = .running
  round : ∀ g w, AnchW g w → ∃ m, Goes P true (RC ty Wg C) (DP Wg Own Rd n (Lw n)) (AtW1 P ty Wg C n Own Rd (Lw n) vals AnchW Post) m g w
  len : vals.length = n
  get : ∀ i, i < n → vals[i]? = some (val i)
section
variable {P : Program} {ty : TypeId} {Wg C n : Nat} {Own Rd : Nat → Loc → Prop} {Lw : Nat → Nat} {val : Nat → Value} {vals : List Value} {AnchW : Goroutine → World → Prop} {Post : Value → World → Prop}
theorem inv_status (R : Rules P ty Wg C n Own Rd Lw val vals AnchW Post) {μ : Nat × Nat} {m : Machine} {t : Trace} (h : (Inv P ty Wg C n Own Rd Lw val vals AnchW Post) μ m t) {a : Goroutine} (ha : m.gs[0]? = some a) : a.status = .running ∨ a.status = .blocked := by
  obtain ⟨gs, w, sl, j, D, tag, f0, d0, a', st, sm, rfl, ha', hcs, _⟩ := h
  have : a = a' := by rw [show (crowd gs w sl).gs = gs from rfl, ha'] at ha; exact (Option.some.inj ha).symm
  subst this
  exact (hcs.status R.runs).imp (·.1) (·.1)
theorem no_doom (R : Rules P ty Wg C n Own Rd Lw val vals AnchW Post) : ∀ μ m t, (Inv P ty Wg C n Own Rd Lw val vals AnchW Post) μ m t → ∀ a, m.gs[0]? = some a → ¬ Doom P a := by
  intro μ
  refine (Prod.lex Nat.lt_wfRel Nat.lt_wfRel).wf.induction (C := fun μ => ∀ m t, (Inv P ty Wg C n Own Rd Lw val vals AnchW Post) μ m t → ∀ a, m.gs[0]? = some a → ¬ Doom P a) μ ?_
  intro μ ih m t hI a ha hd
  have hst := inv_status R hI ha
  have hnw : a.status ≠ .waiting := by rcases hst with h | h <;> rw [h] <;> simp
  obtain ⟨gs, w, sl, j, D, tag, f0, d0, a', st, sm, rfl, ha', hcs, hcom, hwg, hmode, hacq, rfl⟩ := hI
  have : a = a' := by rw [show (crowd gs w sl).gs = gs from rfl, ha'] at ha; exact (Option.some.inj ha).symm
  subst this
  obtain ⟨i, g, d, sl', hg, hrun, _⟩ := crowd_pick (P := P) (w := w) (sl := sl) (all_awake R.runs ha' hcs hcom) (someone_runs R.runs ha' hcs hcom hmode)
  cases i with
  | zero =>
    rw [ha'] at hg; cases hg
    have hL := doom_step hd hrun w
    rcases stepCaller (sl := sl) R.apart R.geo R.few R.round R.len R.get ha' hcs hcom hwg hmode hacq hrun with ⟨o, w₁, ops, h1, h2⟩ | ⟨m₁, ops, μ', h1, h2, h3⟩
    · obtain ⟨v, rfl, _⟩ := h2 w sl
      rcases hL with ⟨g, w', es, h4, _⟩ | ⟨o, w', es, h4, h5⟩
      · rw [runT_crowd_go (P := P) (sl := sl) (i := 0) ha' (by simpa using h4)] at h1; cases h1
      · rw [runT_crowd_ended (P := P) (sl := sl) (i := 0) ha' (by simpa using h4)] at h1
        simp only [Prod.mk.injEq, Stepped.ended.injEq] at h1
        exact h5 (by rw [h1.1.1]; trivial)
    · rcases hL with ⟨g, w', es, h4, h5⟩ | ⟨o, w', es, h4, h5⟩
      · rw [runT_crowd_go (P := P) (sl := sl) (i := 0) ha' (by simpa using h4)] at h1
        simp only [Prod.mk.injEq, Stepped.next.injEq] at h1
        obtain ⟨rfl, rfl⟩ := h1
        exact ih _ h2 _ _ h3 g (by show ((gs.map _).setIfInBounds 0 g)[0]? = _; exact get_map_set_same _ _ _ (by rw [hcom.size]; omega)) h5
      · rw [runT_crowd_ended (P := P) (sl := sl) (i := 0) ha' (by simpa using h4)] at h1; cases h1
  | succ i =>
    have hi : i < j := by have := (Array.getElem?_eq_some_iff.1 hg).1; rw [hcom.size] at this; omega
    obtain ⟨g', w', es, hgo, _⟩ := worker_ord R.few hcs.bound hcom hwg hmode hi hg hrun
    obtain ⟨m₁, ops, μ', h1, h2, h3⟩ := stepWorker (sl := sl) R.apart R.geo R.runs R.few ha' hcs hcom hwg hmode hacq hi hg hrun
    rw [runT_crowd_go (P := P) (sl := sl) (i := i + 1) hg (by simpa using hgo)] at h1
    simp only [Prod.mk.injEq, Stepped.next.injEq] at h1
    obtain ⟨rfl, rfl⟩ := h1
    refine ih _ h2 _ _ h3 (woken P g g' w' a) ?_ (doom_woken hd hnw w')
    show ((gs.map _).setIfInBounds (i + 1) g')[0]? = _
    rw [get_map_set _ _ _ _ (by omega), ha']
    rfl
theorem crowd_inj {gs gs' : Array Goroutine} {w w' : World} {sl sl' : Option (Nat × Nat)} (h : crowd gs w sl = crowd gs' w' sl') : gs = gs' ∧ w = w' ∧ sl = sl' := by
  have _p : Payload := inferInstance
  simp only [crowd, Machine.mk.injEq, Rest.mk.injEq] at h
  exact ⟨h.2.1, h.1, h.2.2.2.2.1⟩
theorem ofEvents_nil (g : Nat) (fn : FuncId) (pos : String) : MemOp.ofEvents g fn pos #[] = #[] := by have _p : Payload := inferInstance; simp [MemOp.ofEvents]
/-- A step of the starter's that lists nothing. -/
theorem still (R : Rules P ty Wg C n Own Rd Lw val vals AnchW Post) {gs : Array Goroutine} {w : World} {sl : Option (Nat × Nat)} {t : Trace} {μ : Nat × Nat} {a a' : Goroutine} (hI : (Inv P ty Wg C n Own Rd Lw val vals AnchW Post) μ (crowd gs w sl) t) (ha : gs[0]? = some a) (hrun : a.status = .running) {w' : World} (hgo : stepG P true a w = .go a' w' #[]) :
    ∃ μ' gs', (Inv P ty Wg C n Own Rd Lw val vals AnchW Post) μ' (crowd gs' w' sl) t ∧ gs'[0]? = some a' ∧ gs'.size = gs.size ∧ ∀ i, gs'[i + 1]? = gs[i + 1]? := by
  obtain ⟨gs₀, w₀, sl₀, j, D, tag, f0, d0, a₀, st, sm, he, ha', hcs, hcom, hwg, hmode, hacq, rfl⟩ := hI
  obtain ⟨rfl, rfl, rfl⟩ := crowd_inj he
  rw [ha] at ha'; cases ha'
  have hr := runT_crowd_go (P := P) (sl := sl) (i := 0) ha (show stepG P (0 == 0) a w = .go a' w' #[] from hgo)
  rw [ofEvents_nil] at hr
  rcases stepCaller (sl := sl) R.apart R.geo R.few R.round R.len R.get ha hcs hcom hwg hmode hacq hrun with ⟨o, w₁, ops, h1, _⟩ | ⟨m₁, ops, μ', h1, _, h3⟩
  · rw [hr] at h1; cases h1
  · rw [hr] at h1
    simp only [Prod.mk.injEq, Stepped.next.injEq] at h1
    obtain ⟨rfl, rfl⟩ := h1
    rw [Array.append_empty] at h3
    refine ⟨μ', _, h3, get_map_set_same _ _ _ (by rw [hcom.size]; omega), by simp, fun i => ?_⟩
    rw [get_map_set _ _ _ _ (by omega)]
    cases hg : gs[i + 1]? with
    | none => rfl
    | some g =>
      have hi : i < j := by have := (Array.getElem?_eq_some_iff.1 hg).1; rw [hcom.size] at this; omega
      obtain ⟨g', hg', hs⟩ := hcom.wk i hi
      rw [hg] at hg'; cases hg'
      rw [Option.map_some, hs.woken]
/-- ████ Where the starter comes back. ████ -/
theorem sink_facts (R : Rules P ty Wg C n Own Rd Lw val vals AnchW Post) (hi : P.inits.idxOf? P.funcs.size = none) {gs : Array Goroutine} {w : World} {sl : Option (Nat × Nat)} {t : Trace} {μ : Nat × Nat} {v : Value}
    (hI : (Inv P ty Wg C n Own Rd Lw val vals AnchW Post) μ (crowd gs w sl) t) (ha : gs[0]? = some (G ((Sink P).finish v) [Bed P])) :
    gs.size = n + 1 ∧ (∀ i, i < n → ∃ g q, gs[i + 1]? = some g ∧ QuitsD P q (Deaf t (i + 1)) g) ∧ AcqAll Wg n t ∧ NoRelease (stA Wg) t ∧ CT (ShN Wg) Own Rd t n ∧ Deaf t 0 = 0 ∧ Full C vals (boxed w v) ∧ Post undef (boxed w v) ∧ ∃ vs, v = .tuple vs := by
  obtain ⟨_, gsA, hIA, haA, hsA, hoA⟩ := still R hI ha rfl (sink_box v)
  obtain ⟨vs, x, hvs, hpart⟩ : ∃ vs x, v = .tuple vs ∧ stepG P true (G { Sink P with tmps := #[v, boxedAt w], todo := [.inRegion sinkOps [2]] } [Bed P]) (boxed w v) = .go (G { Sink P with tmps := #[v, x], todo := [.inRegion sinkOps []] } [Bed P]) (boxed w v) #[] := by
    rcases sink_part (P := P) (w := boxed w v) v (boxedAt w) with h | ⟨o, es, hend, hnd⟩
    · exact h
    · exfalso
      obtain ⟨gs₀, w₀, sl₀, j, D, tag, f0, d0, a₀, st, sm, he, ha', hcs, hcom, hwg, hmode, hacq, rfl⟩ := hIA
      obtain ⟨rfl, rfl, rfl⟩ := crowd_inj he
      rw [haA] at ha'; cases ha'
      rcases caller_ord R.few R.round R.len R.get hcs hcom hwg hmode rfl with ⟨a', w', es, h1, _⟩ | ⟨_, a', child, h1⟩ | ⟨rfl, rfl, v', es, h1, _⟩
      · rw [hend] at h1; cases h1
      · rw [hend] at h1; cases h1
      · rw [hend] at h1
        simp only [GStep.ended.injEq] at h1
        exact hnd (by rw [h1.1]; trivial)
  obtain ⟨_, gsE, hIE, haE, hsE, hoE⟩ := still R hIA haA rfl hpart
  obtain ⟨_, gsB, hIB, haB, hsB, hoB⟩ := still R hIE haE rfl (sink_end v _)
  obtain ⟨μ1, gs1, hI1, ha1, hs1, ho1⟩ := still R hIB haB rfl (sink_done v _)
  obtain ⟨μ2, gs2, hI2, ha2, hs2, ho2⟩ := still R hI1 ha1 rfl (sink_back v _)
  obtain ⟨gs₀, w₀, sl₀, j, D, tag, f0, d0, a₀, st, sm, he, ha', hcs, hcom, hwg, hmode, hacq, rfl⟩ := hI2
  obtain ⟨rfl, rfl, rfl⟩ := crowd_inj he
  rw [ha2] at ha'; cases ha'
  have hend := bed_end (P := P) (w := boxed w v) hi
  rcases caller_ord R.few R.round R.len R.get hcs hcom hwg hmode rfl with ⟨a', w', es, h1, _⟩ | ⟨_, a', child, h1⟩ | ⟨rfl, rfl, v', es, h1, hq, hf, hp⟩
  · rw [hend] at h1; cases h1
  · rw [hend] at h1; cases h1
  rw [hend] at h1
  simp only [GStep.ended.injEq, Outcome.done.injEq] at h1
  obtain ⟨rfl, _, _⟩ := h1
  have hd0 : d0 = 0 := by cases hcs; rfl
  refine ⟨by rw [← hsA, ← hsE, ← hsB, ← hs1, ← hs2]; exact hcom.size, fun i hi => ?_, hacq rfl, hcom.norel, hcom.ct, by rw [hcom.deaf0, hd0], hf, hp, vs, hvs⟩
  obtain ⟨g, hg, hs⟩ := hcom.wk i hi
  refine ⟨g, (D i).fuel, by rw [← hoA, ← hoE, ← hoB, ← ho1, ← ho2]; exact hg, ?_⟩
  rw [hcom.deafW i hi]
  exact hs.quits (hq i hi)
end
end Go.Tw
end

section
namespace Go.Tw
open Go.Conc Go.ConcN
open Go.ConcR (KK wgBlock WgAt stA smA rd wr mk Payload Aside2 DC0 Bk)
variable [Payload]
section
variable {P : Program} {ty : TypeId} {Wg C n : Nat} {Own Rd : Nat → Loc → Prop} {Lw : Nat → Nat} {val : Nat → Value} {vals : List Value} {AnchW : Goroutine → World → Prop} {Post : Value → World → Prop}
  {gh : Array Goroutine} {w : World} {sl : Option (Nat × Nat)} {t : Trace} {μ : Nat × Nat}
theorem inv_at (h : (Inv P ty Wg C n Own Rd Lw val vals AnchW Post) μ (crowd gh w sl) t) (d : Nat) (sl' : Option (Nat × Nat)) : (Inv P ty Wg C n Own Rd Lw val vals AnchW Post) μ (crowd gh (w.at d) sl') t := by
  obtain ⟨gs₀, w₀, sl₀, j, D, tag, f0, d0, a₀, st, sm, he, ha, hcs, hcom, hwg, hmode, hacq, hμ⟩ := h
  obtain ⟨rfl, rfl, rfl⟩ := crowd_inj he
  exact ⟨gh, w.at d, sl', j, D, tag, f0, d0, a₀, st, sm, rfl, ha, hcs.rely (RC.at w d), hcom.at d, hwg, hmode, hacq, hμ⟩
/-- Somebody runs; nobody sleeps; the workers are awake. -/
theorem inv_awake (R : Rules P ty Wg C n Own Rd Lw val vals AnchW Post) (h : (Inv P ty Wg C n Own Rd Lw val vals AnchW Post) μ (crowd gh w sl) t) : (∀ g ∈ gh, awake g) ∧ (∃ (i : Nat) (g : Goroutine), gh[i]? = some g ∧ g.status = .running) ∧ 0 < gh.size ∧ gh.size ≤ n + 1 := by
  obtain ⟨gs₀, w₀, sl₀, j, D, tag, f0, d0, a₀, st, sm, he, ha, hcs, hcom, hwg, hmode, hacq, hμ⟩ := h
  obtain ⟨rfl, rfl, rfl⟩ := crowd_inj he
  have := hcs.bound
  exact ⟨all_awake R.runs ha hcs hcom, someone_runs R.runs ha hcs hcom hmode, by rw [hcom.size]; omega, by rw [hcom.size]; omega⟩
theorem inv_ids (h : (Inv P ty Wg C n Own Rd Lw val vals AnchW Post) μ (crowd gh w sl) t) : ∀ (i : Nat) (op : MemOp), t[i]? = some op → op.g < gh.size := by
  obtain ⟨gs₀, w₀, sl₀, j, D, tag, f0, d0, a₀, st, sm, he, ha, hcs, hcom, hwg, hmode, hacq, hμ⟩ := h
  obtain ⟨rfl, rfl, rfl⟩ := crowd_inj he
  intro i op hi
  have := hcom.ct.gs i op hi
  rw [hcom.size]; omega
/-- The workers are not woken: they never sleep. -/
theorem inv_worker (h : (Inv P ty Wg C n Own Rd Lw val vals AnchW Post) μ (crowd gh w sl) t) {k : Nat} {g : Goroutine} (hg : gh[k + 1]? = some g) (x x' : Goroutine) (w' : World) : woken P x x' w' g = g ∧ (g.status = .running ∨ g.status = .finished) := by
  obtain ⟨gs₀, w₀, sl₀, j, D, tag, f0, d0, a₀, st, sm, he, ha, hcs, hcom, hwg, hmode, hacq, hμ⟩ := h
  obtain ⟨rfl, rfl, rfl⟩ := crowd_inj he
  have hk : k < j := by have := (Array.getElem?_eq_some_iff.1 hg).1; rw [hcom.size] at this; omega
  obtain ⟨g', hg', hs⟩ := hcom.wk k hk
  rw [hg] at hg'; cases hg'
  exact ⟨hs.woken x x' w', hs.status⟩
/-- Another's step that leaves the world: the starter may be let try again. -/
theorem inv_wake (R : Rules P ty Wg C n Own Rd Lw val vals AnchW Post) (h : (Inv P ty Wg C n Own Rd Lw val vals AnchW Post) μ (crowd gh w sl) t) (x x' : Goroutine) : ∃ μ', μ'.1 = μ.1 ∧ μ'.2 ≤ μ.2 + 1 ∧ (Inv P ty Wg C n Own Rd Lw val vals AnchW Post) μ' (crowd (gh.map (woken P x x' w)) w sl) t := by
  have hI := h
  obtain ⟨gs₀, w₀, sl₀, j, D, tag, f0, d0, a₀, st, sm, he, ha, hcs, hcom, hwg, hmode, hacq, rfl⟩ := h
  obtain ⟨rfl, rfl, rfl⟩ := crowd_inj he
  obtain ⟨tag', f', hcs', hf', htag, _⟩ := hcs.wokenBy R.runs (.refl w) x x'
  refine ⟨(phi n (Vc j D) tag' + Ssum j D, f' + 2 * Fsum j D), by rw [phi_retag n _ htag], by simp only; omega, _, w, sl, j, D, tag', f', d0, _, st, sm, rfl, by rw [Array.getElem?_map, ha]; rfl, hcs', ?_, hwg, hmode.retag htag, fun e => ?_, rfl⟩
  · refine ⟨by simp [hcom.size], fun i hi => ?_, hcom.ct, hcom.norel, hcom.deaf0, hcom.deafW, hcom.rel, hcom.has, hcom.pay⟩
    obtain ⟨g, hg, hs⟩ := hcom.wk i hi
    exact ⟨g, by rw [Array.getElem?_map, hg, Option.map_some, hs.woken], hs⟩
  · rcases htag with rfl | ⟨_, rfl⟩
    · exact hacq e
    · cases e
/-- A worker's step. -/
theorem inv_stepW (R : Rules P ty Wg C n Own Rd Lw val vals AnchW Post) (h : (Inv P ty Wg C n Own Rd Lw val vals AnchW Post) μ (crowd gh w sl) t) {k : Nat} {g : Goroutine} (hg : gh[k + 1]? = some g) (hrun : g.status = .running) :
    ∃ g' w' es, stepG P false g w = .go g' w' es ∧ (∀ fn pos, ∀ op ∈ MemOp.ofEvents (k + 1) fn pos es, OkW (ShN Wg) Own Rd (k + 1) op) ∧ ((Deaf t (k + 1) = 0 ∧ ∀ e ∈ es, e.loc ≠ .mark .disable ∧ e.loc ≠ .mark .enable) ∨ ∀ e ∈ es, Bk Wg e) ∧
      ∃ μ', Lt2 μ' μ ∧ (Inv P ty Wg C n Own Rd Lw val vals AnchW Post) μ' (crowd ((gh.map (woken P g g' w')).setIfInBounds (k + 1) g') w' sl) (t ++ MemOp.ofEvents (k + 1) g.frame.fn g.frame.place es) := by
  obtain ⟨gs₀, w₀, sl₀, j, D, tag, f0, d0, a₀, st, sm, he, ha, hcs, hcom, hwg, hmode, hacq, rfl⟩ := h
  obtain ⟨rfl, rfl, rfl⟩ := crowd_inj he
  have hk : k < j := by have := (Array.getElem?_eq_some_iff.1 hg).1; rw [hcom.size] at this; omega
  obtain ⟨g', w', es, hgo, hok, hd⟩ := worker_ord R.few hcs.bound hcom hwg hmode hk hg hrun
  obtain ⟨m₁, ops, μ', h1, h2, h3⟩ := stepWorker (sl := sl) R.apart R.geo R.runs R.few ha hcs hcom hwg hmode hacq hk hg hrun
  rw [runT_crowd_go (P := P) (sl := sl) (i := k + 1) hg (by simpa using hgo)] at h1
  simp only [Prod.mk.injEq, Stepped.next.injEq] at h1
  obtain ⟨rfl, rfl⟩ := h1
  exact ⟨g', w', es, hgo, hok, by rw [hcom.deafW k hk]; exact hd, μ', h2, h3⟩
/-- The starter's step. -/
theorem inv_step0 (R : Rules P ty Wg C n Own Rd Lw val vals AnchW Post) (h : (Inv P ty Wg C n Own Rd Lw val vals AnchW Post) μ (crowd gh w sl) t) {a : Goroutine} (ha : gh[0]? = some a) (hrun : a.status = .running) :
    (∃ a' w' es, stepG P true a w = .go a' w' es ∧ (∀ fn pos, ∀ op ∈ MemOp.ofEvents 0 fn pos es, Ok0 (ShN Wg) Own Rd (gh.size - 1) op) ∧
      ∃ μ', Lt2 μ' μ ∧ (Inv P ty Wg C n Own Rd Lw val vals AnchW Post) μ' (crowd ((gh.map (woken P a a' w')).setIfInBounds 0 a') w' sl) (t ++ MemOp.ofEvents 0 a.frame.fn a.frame.place es)) ∨
    (∃ a' child, stepG P true a w = .spawn a' child w #[] ∧ Deaf t 0 = 0 ∧ ∃ μ', Lt2 μ' μ ∧ (Inv P ty Wg C n Own Rd Lw val vals AnchW Post) μ' (crowd ((gh.setIfInBounds 0 a').push child) w sl) (t ++ #[{ g := 0, fn := a.frame.fn, pos := a.frame.place, act := .go gh.size }, { g := gh.size, fn := child.frame.fn, pos := a.frame.place, act := .start }])) ∨
    (∃ v es, stepG P true a w = .ended (.done v) w es) := by
  obtain ⟨gs₀, w₀, sl₀, j, D, tag, f0, d0, a₀, st, sm, he, ha', hcs, hcom, hwg, hmode, hacq, rfl⟩ := h
  obtain ⟨rfl, rfl, rfl⟩ := crowd_inj he
  rw [ha] at ha'; cases ha'
  have hstep := stepCaller (sl := sl) R.apart R.geo R.few R.round R.len R.get ha hcs hcom hwg hmode hacq hrun
  rcases caller_ord R.few R.round R.len R.get hcs hcom hwg hmode hrun with ⟨a', w', es, h1, hok⟩ | ⟨hd0, a', child, h1⟩ | ⟨rfl, rfl, v', es, h1, _⟩
  · left
    have hr := runT_crowd_go (P := P) (sl := sl) (i := 0) ha (show stepG P (0 == 0) a w = _ from h1)
    rcases hstep with ⟨o, w₁, ops, h2, _⟩ | ⟨m₁, ops, μ', h2, h3, h4⟩
    · rw [hr] at h2; cases h2
    · rw [hr] at h2
      simp only [Prod.mk.injEq, Stepped.next.injEq] at h2
      obtain ⟨rfl, rfl⟩ := h2
      exact ⟨a', w', es, h1, by rw [hcom.size]; exact hok, μ', h3, h4⟩
  · right; left
    have hr := runT_crowd_spawn (P := P) (sl := sl) (i := 0) ha (show stepG P (0 == 0) a w = _ from h1)
    rcases hstep with ⟨o, w₁, ops, h2, _⟩ | ⟨m₁, ops, μ', h2, h3, h4⟩
    · rw [hr] at h2; cases h2
    · rw [hr] at h2
      simp only [Prod.mk.injEq, Stepped.next.injEq] at h2
      obtain ⟨rfl, rfl⟩ := h2
      rw [ofEvents_nil] at h4
      refine ⟨a', child, h1, ?_, μ', h3, h4⟩
      -- a go statement is met where the starter hears
      rw [hcom.deaf0, hd0]
  · exact .inr (.inr ⟨v', es, h1⟩)
end
end Go.Tw
end

section
namespace Go.Tw
open Go.Conc Go.ConcN
open Go.ConcR (KK wgBlock WgAt stA smA rd wr mk Payload Aside2 DC0 Bk ofEvent_loc_mark ofEvent_cell)
structure Log (Wg : Nat) (Shun : Loc → Prop) (t : Trace) (m : Nat) : Prop where
  roots : ∀ k, 0 < k → k < m → ∃ b, t.g? b = some k ∧ (∃ i, t.g? i = some 0 ∧ HappensBefore t i b) ∧ ∀ i, t.g? i = some k → b ≤ i
  shy : ∀ i a, touchAt t i = some a → Shun a.loc → a.kind ≠ .plain
  deafs : ∀ i op a, t[i]? = some op → op.g ≠ 0 → op.act.touch? = some a → ¬ t.heard i → ShN Wg a.loc ∧ a.kind = .atomic
section
variable {Wg : Nat} {Shun : Loc → Prop} {t : Trace} {m : Nat}
theorem Log.nil : Log Wg Shun #[] 1 := ⟨fun k h1 h2 => by omega, fun i a h => by simp [touchAt, Trace.act?] at h, fun i op a h => by simp at h⟩
theorem Log.grow (h : Log Wg Shun t m) {u : Trace} (hs : ∀ op ∈ u, ∀ a, op.act.touch? = some a → Shun a.loc → a.kind ≠ .plain)
    (hd : ∀ i op a, u[i]? = some op → op.g ≠ 0 → op.act.touch? = some a → ¬ (t ++ u).heard (t.size + i) → ShN Wg a.loc ∧ a.kind = .atomic) : Log Wg Shun (t ++ u) m := by
  refine ⟨fun k h1 h2 => ?_, fun i a ha hl => ?_, fun i op a ho hg ha hh => ?_⟩
  · obtain ⟨b, hb, ⟨i, hi, hib⟩, hl⟩ := h.roots k h1 h2
    have hbs := lt_of_g? hb
    refine ⟨b, by rw [g?_old hbs]; exact hb, ⟨i, by rw [g?_old (lt_of_g? hi)]; exact hi, hb_app u hib⟩, fun i' hi' => ?_⟩
    rcases Nat.lt_or_ge i' t.size with hlt | hge
    · exact hl i' (by rw [← g?_old (u := u) hlt]; exact hi')
    · omega
  · obtain ⟨x, hx, hxa⟩ := touch_of ha
    rcases getElem?_append_cases hx with ⟨_, hx'⟩ | ⟨_, hxu⟩
    · exact h.shy i a (by rw [touchAt_of hx']; exact hxa) hl
    · exact hs x hxu a hxa hl
  · rcases getElem?_append_cases ho with ⟨hlt, ho'⟩ | ⟨hge, _⟩
    · exact h.deafs i op a ho' hg ha (fun e => hh ((heard_old hlt).2 e))
    · have hu : u[i - t.size]? = some op := by
        rw [Array.getElem?_append] at ho
        simpa [Nat.not_lt.2 hge] using ho
      exact hd (i - t.size) op a hu hg ha (by rw [show t.size + (i - t.size) = i by omega]; exact hh)
theorem Log.events (h : Log Wg Shun t m) {g : Nat} {fn : FuncId} {pos : String} {es : Array Event} (hs : ∀ op ∈ MemOp.ofEvents g fn pos es, ∀ a, op.act.touch? = some a → Shun a.loc → a.kind ≠ .plain)
    (hd : g = 0 ∨ (Deaf t g = 0 ∧ ∀ e ∈ es, e.loc ≠ .mark .disable ∧ e.loc ≠ .mark .enable) ∨ ∀ e ∈ es, Bk Wg e) : Log Wg Shun (t ++ MemOp.ofEvents g fn pos es) m := by
  refine h.grow hs fun i op a hu hg ha hh => ?_
  have hu' := hu
  rw [ofEvents_eq, Array.getElem?_map] at hu'
  obtain ⟨e, he, rfl⟩ := Option.map_eq_some_iff.1 hu'
  have hi : i ≤ es.size := by
    rcases Nat.lt_or_ge i es.size with h' | h'
    · omega
    · rw [Array.getElem?_eq_none h'] at he; cases he
  rcases hd with rfl | ⟨h0, hn⟩ | hb
  · exact absurd rfl hg
  · refine absurd ⟨g, ?_, ?_⟩ hh
    · simp [Trace.g?, Array.getElem?_append_right, hu]
    · rw [deaf_inside t g fn pos es i hi, h0]
      exact deafBehind_idle (fun x hx => hn x (by
        obtain ⟨k, hk⟩ := Array.mem_iff_getElem?.1 hx
        rw [Array.getElem?_extract] at hk
        split at hk
        · exact Array.mem_of_getElem? hk
        · cases hk)) 0
  · rcases hb e (Array.mem_of_getElem? he) with h1 | h1 | ⟨ad, wr, rfl, hbl⟩
    · simp only at ha; rw [ofEvent_loc_mark h1] at ha; cases ha
    · simp only at ha; rw [ofEvent_loc_mark h1] at ha; cases ha
    · simp only [ofEvent_cell, MemAct.touch?, Option.some.injEq] at ha
      subst ha
      exact ⟨⟨ad, rfl, hbl⟩, by simp⟩
theorem Log.spawn (h : Log Wg Shun t m) (hm : 0 < m) (hid : ∀ (i : Nat) (op : MemOp), t[i]? = some op → op.g < m) (h0 : Deaf t 0 = 0) {x y : MemOp} (hx : x.g = 0 ∧ x.act = .go m) (hy : y.g = m ∧ y.act = .start) : Log Wg Shun (t ++ #[x, y]) (m + 1) := by
  have hnt : ∀ op ∈ #[x, y], ∀ b, op.act.touch? = some b → False := by
    intro op hop b hb
    simp only [List.mem_toArray, List.mem_cons, List.not_mem_nil, or_false] at hop
    rcases hop with rfl | rfl
    · rw [hx.2] at hb; cases hb
    · rw [hy.2] at hb; cases hb
  have h' := h.grow (u := #[x, y]) (fun op hop a ha => (hnt op hop a ha).elim) (fun i op a hu _ ha => (hnt op (Array.mem_of_getElem? hu) a ha).elim)
  refine ⟨fun k h1 h2 => ?_, h'.shy, h'.deafs⟩
  rcases Nat.lt_or_ge k m with hlt | hge
  · exact h'.roots k h1 hlt
  · obtain rfl : k = m := by omega
    have hxp : (t ++ #[x, y])[t.size]? = some x := by rw [Array.getElem?_append_right (Nat.le_refl _)]; simp
    have hyp : (t ++ #[x, y])[t.size + 1]? = some y := by rw [Array.getElem?_append_right (by omega)]; simp
    have hk : Deaf t k = 0 := Deaf_absent fun i op hi e => by have := hid i op hi; omega
    have e0 : (t ++ #[x, y]).heard t.size := ⟨0, by simp [Trace.g?, hx.1], by rw [deaf_old (Nat.le_refl _)]; exact h0⟩
    have e1 : (t ++ #[x, y]).heard (t.size + 1) := ⟨k, by simp [Trace.g?, hy.1], by rw [deaf_succ hxp, deaf_old (Nat.le_refl _)]; simp only [deafStep, hx.2]; exact hk⟩
    have hg1 : (t ++ #[x, y]).g? (t.size + 1) = some k := by simp [Trace.g?, hy.1]
    refine ⟨t.size + 1, hg1, ⟨t.size, by simp [Trace.g?, hx.1], .single (.inr ⟨.spawn (child := k) (by rw [act?_of hxp, hx.2]) (by rw [act?_of hyp, hy.2]) hg1, e0, e1⟩)⟩, fun i hi => ?_⟩
    obtain ⟨op, ho, hog⟩ := Option.map_eq_some_iff.1 hi
    rcases getElem?_append_cases ho with ⟨_, ho'⟩ | ⟨hge', _⟩
    · have := hid i op ho'; omega
    · rcases Nat.lt_or_ge t.size i with h3 | h3
      · omega
      · obtain rfl : i = t.size := by omega
        rw [hxp] at ho
        cases ho
        omega
/-- ████ The phase is over: what is known of its trace. ████ -/
theorem log_past {Own Rd : Nat → Loc → Prop} {n o B : Nat} {t₀ T : Trace} (hP : Past Shun B t₀) (hW : Weave o t₀ t T) (hL : Log Wg Shun t (n + 1)) (hq : AcqAll Wg n t) (hn : NoRelease (stA Wg) t) (hct : CT (ShN Wg) Own Rd t n) (h0 : Deaf t 0 = 0) :
    ∃ B', Past (fun l => Shun l ∨ ShN Wg l) B' T := by
  obtain ⟨at_, W⟩ := hW
  obtain ⟨q, h1, h2, h3, h4⟩ := hq
  have edge : ∀ {k r : Nat}, RelBy (stA Wg) t k r → r < q → HappensBefore t r q := fun hr hrq => .single (.inr ⟨.marked hrq (.inr hr.act) h1 (fun k _ _ => hn k), hr.heard, h3⟩)
  have rel : ∀ i g, t.g? i = some g → g ≠ 0 → ∃ r, RelBy (stA Wg) t g r ∧ r < q := by
    intro i g hgi hne
    obtain ⟨op, ho, rfl⟩ := Option.map_eq_some_iff.1 hgi
    have := hct.gs i op ho
    have := h4 (op.g - 1) (by omega)
    rwa [show op.g - 1 + 1 = op.g by omega] at this
  obtain ⟨zq, hzq, hgq⟩ := Option.map_eq_some_iff.1 h2
  refine past_woven hP W hct.nr (fun i a ha hm => ?_) (fun i g hg hne => ?_) hL.shy (handedOver_all rel hn h1 h2 h3) h0
  · obtain ⟨x, hx, hxa⟩ := touch_of ha
    have hgi : t.g? i = some x.g := by simp [Trace.g?, hx]
    by_cases e : x.g = 0
    · have := knows_own hx
      rw [e] at this
      exact .inl this
    · obtain ⟨r, hr, hrq⟩ := rel i _ hgi e
      have her := edge hr hrq
      rcases Nat.lt_trichotomy i r with hlt | rfl | hgt
      · exact .inl ⟨q, zq, hzq, hgq, .inr (.trans (.single (.inl ⟨hlt, x.g, hgi, hr.g⟩)) her)⟩
      · exact .inl ⟨q, zq, hzq, hgq, .inr her⟩
      · right
        refine hL.deafs i x a hx e hxa fun hh => ?_
        exact hr.after i hgt hgi ⟨a, ha, hm, .inr hh⟩
  · obtain ⟨x, hx, hxg⟩ := Option.map_eq_some_iff.1 hg
    have := hct.gs i x hx
    obtain ⟨b, hb, ⟨i0, hi0, hib⟩, hl⟩ := hL.roots g (by omega) (by omega)
    refine ⟨i0, hi0, ?_⟩
    rcases Nat.lt_or_ge b i with hlt | hge
    · exact hib.trans (.single (.inl ⟨hlt, g, hb, hg⟩))
    · have := hl i hg
      obtain rfl : b = i := by omega
      exact hib
end
end Go.Tw
end

section
namespace Go.Tw
open Go.Conc Go.ConcN
open Go.ConcR (KK wgBlock WgAt stA smA rd wr mk Payload Aside2 DC0 Bk)
/-- The starter's record, with whatever lies below. -/
def Gst (fr : Frame) (cs : List Frame) (st : GoStatus) : Goroutine := { G fr cs with status := st }
theorem gst_run (fr : Frame) (cs : List Frame) : Gst fr cs .running = G fr cs := rfl
theorem gst_woken (P : Program) (x x' : Goroutine) (w : World) (fr : Frame) (st : GoStatus) : ∃ st', ∀ cs, woken P x x' w (Gst fr cs st) = Gst fr cs st' := by
  unfold woken
  by_cases h : (mayWake P x && x'.status != .blocked && x'.status != .waiting) = true
  · simp only [h, if_true]
    cases st with
    | blocked => exact ⟨.running, fun _ => rfl⟩
    | waiting => exact ⟨.running, fun _ => rfl⟩
    | _ => exact ⟨_, fun _ => rfl⟩
  · exact ⟨st, fun _ => if_neg h⟩
variable [Payload]
structure Duo (P : Program) (F : Nat → Bool) (ty : TypeId) (Wg C n : Nat) (Own₁ Own₂ Rd : Nat → Loc → Prop) (Lw : Nat → Nat) (val : Nat → Value) (vals : List Value) (AnchW : Goroutine → World → Prop) (Post : Value → World → Prop)
    (Shun : Loc → Prop) (o : Nat) (t₀ : Trace) (Y : List Frame) (μ : Nat × Nat) (q : Nat → Nat) (gs gh : Array Goroutine) (W : World) (T t : Trace) : Prop where
  inv1 : ∃ sl, Inv P ty Wg C n Own₁ Rd Lw val vals AnchW Post μ (crowd gh W sl) t
  inv2 : ∃ μ' sl, Inv P ty Wg C n Own₂ Rd Lw val vals AnchW Post μ' (crowd gh W sl) t
  zero : ∃ fr top st, gh[0]? = some (Gst fr (top ++ [Sink P, Bed P]) st) ∧ gs[0]? = some (Gst fr (top ++ Y) st) ∧ FitF P F fr ∧ (∀ f ∈ top, FitF P F f) ∧ Ord fr top
  size : gs.size = o + gh.size
  same : ∀ k, gs[o + (k + 1)]? = gh[k + 1]?
  old : ∀ i g, 0 < i → i ≤ o → gs[i]? = some g → QuitsD P (q i) (Deaf T i) g
  above : ∀ k, gs.size ≤ k → Deaf T k = 0
  weave : Weave o t₀ t T
  log : Log Wg Shun t gh.size
  first : gh.size = 1 → ∀ a, gh[0]? = some a → a.status = .running ∧ ∀ w₁, RC ty Wg C W w₁ → ∃ a' child, stepG P true a w₁ = .spawn a' child w₁ #[]
section
variable {P : Program} {F : Nat → Bool} {ty : TypeId} {Wg C n : Nat} {Own₁ Own₂ Rd : Nat → Loc → Prop} {Lw : Nat → Nat} {val : Nat → Value} {vals : List Value} {AnchW : Goroutine → World → Prop} {Post : Value → World → Prop}
  {Shun : Loc → Prop} {o : Nat} {t₀ : Trace} {Y : List Frame} {μ : Nat × Nat} {q : Nat → Nat} {gs gh : Array Goroutine} {W : World} {T t : Trace}
theorem Duo.at (h : (Duo P F ty Wg C n Own₁ Own₂ Rd Lw val vals AnchW Post Shun o t₀ Y) μ q gs gh W T t) (d : Nat) : (Duo P F ty Wg C n Own₁ Own₂ Rd Lw val vals AnchW Post Shun o t₀ Y) μ q gs gh (W.at d) T t := by
  obtain ⟨⟨sl, i1⟩, ⟨μ', sl', i2⟩, h3, h4, h5, h6, h7, h8, h9, h10⟩ := h
  exact ⟨⟨sl, inv_at i1 d sl⟩, ⟨μ', sl', inv_at i2 d sl'⟩, h3, h4, h5, h6, h7, h8, h9, fun e a ha => ⟨(h10 e a ha).1, fun w₁ hrc => (h10 e a ha).2 w₁ ((RC.at W d).trans hrc)⟩⟩
/-- What comes of a phase. -/
structure Over (P : Program) (Wg C n : Nat) (vals : List Value) (Post : Value → World → Prop) (Shun : Loc → Prop) (o : Nat) (c : Frame) (Z : List Frame) (gs : Array Goroutine) (W : World) (T : Trace) : Prop where
  zero : ∃ vs, gs[0]? = some (G (c.finish (.tuple vs)) Z) ∧ Full C vals (boxed W (.tuple vs)) ∧ Post undef (boxed W (.tuple vs))
  size : gs.size = o + (n + 1)
  leavers : ∃ q, Leavers P T gs q
  past : ∃ B, Past (fun l => Shun l ∨ ShN Wg l) B T
/-- A leaver slips. -/
theorem Duo.slip (R₁ : Rules P ty Wg C n Own₁ Rd Lw val vals AnchW Post) (R₂ : Rules P ty Wg C n Own₂ Rd Lw val vals AnchW Post) (h : (Duo P F ty Wg C n Own₁ Own₂ Rd Lw val vals AnchW Post Shun o t₀ Y) μ q gs gh W T t) {i : Nat} {g : Goroutine} (hi0 : 0 < i) (hio : i ≤ o) (hg : gs[i]? = some g) (hrun : g.status = .running) :
    ∃ g' es k μ' gh', stepG P false g W = .go g' W es ∧ q i = k + 1 ∧ μ'.1 = μ.1 ∧ μ'.2 ≤ μ.2 + 1 ∧ (Duo P F ty Wg C n Own₁ Own₂ Rd Lw val vals AnchW Post Shun o t₀ Y) μ' (upd q i k) ((gs.map (woken P g g' W)).setIfInBounds i g') gh' W (T ++ MemOp.ofEvents i g.frame.fn g.frame.place es) t := by
  have hq := h.old i g hi0 hio hg
  cases hqi : q i with
  | zero => rw [hqi] at hq; rw [hq.1] at hrun; cases hrun
  | succ k =>
    rw [hqi] at hq
    rcases hq with ⟨hf, _⟩ | ⟨_, g', es, hm, hst, hq'⟩
    · rw [hf] at hrun; cases hrun
    obtain ⟨sl, i1⟩ := h.inv1
    obtain ⟨μ₂, sl₂, i2⟩ := h.inv2
    obtain ⟨μ', e1, e2, j1⟩ := inv_wake R₁ i1 g g'
    obtain ⟨μ₂', _, _, j2⟩ := inv_wake R₂ i2 g g'
    have hlt : i < gs.size := (Array.getElem?_eq_some_iff.1 hg).1
    have hother : ∀ (u : Trace) (k : Nat), k ≠ i → Deaf (u ++ MemOp.ofEvents i g.frame.fn g.frame.place es) k = Deaf u k := fun u k hk => Deaf_other u (g' := i) (Ne.symm hk) _ (fun op hop => by obtain ⟨e, _, rfl⟩ := Go.Conc.mem_ofEvents hop; rfl)
    refine ⟨g', es, k, μ', _, hst W, rfl, e1, e2, ⟨sl, j1⟩, ⟨μ₂', sl₂, j2⟩, ?_, by simp [h.size], fun k => ?_, fun j x hj hjo hx => ?_, fun j hj => ?_, h.weave.mutes (by omega) hio _ _ hm, by rw [Array.size_map]; exact h.log, fun e a ha => ?_⟩
    · obtain ⟨fr, top, st, z1, z2, z3⟩ := h.zero
      obtain ⟨st', hst'⟩ := gst_woken P g g' W fr st
      exact ⟨fr, top, st', by rw [Array.getElem?_map, z1, Option.map_some, hst'], by rw [get_map_set _ _ _ _ (by omega), z2, Option.map_some, hst'], z3⟩
    · rw [get_map_set _ _ _ _ (by omega), Array.getElem?_map, h.same]
    · by_cases hji : i = j
      · subst hji
        rw [get_map_set_same _ _ _ hlt] at hx
        obtain rfl := Option.some.inj hx
        rw [upd_same, Deaf_own]
        exact hq'
      · rw [get_map_set _ _ _ _ hji] at hx
        obtain ⟨y, hy, rfl⟩ := Option.map_eq_some_iff.1 hx
        have hqj := h.old j y hj hjo hy
        rw [woken_quitsD hqj, upd_ne q k (Ne.symm hji), hother T j (Ne.symm hji)]
        exact hqj
    · simp only [Array.size_setIfInBounds, Array.size_map] at hj
      rw [hother T j (by omega)]
      exact h.above j hj
    · rw [Array.size_map] at e
      rw [Array.getElem?_map] at ha
      obtain ⟨y, hy, rfl⟩ := Option.map_eq_some_iff.1 ha
      obtain ⟨hr, hsp⟩ := h.first e y hy
      rw [woken_run hr]
      exact ⟨hr, hsp⟩
theorem ren_succ (o k : Nat) : ren o (k + 1) = o + (k + 1) := by have _p : Payload := inferInstance; unfold ren; rw [if_neg (by omega)]
/-- A worker's step. -/
theorem Duo.work (R₁ : Rules P ty Wg C n Own₁ Rd Lw val vals AnchW Post) (R₂ : Rules P ty Wg C n Own₂ Rd Lw val vals AnchW Post) (hO : ∀ k l, Own₁ k l → ¬ Shun l) (hR : ∀ k l, Rd k l → ¬ Shun l)
    (h : (Duo P F ty Wg C n Own₁ Own₂ Rd Lw val vals AnchW Post Shun o t₀ Y) μ q gs gh W T t) {k : Nat} {g : Goroutine} (hg : gs[o + (k + 1)]? = some g) (hrun : g.status = .running) :
    ∃ g' w' es μ' gh' t', stepG P false g W = .go g' w' es ∧ Lt2 μ' μ ∧ (Duo P F ty Wg C n Own₁ Own₂ Rd Lw val vals AnchW Post Shun o t₀ Y) μ' q ((gs.map (woken P g g' w')).setIfInBounds (o + (k + 1)) g') gh' w' (T ++ MemOp.ofEvents (o + (k + 1)) g.frame.fn g.frame.place es) t' := by
  have hgh : gh[k + 1]? = some g := by rw [← h.same]; exact hg
  obtain ⟨sl, i1⟩ := h.inv1
  obtain ⟨μ₂, sl₂, i2⟩ := h.inv2
  obtain ⟨g', w', es, hgo, hok, hd, μ', hlt, j1⟩ := inv_stepW R₁ i1 hgh hrun
  obtain ⟨g'', w'', es'', hgo', _, _, μ₂', _, j2⟩ := inv_stepW R₂ i2 hgh hrun
  rw [hgo] at hgo'
  simp only [GStep.go.injEq] at hgo'
  obtain ⟨rfl, rfl, rfl⟩ := hgo'
  have hks : k + 1 < gh.size := (Array.getElem?_eq_some_iff.1 hgh).1
  have hsz := h.size
  have hother : ∀ (u : Trace) (i : Nat), i ≠ o + (k + 1) → Deaf (u ++ MemOp.ofEvents (o + (k + 1)) g.frame.fn g.frame.place es) i = Deaf u i := fun u i hi => Deaf_other u (g' := o + (k + 1)) (Ne.symm hi) _ (fun op hop => by obtain ⟨e, _, rfl⟩ := Go.Conc.mem_ofEvents hop; rfl)
  refine ⟨g', w', es, μ', _, _, hgo, hlt, ⟨sl, j1⟩, ⟨μ₂', sl₂, j2⟩, ?_, by simp [hsz], fun k' => ?_, fun i x hi hio hx => ?_, fun i hi => ?_, ?_, ?_, fun e => ?_⟩
  · obtain ⟨fr, top, st, z1, z2, z3⟩ := h.zero
    obtain ⟨st', hst'⟩ := gst_woken P g g' w' fr st
    exact ⟨fr, top, st', by rw [get_map_set _ _ _ _ (by omega), z1, Option.map_some, hst'], by rw [get_map_set _ _ _ _ (by omega), z2, Option.map_some, hst'], z3⟩
  · by_cases e : k' = k
    · subst e
      rw [get_map_set_same _ _ _ (by omega), get_map_set_same _ _ _ hks]
    · rw [get_map_set _ _ _ _ (by omega), get_map_set _ _ _ _ (by omega), h.same]
  · rw [get_map_set _ _ _ _ (by omega)] at hx
    obtain ⟨y, hy, rfl⟩ := Option.map_eq_some_iff.1 hx
    have hqj := h.old i y hi hio hy
    rw [woken_quitsD hqj, hother T i (by omega)]
    exact hqj
  · simp only [Array.size_setIfInBounds, Array.size_map] at hi
    rw [hother T i (by omega)]
    exact h.above i hi
  · have := h.weave.events (k + 1) g.frame.fn g.frame.place es
    rwa [ren_succ] at this
  · simp only [Array.size_setIfInBounds, Array.size_map]
    refine h.log.events (fun op hop a ha hs => ?_) (.inr hd)
    rcases (hok _ _ op hop).2 a ha with ⟨_, h1, _⟩ | h1 | ⟨h1, _⟩
    · exact h1
    · exact absurd hs (hO _ _ h1)
    · exact absurd hs (hR _ _ h1)
  · simp only [Array.size_setIfInBounds, Array.size_map] at e
    omega
/-- The starter has taken a step. -/
theorem Duo.led (h : (Duo P F ty Wg C n Own₁ Own₂ Rd Lw val vals AnchW Post Shun o t₀ Y) μ q gs gh W T t) {a ag a' ag' : Goroutine} {w' : World} {es : Array Event} {μ' : Nat × Nat} (ha : gs[0]? = some a) (hag : gh[0]? = some ag) (hfr : a.frame = ag.frame)
    (j1 : ∃ sl, Inv P ty Wg C n Own₁ Rd Lw val vals AnchW Post μ' (crowd ((gh.map (woken P ag ag' w')).setIfInBounds 0 ag') w' sl) (t ++ MemOp.ofEvents 0 ag.frame.fn ag.frame.place es))
    (j2 : ∃ μ₂ sl, Inv P ty Wg C n Own₂ Rd Lw val vals AnchW Post μ₂ (crowd ((gh.map (woken P ag ag' w')).setIfInBounds 0 ag') w' sl) (t ++ MemOp.ofEvents 0 ag.frame.fn ag.frame.place es))
    (hz : ∃ fr top st, ag' = Gst fr (top ++ [Sink P, Bed P]) st ∧ a' = Gst fr (top ++ Y) st ∧ FitF P F fr ∧ (∀ f ∈ top, FitF P F f) ∧ Ord fr top) (h2 : gh.size ≠ 1) (hl : Log Wg Shun (t ++ MemOp.ofEvents 0 ag.frame.fn ag.frame.place es) gh.size) :
    (Duo P F ty Wg C n Own₁ Own₂ Rd Lw val vals AnchW Post Shun o t₀ Y) μ' q ((gs.map (woken P a a' w')).setIfInBounds 0 a') ((gh.map (woken P ag ag' w')).setIfInBounds 0 ag') w' (T ++ MemOp.ofEvents 0 a.frame.fn a.frame.place es) (t ++ MemOp.ofEvents 0 ag.frame.fn ag.frame.place es) := by
  have hs0 : 0 < gs.size := (Array.getElem?_eq_some_iff.1 ha).1
  have hg0 : 0 < gh.size := (Array.getElem?_eq_some_iff.1 hag).1
  have hother : ∀ (u : Trace) (i : Nat), i ≠ 0 → Deaf (u ++ MemOp.ofEvents 0 a.frame.fn a.frame.place es) i = Deaf u i := fun u i hi => Deaf_other u (g' := 0) (Ne.symm hi) _ (fun op hop => by obtain ⟨e, _, rfl⟩ := Go.Conc.mem_ofEvents hop; rfl)
  refine ⟨j1, j2, ?_, by simp [h.size], fun k => ?_, fun i x hi hio hx => ?_, fun i hi => ?_, ?_, by simpa using hl, fun e => ?_⟩
  · obtain ⟨fr, top, st, z1, z2, z3⟩ := hz
    exact ⟨fr, top, st, by rw [get_map_set_same _ _ _ hg0, z1], by rw [get_map_set_same _ _ _ hs0, z2], z3⟩
  · rw [get_map_set _ _ _ _ (by omega), get_map_set _ _ _ _ (by omega), h.same]
    cases hg : gh[k + 1]? with
    | none => rfl
    | some g =>
      obtain ⟨sl, i1⟩ := h.inv1
      rw [Option.map_some, Option.map_some, (inv_worker i1 hg a a' w').1, (inv_worker i1 hg ag ag' w').1]
  · rw [get_map_set _ _ _ _ (by omega)] at hx
    obtain ⟨y, hy, rfl⟩ := Option.map_eq_some_iff.1 hx
    have hqj := h.old i y hi hio hy
    rw [woken_quitsD hqj, hother T i (by omega)]
    exact hqj
  · simp only [Array.size_setIfInBounds, Array.size_map] at hi
    rw [hother T i (by omega)]
    exact h.above i hi
  · have := h.weave.events 0 a.frame.fn a.frame.place es
    rw [ren_zero] at this
    rw [← hfr]
    exact this
  · simp only [Array.size_setIfInBounds, Array.size_map] at e
    exact absurd e h2
/-- ████ The starter's step. ████ -/
theorem Duo.lead (R₁ : Rules P ty Wg C n Own₁ Rd Lw val vals AnchW Post) (R₂ : Rules P ty Wg C n Own₂ Rd Lw val vals AnchW Post) (hF : Fit P F) (hix : P.inits.idxOf? P.funcs.size = none) (hS : ∀ l, Shun l → Own₂ 1 l)
    {B : Nat} (hP : Past Shun B t₀) {c : Frame} {Z : List Frame} (hY : Y = c :: Z) (h : (Duo P F ty Wg C n Own₁ Own₂ Rd Lw val vals AnchW Post Shun o t₀ Y) μ q gs gh W T t) {a : Goroutine} (ha : gs[0]? = some a) (hrun : a.status = .running) :
    (∃ a' w' es μ' gh' t', stepG P true a W = .go a' w' es ∧ Lt2 μ' μ ∧ (Duo P F ty Wg C n Own₁ Own₂ Rd Lw val vals AnchW Post Shun o t₀ Y) μ' q ((gs.map (woken P a a' w')).setIfInBounds 0 a') gh' w' (T ++ MemOp.ofEvents 0 a.frame.fn a.frame.place es) t') ∨
    (∃ a' child μ' gh' t', stepG P true a W = .spawn a' child W #[] ∧ Lt2 μ' μ ∧ (Duo P F ty Wg C n Own₁ Own₂ Rd Lw val vals AnchW Post Shun o t₀ Y) μ' q ((gs.setIfInBounds 0 a').push child) gh' W (T ++ #[{ g := 0, fn := a.frame.fn, pos := a.frame.place, act := .go gs.size }, { g := gs.size, fn := child.frame.fn, pos := a.frame.place, act := .start }]) t') ∨
    (∃ a' w' es, stepG P true a W = .go a' w' es ∧ Over P Wg C n vals Post Shun o c Z ((gs.map (woken P a a' w')).setIfInBounds 0 a') w' (T ++ MemOp.ofEvents 0 a.frame.fn a.frame.place es)) := by
  subst hY
  obtain ⟨fr, top, st, z1, z2, z3, z4, z5⟩ := id h.zero
  obtain rfl : a = Gst fr (top ++ c :: Z) st := by rw [z2] at ha; exact (Option.some.inj ha).symm
  obtain rfl : st = .running := hrun
  rw [gst_run] at z1 z2 ⊢
  obtain ⟨sl, i1⟩ := h.inv1
  obtain ⟨μ₂, sl₂, i2⟩ := h.inv2
  have s1 := inv_step0 R₁ i1 z1 rfl
  have s2 := inv_step0 R₂ i2 z1 rfl
  have hg0 : 0 < gh.size := (Array.getElem?_eq_some_iff.1 z1).1
  have hs0 : 0 < gs.size := (Array.getElem?_eq_some_iff.1 z2).1
  have both : ∀ {ag' : Goroutine} {w' : World} {es : Array Event}, stepG P true (G fr (top ++ [Sink P, Bed P])) W = .go ag' w' es → gh.size ≠ 1 ∧ Log Wg Shun (t ++ MemOp.ofEvents 0 (G fr (top ++ [Sink P, Bed P])).frame.fn (G fr (top ++ [Sink P, Bed P])).frame.place es) gh.size ∧
      ∃ μ', Lt2 μ' μ ∧ Inv P ty Wg C n Own₁ Rd Lw val vals AnchW Post μ' (crowd ((gh.map (woken P (G fr (top ++ [Sink P, Bed P])) ag' w')).setIfInBounds 0 ag') w' sl) (t ++ MemOp.ofEvents 0 (G fr (top ++ [Sink P, Bed P])).frame.fn (G fr (top ++ [Sink P, Bed P])).frame.place es) ∧
        ∃ μ₂, Inv P ty Wg C n Own₂ Rd Lw val vals AnchW Post μ₂ (crowd ((gh.map (woken P (G fr (top ++ [Sink P, Bed P])) ag' w')).setIfInBounds 0 ag') w' sl₂) (t ++ MemOp.ofEvents 0 (G fr (top ++ [Sink P, Bed P])).frame.fn (G fr (top ++ [Sink P, Bed P])).frame.place es) := by
    intro ag' w' es hgo
    have h2 : gh.size ≠ 1 := fun e => by
      obtain ⟨a', child, hsp⟩ := (h.first e _ z1).2 W (.refl W)
      rw [hgo] at hsp; cases hsp
    rcases s1 with ⟨a1, w1, es1, h1, _, μ', hlt, j1⟩ | ⟨a1, ch, h1, _⟩ | ⟨v, es1, h1⟩
    · rw [hgo] at h1
      simp only [GStep.go.injEq] at h1
      obtain ⟨rfl, rfl, rfl⟩ := h1
      rcases s2 with ⟨a2, w2, es2, h3, hok, μ₂', _, j2⟩ | ⟨a2, ch, h3, _⟩ | ⟨v, es2, h3⟩
      · rw [hgo] at h3
        simp only [GStep.go.injEq] at h3
        obtain ⟨rfl, rfl, rfl⟩ := h3
        refine ⟨h2, h.log.events (fun op hop b hb hs => ?_) (.inl rfl), μ', hlt, j1, μ₂', j2⟩
        rcases (hok _ _ op hop).2 b hb with ⟨_, x⟩ | ⟨_, x, _⟩
        · exact x
        · exact absurd (hS _ hs) (x 1 (Nat.le_refl _) (by omega))
      · rw [hgo] at h3; cases h3
      · rw [hgo] at h3; cases h3
    · rw [hgo] at h1; cases h1
    · rw [hgo] at h1; cases h1
  rcases lens hF z3 z4 z5 W with ⟨fr', top', w', es, f1, f2, f3, hall⟩ | ⟨w', es, hall⟩ | ⟨fr', child, w', es, f1, f3, hall⟩ | ⟨v, w', es, htop, hall⟩ | hlost
  · obtain ⟨h2, hl, μ', hlt, j1, μ₂', j2⟩ := both (hall _)
    exact .inl ⟨_, w', es, μ', _, _, hall _, hlt, h.led z2 z1 rfl ⟨sl, j1⟩ ⟨μ₂', sl₂, j2⟩ ⟨fr', top', .running, rfl, rfl, f1, f2, f3⟩ h2 hl⟩
  · obtain ⟨h2, hl, μ', hlt, j1, μ₂', j2⟩ := both (hall _)
    exact .inl ⟨_, w', es, μ', _, _, hall _, hlt, h.led z2 z1 rfl ⟨sl, j1⟩ ⟨μ₂', sl₂, j2⟩ ⟨fr, top, .blocked, rfl, rfl, z3, z4, z5⟩ h2 hl⟩
  · right; left
    have hsp := hall [Sink P, Bed P]
    rcases s1 with ⟨a1, w1, es1, h1, _⟩ | ⟨a1, ch1, h1, hd, μ', hlt, j1⟩ | ⟨v, es1, h1⟩
    · rw [hsp] at h1; cases h1
    · rw [hsp] at h1
      simp only [GStep.spawn.injEq] at h1
      obtain ⟨rfl, rfl, rfl, rfl⟩ := h1
      rcases s2 with ⟨a2, w2, es2, h3, _⟩ | ⟨a2, ch2, h3, _, μ₂', _, j2⟩ | ⟨v, es2, h3⟩
      · rw [hsp] at h3; cases h3
      · rw [hsp] at h3
        simp only [GStep.spawn.injEq] at h3
        obtain ⟨rfl, rfl, _, _⟩ := h3
        have hst : ∀ op ∈ (#[{ g := 0, fn := fr.fn, pos := fr.place, act := .go gs.size }, { g := gs.size, fn := child.frame.fn, pos := fr.place, act := .start }] : Trace), op.act ≠ .mark .disable ∧ op.act ≠ .mark .enable := by
          intro op hop
          simp only [List.mem_toArray, List.mem_cons, List.not_mem_nil, or_false] at hop
          rcases hop with rfl | rfl <;> exact ⟨by simp, by simp⟩
        refine ⟨_, child, μ', _, _, hall _, hlt, ⟨sl, j1⟩, ⟨μ₂', sl₂, j2⟩, ⟨fr', top, .running, ?_, ?_, f1, z4, f3⟩, by simp [h.size]; omega, fun k => ?_, fun i x hi hio hx => ?_, fun i hi => ?_, ?_, ?_, fun e => ?_⟩
        · rw [Array.getElem?_push_lt (by simp; omega), ← Array.getElem?_eq_getElem]
          simp [hg0, gst_run]
        · rw [Array.getElem?_push_lt (by simp; omega), ← Array.getElem?_eq_getElem]
          simp [hs0, gst_run]
        · have hsz := h.size
          have hsame := h.same k
          rw [Array.getElem?_push, Array.getElem?_push]
          simp only [Array.size_setIfInBounds]
          by_cases e : k + 1 = gh.size
          · rw [if_pos (by omega), if_pos e]
          · rw [if_neg (by omega), if_neg e, Array.getElem?_setIfInBounds_ne (by omega), Array.getElem?_setIfInBounds_ne (by omega), hsame]
        · have hsz := h.size
          rw [Array.getElem?_push, if_neg (by simp; omega), Array.getElem?_setIfInBounds_ne (by omega)] at hx
          have := h.old i x hi hio hx
          rwa [← Deaf_still T i _ hst] at this
        · have hsz := h.size
          simp only [Array.size_push, Array.size_setIfInBounds] at hi
          have := h.above i (by omega)
          rwa [← Deaf_still T i _ hst] at this
        · have hsz := h.size
          have := h.weave.ops #[{ g := 0, fn := fr.fn, pos := fr.place, act := .go gh.size }, { g := gh.size, fn := child.frame.fn, pos := fr.place, act := .start }]
          have e : ren o gh.size = gs.size := by unfold ren; rw [if_neg (by omega)]; omega
          have r1 : renO o { g := 0, fn := fr.fn, pos := fr.place, act := .go gh.size } = { g := 0, fn := fr.fn, pos := fr.place, act := .go gs.size } := by simp [renO, renA, ren_zero, e]
          have r2 : renO o { g := gh.size, fn := child.frame.fn, pos := fr.place, act := .start } = { g := gs.size, fn := child.frame.fn, pos := fr.place, act := .start } := by simp [renO, renA, e]
          rw [show (#[{ g := 0, fn := fr.fn, pos := fr.place, act := .go gh.size }, { g := gh.size, fn := child.frame.fn, pos := fr.place, act := .start }] : Trace).map (renO o) = #[renO o { g := 0, fn := fr.fn, pos := fr.place, act := .go gh.size }, renO o { g := gh.size, fn := child.frame.fn, pos := fr.place, act := .start }] from by simp, r1, r2] at this
          exact this
        · simp only [Array.size_push, Array.size_setIfInBounds]
          exact h.log.spawn hg0 (inv_ids i1) hd ⟨rfl, rfl⟩ ⟨rfl, rfl⟩
        · simp only [Array.size_push, Array.size_setIfInBounds] at e
          omega
      · rw [hsp] at h3; cases h3
    · rw [hsp] at h1; cases h1
  · right; right
    subst htop
    have hgo := hall (Sink P) [Bed P]
    obtain ⟨h2, hl, μ', hlt, j1, μ₂', j2⟩ := both hgo
    have hz0 : ((gh.map (woken P (G fr ([] ++ [Sink P, Bed P])) (G ((Sink P).finish v) [Bed P]) w')).setIfInBounds 0 (G ((Sink P).finish v) [Bed P]))[0]? = some (G ((Sink P).finish v) [Bed P]) := get_map_set_same _ _ _ hg0
    obtain ⟨k1, k2, k3, k4, k5, k6, k7, k8, vs, rfl⟩ := sink_facts R₁ hix j1 hz0
    have hghn : gh.size = n + 1 := by simpa using k1
    have hother : ∀ (u : Trace) (i : Nat), i ≠ 0 → Deaf (u ++ MemOp.ofEvents 0 (G fr ([] ++ c :: Z)).frame.fn (G fr ([] ++ c :: Z)).frame.place es) i = Deaf u i := fun u i hi => Deaf_other u (g' := 0) (Ne.symm hi) _ (fun op hop => by obtain ⟨e, _, rfl⟩ := Go.Conc.mem_ofEvents hop; rfl)
    have hsz := h.size
    have hweave : Weave o t₀ (t ++ MemOp.ofEvents 0 (G fr ([] ++ [Sink P, Bed P])).frame.fn (G fr ([] ++ [Sink P, Bed P])).frame.place es) (T ++ MemOp.ofEvents 0 (G fr ([] ++ c :: Z)).frame.fn (G fr ([] ++ c :: Z)).frame.place es) := by
      have := h.weave.events 0 fr.fn fr.place es
      rw [ren_zero] at this
      exact this
    refine ⟨_, w', es, hall c Z, ⟨vs, get_map_set_same _ _ _ hs0, k7, k8⟩, by simp [hsz, hghn], ?_, log_past hP hweave (by rw [← hghn]; exact hl) k3 k4 k5 k6⟩
    -- who is leaving
    obtain ⟨at_, hW⟩ := hweave
    have hdeaf : ∀ i, i < n → Deaf (T ++ MemOp.ofEvents 0 (G fr ([] ++ c :: Z)).frame.fn (G fr ([] ++ c :: Z)).frame.place es) (o + (i + 1)) = Deaf (t ++ MemOp.ofEvents 0 (G fr ([] ++ [Sink P, Bed P])).frame.fn (G fr ([] ++ [Sink P, Bed P])).frame.place es) (i + 1) := fun i hi => by
      rw [← hW.deafEnd (i + 1), ren_succ]
    have hw : ∀ i, o < i → i < o + (n + 1) → ∃ qi, ∀ g, gs[i]? = some g → QuitsD P qi (Deaf (T ++ MemOp.ofEvents 0 (G fr ([] ++ c :: Z)).frame.fn (G fr ([] ++ c :: Z)).frame.place es) i) g := by
      intro i hi hin
      obtain ⟨k, rfl⟩ : ∃ k, i = o + (k + 1) := ⟨i - (o + 1), by omega⟩
      have hk : k < n := by omega
      obtain ⟨g, qi, hg, hq⟩ := k2 k hk
      rw [get_map_set _ _ _ _ (by omega)] at hg
      obtain ⟨y, hy, rfl⟩ := Option.map_eq_some_iff.1 hg
      rw [(inv_worker i1 hy _ _ _).1] at hq
      refine ⟨qi, fun g hg' => ?_⟩
      rw [h.same, hy] at hg'
      cases hg'
      rw [hdeaf k hk]
      exact hq
    classical
    let q' : Nat → Nat := fun i => if i ≤ o then q i else if hi : o < i ∧ i < o + (n + 1) then (hw i hi.1 hi.2).choose else 0
    refine ⟨q', fun i x hi hx => ?_, fun i hi => ?_⟩
    · rw [get_map_set _ _ _ _ (by omega)] at hx
      obtain ⟨y, hy, rfl⟩ := Option.map_eq_some_iff.1 hx
      by_cases hio : i ≤ o
      · have hqj := h.old i y hi hio hy
        have e : q' i = q i := if_pos hio
        rw [woken_quitsD hqj, hother T i (by omega), e]
        exact hqj
      · have his : i < gs.size := (Array.getElem?_eq_some_iff.1 hy).1
        have hin : o < i ∧ i < o + (n + 1) := by omega
        have e : q' i = (hw i hin.1 hin.2).choose := by simp only [q', if_neg hio, dif_pos hin]
        have := (hw i hin.1 hin.2).choose_spec y hy
        rw [woken_quitsD this, e]
        exact this
    · simp only [Array.size_setIfInBounds, Array.size_map] at hi
      rw [hother T i (by omega)]
      exact h.above i hi
  · exfalso
    rcases hlost with ⟨g, w', es, hgo, hd⟩ | ⟨x, w', es, hend, hnd⟩
    · obtain ⟨h2, hl, μ', hlt, j1, _⟩ := both hgo
      exact no_doom R₁ _ _ _ j1 g (get_map_set_same _ _ _ hg0) hd
    · rcases s1 with ⟨a1, w1, es1, h1, _⟩ | ⟨a1, ch1, h1, _⟩ | ⟨v, es1, h1⟩
      · rw [hend] at h1; cases h1
      · rw [hend] at h1; cases h1
      · rw [hend] at h1
        simp only [GStep.ended.injEq] at h1
        exact hnd (by rw [h1.1]; trivial)
/-- ████ THE PHASE, ON WHATEVER TAPE: the starter's function comes back. ████ -/
theorem phase (R₁ : Rules P ty Wg C n Own₁ Rd Lw val vals AnchW Post) (R₂ : Rules P ty Wg C n Own₂ Rd Lw val vals AnchW Post) (hF : Fit P F) (hix : P.inits.idxOf? P.funcs.size = none) (hO : ∀ k l, Own₁ k l → ¬ Shun l) (hR : ∀ k l, Rd k l → ¬ Shun l) (hS : ∀ l, Shun l → Own₂ 1 l)
    {B : Nat} (hP : Past Shun B t₀) {c : Frame} {Z : List Frame} (hY : Y = c :: Z) : ∀ (ν : Nat × Nat) (gs gh : Array Goroutine) (W : World) (sl : Option (Nat × Nat)) (T t : Trace) (μ : Nat × Nat) (q : Nat → Nat), ν = (μ.1, μ.2 + 2 * sumTo (o + 1) q) → (Duo P F ty Wg C n Own₁ Own₂ Rd Lw val vals AnchW Post Shun o t₀ Y) μ q gs gh W T t →
      ∃ N gs' W' sl' T', runNT P N (crowd gs W sl) T = (.next (crowd gs' W' sl'), T') ∧ Over P Wg C n vals Post Shun o c Z gs' W' T' := by
  intro ν
  refine (Prod.lex Nat.lt_wfRel Nat.lt_wfRel).wf.induction (C := fun ν => ∀ (gs gh : Array Goroutine) (W : World) (sl : Option (Nat × Nat)) (T t : Trace) (μ : Nat × Nat) (q : Nat → Nat), ν = (μ.1, μ.2 + 2 * sumTo (o + 1) q) → (Duo P F ty Wg C n Own₁ Own₂ Rd Lw val vals AnchW Post Shun o t₀ Y) μ q gs gh W T t →
      ∃ N gs' W' sl' T', runNT P N (crowd gs W sl) T = (.next (crowd gs' W' sl'), T') ∧ Over P Wg C n vals Post Shun o c Z gs' W' T') ν ?_
  intro ν ih gs gh W sl T t μ q hν h
  have hsz := h.size
  obtain ⟨fr, top, st, z1, z2, _⟩ := id h.zero
  obtain ⟨sl₁, i1⟩ := h.inv1
  obtain ⟨haw, ⟨i₀, g₀, hi₀, hr₀⟩, hg0, _⟩ := inv_awake R₁ i1
  have haw' : ∀ g ∈ gs, awake g := by
    intro g hg
    obtain ⟨i, hi⟩ := Array.mem_iff_getElem?.1 hg
    rcases Nat.eq_zero_or_pos i with rfl | hpos
    · rw [z2] at hi; cases hi
      have := haw _ (Array.mem_of_getElem? z1)
      exact this
    · rcases Nat.lt_or_ge o i with hlt | hge
      · obtain ⟨k, rfl⟩ : ∃ k, i = o + (k + 1) := ⟨i - (o + 1), by omega⟩
        rw [h.same] at hi
        exact haw g (Array.mem_of_getElem? hi)
      · exact awake_of ((h.old i g hpos hge hi).status.elim .inl fun x => .inr (.inr x))
  have hsome : ∃ (i : Nat) (g : Goroutine), gs[i]? = some g ∧ g.status = .running := by
    cases i₀ with
    | zero =>
      rw [z1] at hi₀; cases hi₀
      exact ⟨0, _, z2, hr₀⟩
    | succ k => exact ⟨o + (k + 1), g₀, by rw [h.same]; exact hi₀, hr₀⟩
  obtain ⟨i, g, d, sl', hi, hg, hst⟩ := crowd_pick (P := P) (w := W) (sl := sl) haw' hsome
  have h' := h.at d
  rcases Nat.eq_zero_or_pos i with rfl | hpos
  · rcases h'.lead R₁ R₂ hF hix hS hP hY hi hg with ⟨a', w', es, μ', gh', t', hgo, hlt, hd⟩ | ⟨a', child, μ', gh', t', hsp, hlt, hd⟩ | ⟨a', w', es, hgo, hov⟩
    · have hrunT := runT_crowd_go (P := P) (sl := sl') (i := 0) hi (show stepG P (0 == 0) g (W.at d) = _ from hgo)
      obtain ⟨N, gs', W', sl'', T', r1, r2⟩ := ih (μ'.1, μ'.2 + 2 * sumTo (o + 1) q) (by
        rw [hν]
        rcases Prod.lex_def.1 hlt with h1 | ⟨h1, h2⟩
        · exact Prod.Lex.left _ _ h1
        · rw [h1]; exact Prod.Lex.right _ (show μ'.2 + 2 * sumTo (o + 1) q < μ.2 + 2 * sumTo (o + 1) q by omega)) _ _ _ sl' _ _ μ' q rfl hd
      exact ⟨N + 1, gs', W', sl'', T', by simp only [runNT, hst, hrunT]; exact r1, r2⟩
    · have hrunT := runT_crowd_spawn (P := P) (sl := sl') (i := 0) hi (show stepG P (0 == 0) g (W.at d) = _ from hsp)
      rw [ofEvents_nil] at hrunT
      obtain ⟨N, gs', W', sl'', T', r1, r2⟩ := ih (μ'.1, μ'.2 + 2 * sumTo (o + 1) q) (by
        rw [hν]
        rcases Prod.lex_def.1 hlt with h1 | ⟨h1, h2⟩
        · exact Prod.Lex.left _ _ h1
        · rw [h1]; exact Prod.Lex.right _ (show μ'.2 + 2 * sumTo (o + 1) q < μ.2 + 2 * sumTo (o + 1) q by omega)) _ _ _ sl' _ _ μ' q rfl hd
      exact ⟨N + 1, gs', W', sl'', T', by simp only [runNT, hst, hrunT]; exact r1, r2⟩
    · have hrunT := runT_crowd_go (P := P) (sl := sl') (i := 0) hi (show stepG P (0 == 0) g (W.at d) = _ from hgo)
      exact ⟨1, _, w', sl', _, by simp only [runNT, hst, hrunT], hov⟩
  · have hi0 : (i == 0) = false := by simp; omega
    rcases Nat.lt_or_ge o i with hlt | hge
    · obtain ⟨k, rfl⟩ : ∃ k, i = o + (k + 1) := ⟨i - (o + 1), by omega⟩
      obtain ⟨g', w', es, μ', gh', t', hgo, hlt', hd⟩ := h'.work R₁ R₂ hO hR hi hg
      have hrunT := runT_crowd_go (P := P) (sl := sl') (i := o + (k + 1)) hi (by rw [hi0]; exact hgo)
      obtain ⟨N, gs', W', sl'', T', r1, r2⟩ := ih (μ'.1, μ'.2 + 2 * sumTo (o + 1) q) (by
        rw [hν]
        rcases Prod.lex_def.1 hlt' with h1 | ⟨h1, h2⟩
        · exact Prod.Lex.left _ _ h1
        · rw [h1]; exact Prod.Lex.right _ (show μ'.2 + 2 * sumTo (o + 1) q < μ.2 + 2 * sumTo (o + 1) q by omega)) _ _ _ sl' _ _ μ' q rfl hd
      exact ⟨N + 1, gs', W', sl'', T', by simp only [runNT, hst, hrunT]; exact r1, r2⟩
    · obtain ⟨g', es, k, μ', gh', hgo, hq, e1, e2, hd⟩ := h'.slip R₁ R₂ hpos hge hi hg
      have hrunT := runT_crowd_go (P := P) (sl := sl') (i := i) hi (by rw [hi0]; exact hgo)
      have hsum : sumTo (o + 1) (upd q i k) + (k + 1) = sumTo (o + 1) q + k := by
        have := sumTo_upd q k id (show i < o + 1 by omega)
        simpa [hq] using this
      obtain ⟨N, gs', W', sl'', T', r1, r2⟩ := ih (μ'.1, μ'.2 + 2 * sumTo (o + 1) (upd q i k)) (by
        rw [hν, e1]; exact Prod.Lex.right _ (show μ'.2 + 2 * sumTo (o + 1) (upd q i k) < μ.2 + 2 * sumTo (o + 1) q by omega)) _ _ _ sl' _ _ μ' (upd q i k) rfl hd
      exact ⟨N + 1, gs', W', sl'', T', by simp only [runNT, hst, hrunT]; exact r1, r2⟩
end
end Go.Tw
end

section
namespace Go.Proofs.Ytcdnmnipaaooiaa
open Go.Conc Go.ConcN Go.RowKit Go.Conc.Lib Go.ConcR.Gen Go.ConcN.Gen Go.Tw
open Go.ConcR (KK wgBlock WgAt stA smA rd wr mk Payload Aside2 DC0 ofEvent_cell)
structure CI (J : Job) (W : World) (B s : Nat) (vi : Option Value) (w : World) : Prop where
  below : Below J.N W w
  lo : J.N + 6 ≤ B
  size : w.heap.size = B + s
  av : w.heap[J.N]? = some (.cells #[.slice (some J.a) J.n J.ca] 23)
  bv : w.heap[J.N + 1]? = some (.cells #[.slice (some J.b) J.n J.cb] 23)
  mv : w.heap[J.N + 2]? = some (.cells #[.func (.func J.f) #[] #[]] 46)
  ov : w.heap[J.N + 4]? = some (.cells #[.slice (some ⟨J.N + 3, 0, none⟩) J.n J.n] 23)
  ci : ∀ v, vi = some v → w.heap[B]? = some (.cells #[v] 3)
  ii : ∀ k, J.N + 6 ≤ k → k < B → ∃ v, w.heap[k]? = some (.cells #[v] 3)
theorem cell_of_cells {w : World} {b : Nat} {u : Value} {t : TypeId} (h : w.heap[b]? = some (.cells #[u] t)) : w.cell? ⟨b, 0, none⟩ = some u ∧ w.frozen? ⟨b, 0, none⟩ = false := ⟨by simp [World.cell?, h], by simp [World.frozen?, h]⟩
section
variable {J : Job} {W : World} {B s : Nat} {vi : Option Value} {w w₁ : World}
theorem CI.aside2 (h : CI J W B s vi w) (ha : Aside2 (J.N + 3) (J.N + 5) w w₁) : CI J W B s vi w₁ :=
  ⟨⟨ha.os.trans h.below.os, ha.tape.trans h.below.tape, ha.output.trans h.below.output, by rw [ha.size]; exact h.below.size, fun k hk => (ha.block k (by omega) (by omega)).trans (h.below.block k hk)⟩, h.lo, by rw [ha.size]; exact h.size,
    (ha.block _ (by omega) (by omega)).trans h.av, (ha.block _ (by omega) (by omega)).trans h.bv, (ha.block _ (by omega) (by omega)).trans h.mv, (ha.block _ (by omega) (by omega)).trans h.ov, fun v e => (ha.block B (by have := h.lo; omega) (by have := h.lo; omega)).trans (h.ci v e), fun k hk hB => (h.ii k hk hB).imp fun v e => (ha.block k (by omega) (by omega)).trans e⟩
theorem ci_rely (h : CI J W B s vi w ∧ WgLive 72 (J.N + 5) w) (r : RC 72 (J.N + 5) (J.N + 3) w w₁) : CI J W B s vi w₁ ∧ WgLive 72 (J.N + 5) w₁ := ⟨h.1.aside2 r.aside, r.live h.2⟩
theorem live_low {Low : Nat} (h : WgLive 72 (J.N + 5) w) (hl : ∀ b, b < Low → w₁.heap[b]? = w.heap[b]?) (hL : J.N + 5 < Low) : WgLive 72 (J.N + 5) w₁ := let ⟨st, sm, x⟩ := h; ⟨st, sm, x.of_block (hl _ hL)⟩
theorem low_alloc (h : w.heap.size = B + s) (o : Obj) : ∀ b, b < B → (w.alloc o).heap[b]? = w.heap[b]? := fun b hb => Below.heap_alloc _ _ _ (by omega)
theorem low_set (a : Addr) (v : Value) (ha : B ≤ a.block) : ∀ b, b < B → (w.setCell a v).heap[b]? = w.heap[b]? := fun b hb => (aside_setCell w a v).block b (by omega)
theorem CI.alloc1 (h : CI J W B 0 none w) (v : Value) : CI J W B 1 (some v) (w.alloc (.cells #[v] 3)) := by
  have hs := h.size
  have hl := h.lo
  have lo : ∀ b, b < B → (w.alloc (.cells #[v] 3)).heap[b]? = w.heap[b]? := low_alloc hs _
  refine ⟨h.below.alloc (by omega) _, h.lo, by simp [hs], (lo _ (by omega)).trans h.av, (lo _ (by omega)).trans h.bv, (lo _ (by omega)).trans h.mv, (lo _ (by omega)).trans h.ov, fun u e => ?_, fun k hk hB => (h.ii k hk hB).imp fun v e => (lo k hB).trans e⟩
  cases e
  have := heap_alloc_new w (.cells #[v] 3)
  rwa [hs] at this
theorem heap_set1 {b : Nat} {u : Value} (h : w.heap[b]? = some (.cells #[u] 3)) (v : Value) : (w.setCell ⟨b, 0, none⟩ v).heap[b]? = some (.cells #[v] 3) := by
  rw [setCell_eq_setRow w b 0 #[u] 3 (0, 0) _ h, setRow_heap w b _ _ 3 _ h]
  simp
theorem CI.store1 {u : Value} (h : CI J W B 1 (some u) w) (v : Value) : CI J W B 1 (some v) (w.setCell ⟨B, 0, none⟩ v) := by
  have hA := aside_setCell w ⟨B, 0, none⟩ v
  have hlo := h.lo
  have lo : ∀ b, b < B → (w.setCell ⟨B, 0, none⟩ v).heap[b]? = w.heap[b]? := low_set ⟨B, 0, none⟩ v (Nat.le_refl B)
  refine ⟨⟨hA.os.trans h.below.os, hA.tape.trans h.below.tape, hA.output.trans h.below.output, by rw [hA.size]; exact h.below.size, fun k hk => (lo k (by omega)).trans (h.below.block k hk)⟩, h.lo, by rw [hA.size]; exact h.size,
    (lo _ (by omega)).trans h.av, (lo _ (by omega)).trans h.bv, (lo _ (by omega)).trans h.mv, (lo _ (by omega)).trans h.ov, fun u' e => ?_, fun k hk hB => (h.ii k hk hB).imp fun v e => (lo k hB).trans e⟩
  cases e
  exact heap_set1 (h.ci u rfl) v
theorem CI.next {u : Value} (h : CI J W B 1 (some u) w) : CI J W (B + 1) 0 none w := ⟨h.below, (by have := h.lo; omega), h.size, h.av, h.bv, h.mv, h.ov, fun _ e => (by cases e), fun k hk hB => by
  by_cases e : k = B
  · subst e; exact ⟨u, h.ci u rfl⟩
  · exact h.ii k hk (by omega)⟩
end
section
variable {J : Job} {j : Nat} {Ow : Nat → Loc → Prop}
/-- The starter reads a cell that is neither the group's nor the payload's nor out of bounds. -/
theorem ev0_rd (hO : ∀ k a, Ow k (.cell a) → a.block = J.N + 3 ∨ J.S a.block) (a : Addr) (s : Bool) (h : a.block ≠ J.N + 5) (h' : a.block ≠ J.N + 3) (h2 : ¬ J.S a.block) : Ev0 (J.N + 5) Ow (Rd J.N J.S) j ⟨.cell a, false, s⟩ := by
  refine ⟨fun fn pos => ⟨rfl, fun y hy => ?_⟩, by simp, by simp, by simp⟩
  simp only [ofEvent_cell, MemAct.touch?, Option.some.injEq] at hy
  subst hy
  exact .inr ⟨fun ⟨a', e, hb⟩ => by cases e; exact h hb, fun k _ _ ho => (hO k a ho).elim h' h2, fun e => by cases e⟩
/-- It writes a cell of a block that is still its own. -/
theorem ev0_wr (hO : ∀ k a, Ow k (.cell a) → a.block = J.N + 3 ∨ J.S a.block) (hJ : J.Sound) (a : Addr) (s : Bool) (h : Lw J.N j ≤ a.block) : Ev0 (J.N + 5) Ow (Rd J.N J.S) j ⟨.cell a, true, s⟩ := by
  simp only [Lw] at h
  refine ⟨fun fn pos => ⟨rfl, fun y hy => ?_⟩, by simp, by simp, by simp⟩
  simp only [ofEvent_cell, MemAct.touch?, Option.some.injEq] at hy
  subst hy
  refine .inr ⟨fun ⟨a', e, hb⟩ => by cases e; omega, fun k _ _ ho => ?_, fun _ k k1 kj ⟨_, a', e, _, _, hb, _⟩ => ?_⟩
  · rcases hO k a ho with h1 | h1
    · omega
    · have := hJ.sLow _ h1; omega
  · cases e
    simp only [Lw] at hb
    omega
end
theorem array39 (T : Array Value) (h : T.size = 39) : ∃ v0 v1 v2 v3 v4 v5 v6 v7 v8 v9 v10 v11 v12 v13 v14 v15 v16 v17 v18 v19 v20 v21 v22 v23 v24 v25 v26 v27 v28 v29 v30 v31 v32 v33 v34 v35 v36 v37 v38 : Value, T = #[v0, v1, v2, v3, v4, v5, v6, v7, v8, v9, v10, v11, v12, v13, v14, v15, v16, v17, v18, v19, v20, v21, v22, v23, v24, v25, v26, v27, v28, v29, v30, v31, v32, v33, v34, v35, v36, v37, v38] := by
  obtain ⟨l⟩ := T
  simp only [List.size_toArray] at h
  rcases l with _ | ⟨v0, l⟩
  · simp at h
  rcases l with _ | ⟨v1, l⟩
  · simp at h
  rcases l with _ | ⟨v2, l⟩
  · simp at h
  rcases l with _ | ⟨v3, l⟩
  · simp at h
  rcases l with _ | ⟨v4, l⟩
  · simp at h
  rcases l with _ | ⟨v5, l⟩
  · simp at h
  rcases l with _ | ⟨v6, l⟩
  · simp at h
  rcases l with _ | ⟨v7, l⟩
  · simp at h
  rcases l with _ | ⟨v8, l⟩
  · simp at h
  rcases l with _ | ⟨v9, l⟩
  · simp at h
  rcases l with _ | ⟨v10, l⟩
  · simp at h
  rcases l with _ | ⟨v11, l⟩
  · simp at h
  rcases l with _ | ⟨v12, l⟩
  · simp at h
  rcases l with _ | ⟨v13, l⟩
  · simp at h
  rcases l with _ | ⟨v14, l⟩
  · simp at h
  rcases l with _ | ⟨v15, l⟩
  · simp at h
  rcases l with _ | ⟨v16, l⟩
  · simp at h
  rcases l with _ | ⟨v17, l⟩
  · simp at h
  rcases l with _ | ⟨v18, l⟩
  · simp at h
  rcases l with _ | ⟨v19, l⟩
  · simp at h
  rcases l with _ | ⟨v20, l⟩
  · simp at h
  rcases l with _ | ⟨v21, l⟩
  · simp at h
  rcases l with _ | ⟨v22, l⟩
  · simp at h
  rcases l with _ | ⟨v23, l⟩
  · simp at h
  rcases l with _ | ⟨v24, l⟩
  · simp at h
  rcases l with _ | ⟨v25, l⟩
  · simp at h
  rcases l with _ | ⟨v26, l⟩
  · simp at h
  rcases l with _ | ⟨v27, l⟩
  · simp at h
  rcases l with _ | ⟨v28, l⟩
  · simp at h
  rcases l with _ | ⟨v29, l⟩
  · simp at h
  rcases l with _ | ⟨v30, l⟩
  · simp at h
  rcases l with _ | ⟨v31, l⟩
  · simp at h
  rcases l with _ | ⟨v32, l⟩
  · simp at h
  rcases l with _ | ⟨v33, l⟩
  · simp at h
  rcases l with _ | ⟨v34, l⟩
  · simp at h
  rcases l with _ | ⟨v35, l⟩
  · simp at h
  rcases l with _ | ⟨v36, l⟩
  · simp at h
  rcases l with _ | ⟨v37, l⟩
  · simp at h
  rcases l with _ | ⟨v38, l⟩
  · simp at h
  rcases l with _ | ⟨x, l⟩
  · exact ⟨v0, v1, v2, v3, v4, v5, v6, v7, v8, v9, v10, v11, v12, v13, v14, v15, v16, v17, v18, v19, v20, v21, v22, v23, v24, v25, v26, v27, v28, v29, v30, v31, v32, v33, v34, v35, v36, v37, v38, rfl⟩
  · simp at h
noncomputable def body46 : Code := Try.f46.body.getD .skip
noncomputable def L46 : Code := match body46 with | .seq _ (.seq _ (.seq _ (.seq _ (.seq (.seq _ (.block _ (.loop c))) _)))) => c | _ => .skip
noncomputable def R46 : Code := match body46 with | .seq _ (.seq _ (.seq _ (.seq _ (.seq _ r)))) => r | _ => .skip
noncomputable def ops11 : Array Oper := match R46 with | .seq (.region _ ops _) _ => ops | _ => #[]
noncomputable def tail11 : Code := match R46 with | .seq _ r => r | _ => .skip
theorem loud46 : (Try.prog.funcs[(base 46).fn]?).any (·.norace) = false := by kernel_rfl
end Go.Proofs.Ytcdnmnipaaooiaa
end

section
namespace Go.Proofs.Ytcdnmnipaaooiaa
open Go.Conc Go.ConcN Go.RowKit Go.Conc.Lib Go.ConcR.Gen Go.ConcN.Gen Go.Tw
open Go.ConcR (KK wgBlock WgAt stA smA rd wr mk Payload Aside2 DC0 ofEvent_cell)
/-- What lies below the phase's own starter. -/
noncomputable def csE : List Frame := [Sink Try.prog, Bed Try.prog]
def valsE (J : Job) : List Value := (List.range J.n).map J.out
def backE (J : Job) : Value := .tuple #[.slice (some ⟨J.N + 3, 0, none⟩) J.n J.n, .bool true]
section
variable (J : Job) (W : World) (Ow : Nat → Loc → Prop)
/-- What the starter knows once all are started. -/
abbrev FE : World → Prop := CI J W (J.N + 6 + J.n) 0 none
noncomputable def cW (T : Array Value) : Frame := (base 46).at ⟨T, []⟩ (.inRegion ops11 (0 :: []) :: [.code tail11])
/-- THE ANCHOR AT THE HEAD OF Wait's LOOP. -/
def AnW (g : Goroutine) (w : World) : Prop := ∃ T : Array Value, T.size = 39 ∧ T[8]? = some (.pointer (some ⟨J.N + 4, 0, none⟩)) ∧ AnchWN Try.link (FE J W) (J.N + 5) (cW T) csE g w
/-- WHAT IS SAID AT THE RETURN. -/
def PostE (_ : Value) (w' : World) : Prop := CI J W (J.N + 6 + J.n) 1 none w' ∧ w'.heap[J.N + 6 + J.n]? = some (.cells #[backE J] 0) ∧ WgLive 72 (J.N + 5) w'
abbrev GS (j : Nat) (Stop : Goroutine → World → Prop) (m : Nat) (g : Goroutine) (w : World) : Prop := Goes Try.prog true (RC 72 (J.N + 5) (J.N + 3)) (DP (J.N + 5) Ow (Rd J.N J.S) j (Lw J.N j)) Stop m g w
end
section
variable {J : Job} {W : World} {Ow : Nat → Loc → Prop}
theorem fe2 {B s : Nat} {vi : Option Value} : ∀ w w', Aside2 (J.N + 3) (J.N + 5) w w' → CI J W B s vi w → CI J W B s vi w' := fun _ _ h1 h2 => h2.aside2 h1
/-- Behind the return: the box below. -/
theorem afterReturn (hix : Try.prog.inits.idxOf? Try.prog.funcs.size = none) (w : World) (h1 : FE J W w) (h2 : WgLive 72 (J.N + 5) w) :
    GS J Ow J.n (AtRet Try.prog (J.N + 5) (J.N + 3) J.n Ow (Rd J.N J.S) (valsE J) (PostE J W)) 5 (G ((Sink Try.prog).finish (backE J)) [Bed Try.prog]) w := by
  have still : ∀ {x : World}, DP (J.N + 5) Ow (Rd J.N J.S) J.n (Lw J.N J.n) x x #[] := fun {x} => ⟨fun _ _ => rfl, by simp⟩
  refine Goes.step rfl fun w₁ r₁ => ?_
  obtain ⟨h1, h2⟩ := ci_rely ⟨h1, h2⟩ r₁
  rw [sink_box]
  have hs := h1.size
  have hlow : ∀ b, b < Lw J.N J.n → (boxed w₁ (backE J)).heap[b]? = w₁.heap[b]? := fun b hb => by
    simp only [Lw] at hb
    show (w₁.heap.push _)[b]? = _
    rw [Array.getElem?_push, if_neg (by omega)]
  refine ⟨⟨hlow, by simp⟩, ?_⟩
  have lo := h1.lo
  have hl2 : WgLive 72 (J.N + 5) (boxed w₁ (backE J)) := live_low h2 hlow (by simp only [Lw]; omega)
  have hc2 : CI J W (J.N + 6 + J.n) 1 none (boxed w₁ (backE J)) := by
    refine ⟨⟨h1.below.os, h1.below.tape, h1.below.output, ?_, fun k hk => (hlow k (by simp only [Lw]; omega)).trans (h1.below.block k hk)⟩, h1.lo, ?_, (hlow _ (by simp only [Lw]; omega)).trans h1.av, (hlow _ (by simp only [Lw]; omega)).trans h1.bv, (hlow _ (by simp only [Lw]; omega)).trans h1.mv, (hlow _ (by simp only [Lw]; omega)).trans h1.ov, fun _ e => (by cases e), fun k hk hB => (h1.ii k hk hB).imp fun v e => (hlow k (by simp only [Lw]; omega)).trans e⟩
    · have := h1.below.size
      show _ ≤ (w₁.heap.push _).size
      simp; omega
    · show (w₁.heap.push _).size = _
      simp [hs]
  have hb2 : (boxed w₁ (backE J)).heap[J.N + 6 + J.n]? = some (.cells #[backE J] 0) := by
    show (w₁.heap.push _)[J.N + 6 + J.n]? = _
    rw [Array.getElem?_push, if_pos (by omega)]
    rfl
  generalize boxed w₁ (backE J) = w' at hl2 hc2 hb2
  have rel : ∀ {x y : World}, (CI J W (J.N + 6 + J.n) 1 none x ∧ WgLive 72 (J.N + 5) x) ∧ x.heap[J.N + 6 + J.n]? = some (.cells #[backE J] 0) → RC 72 (J.N + 5) (J.N + 3) x y → (CI J W (J.N + 6 + J.n) 1 none y ∧ WgLive 72 (J.N + 5) y) ∧ y.heap[J.N + 6 + J.n]? = some (.cells #[backE J] 0) :=
    fun h r => ⟨ci_rely h.1 r, (r.aside.block _ (by omega) (by omega)).trans h.2⟩
  have hF := And.intro (And.intro hc2 hl2) hb2
  clear hl2 hc2 hb2 hlow
  refine Goes.step rfl fun w₂ r₂ => ?_
  replace hF := rel hF r₂
  have hp : stepG Try.prog true (G { Sink Try.prog with tmps := #[backE J, boxedAt w₁], todo := [.inRegion sinkOps [2]] } [Bed Try.prog]) w₂ = .go (G { Sink Try.prog with tmps := #[backE J, .slice (some ⟨J.N + 3, 0, none⟩) J.n J.n], todo := [.inRegion sinkOps []] } [Bed Try.prog]) w₂ #[] := rfl
  rw [hp]
  refine ⟨still, Goes.step rfl fun w₃ r₃ => ?_⟩
  replace hF := rel hF r₃
  rw [sink_end]
  refine ⟨still, Goes.step rfl fun w₄ r₄ => ?_⟩
  replace hF := rel hF r₄
  rw [sink_done]
  refine ⟨still, Goes.step rfl fun w₅ r₅ => ?_⟩
  replace hF := rel hF r₅
  rw [sink_back]
  refine ⟨still, Goes.stop fun w₆ r₆ => ⟨rfl, fun _ => ?_⟩⟩
  replace hF := rel hF r₆
  exact ⟨undef, #[], bed_end hix, by simp, hF.1.1, hF.2, hF.1.2⟩
set_option maxRecDepth 100000 in
set_option maxHeartbeats 4000000 in
/-- BACK FROM wg.Wait: TO THE RETURN. -/
theorem afterWait (hix : Try.prog.inits.idxOf? Try.prog.funcs.size = none) (hJ : J.Sound) (hOn : ∀ k a, Ow k (.cell a) → a.block = J.N + 3 ∨ J.S a.block) (T : Array Value) (hT : T.size = 39) (t8 : T[8]? = some (.pointer (some ⟨J.N + 4, 0, none⟩))) (w : World) (h1 : FE J W w) (h2 : WgLive 72 (J.N + 5) w) :
    GS J Ow J.n (AtRet Try.prog (J.N + 5) (J.N + 3) J.n Ow (Rd J.N J.S) (valsE J) (PostE J W)) 14 (G ((base 46).at ((⟨T, []⟩ : Act).put ((ops11[0]?).bind (·.dst)) (.tuple #[])) (.inRegion ops11 [] :: [.code tail11])) csE) w := by
  have hF := And.intro h1 h2
  have hA := afterReturn (Ow := Ow) (J := J) (W := W) hix
  have bad : ¬ J.S (J.N + 4) := fun h => by have := hJ.sLow _ h; omega
  obtain ⟨v0, v1, v2, v3, v4, v5, v6, v7, v8, v9, v10, v11, v12, v13, v14, v15, v16, v17, v18, v19, v20, v21, v22, v23, v24, v25, v26, v27, v28, v29, v30, v31, v32, v33, v34, v35, v36, v37, v38, rfl⟩ := array39 T hT
  simp only [List.getElem?_toArray, List.getElem?_cons_succ, List.getElem?_cons_zero, Option.some.injEq] at t8
  subst t8
  simp only [ops11, tail11, R46, body46, Try.f46, Option.getD_some, csE]
  walk_nrm
  u_c stepG_region_end ci_rely hF
  u_c stepG_seq ci_rely hF
  u_reg ci_rely hF
  u_in ci_rely hF
  refine goes_oper_k rfl rfl (by decide) (fun K hK => ?_)
  have hc := (cell_of_cells hF.1.ov).1
  go_simp
  refine hK _ _ ⟨⟨fun _ _ => rfl, fun e he => ?_⟩, ?_⟩
  · have hm := mem_listed he
    simp [go_sem, *] at hm
    subst hm
    exact ev0_rd hOn _ _ (by simp) (by simp) bad
  clear hK K hc
  u_op ci_rely hF
  u_op ci_rely hF
  u_c stepG_region_end ci_rely hF
  u_c stepG_ret' ci_rely hF
  refine Goes.step rfl fun w₁ r₁ => ?_
  replace hF := ci_rely hF r₁
  rw [stepG_leave (b := base 46) rfl rfl Try.func46 (results_tmp2 (t := 6) (u := 7) rfl _ _ _) (events_results_tmp2 (t := 6) (u := 7) rfl _ _)]
  exact ⟨⟨fun _ _ => rfl, by simp⟩, hA _ hF.1 hF.2⟩
/-- FROM THE HEAD OF Wait's LOOP. -/
theorem anW_round (hix : Try.prog.inits.idxOf? Try.prog.funcs.size = none) (hJ : J.Sound) (hOn : ∀ k a, Ow k (.cell a) → a.block = J.N + 3 ∨ J.S a.block) (g : Goroutine) (w : World) (h : AnW J W g w) : ∃ m, GS J Ow J.n (AtW1 Try.prog 72 (J.N + 5) (J.N + 3) J.n Ow (Rd J.N J.S) (Lw J.N J.n) (valsE J) (AnW J W) (PostE J W)) m g w := by
  obtain ⟨T, hT, t8, hA⟩ := h
  obtain ⟨m, hm⟩ := waitRoundN (L := Try.link) (P := Try.prog) Try.wgLib (C := J.N + 3) (n := J.n) (Low := Lw J.N J.n) (Own := Ow) (Rd := Rd J.N J.S) (vals := valsE J) (Post := PostE J W) (b₀ := base 46) (a₀ := ⟨T, []⟩) (ops₀ := ops11) (i₀ := 0) (rest₀ := []) (k₀ := [.code tail11]) (cs := csE) (mT := 14) fe2 (afterWait hix hJ hOn T hT t8) g w hA
  exact ⟨m, goes_mono (fun _ _ y => AtW1.mono (fun _ _ z => ⟨T, hT, t8, z⟩) y) hm⟩
theorem anW_runs (g : Goroutine) (w : World) (h : AnW J W g w) : g.status = .running := by
  obtain ⟨_, _, _, _, hg, _⟩ := h
  rw [hg]; rfl
theorem valsE_length : (valsE J).length = J.n := by simp [valsE]
theorem valsE_get (i : Nat) (hi : i < J.n) : (valsE J)[i]? = some (J.out i) := by simp [valsE, hi]
end
end Go.Proofs.Ytcdnmnipaaooiaa
end

section
namespace Go.Proofs.Ytcdnmnipaaooiaa
open Go.Conc Go.ConcN Go.RowKit Go.Conc.Lib Go.ConcR.Gen Go.ConcN.Gen Go.Tw
open Go.ConcR (KK wgBlock WgAt stA smA rd wr mk Payload Aside2 DC0 ofEvent_cell)
noncomputable def ops9 : Array Oper := match L46 with | .seq _ (.seq _ (.seq (.block _ (.seq _ (.seq _ (.region _ ops _)))) _)) => ops | _ => #[]
noncomputable def r10 : Code := match L46 with | .seq _ (.seq _ (.seq _ r)) => r | _ => .skip
section
variable (J : Job) (W : World) (Ow : Nat → Loc → Prop)
abbrev SP (r : Nat) : Goroutine → World → Prop := Spawns Try.prog 72 (J.N + 5) (J.N + 3) J.n Ow (Rd J.N J.S) (Lw J.N) J.out (Fin Try.prog 72 (J.N + 5) (J.N + 3) J.n Ow (Rd J.N J.S) (Lw J.N) (AnW J W)) r
/-- The next stop, r workers being still to be started. -/
def StopS : Nat → Goroutine → World → Prop
  | 0 => AtKd Try.prog 72 (J.N + 5) (J.N + 3) J.n Ow (Rd J.N J.S) (Lw J.N J.n) (AnW J W)
  | r + 1 => AtKdS Try.prog 72 (J.N + 5) (J.N + 3) J.n Ow (Rd J.N J.S) (Lw J.N) J.out (J.n - (r + 1)) (SP J W Ow r)
theorem spawns_iff (r : Nat) (g : Goroutine) (w : World) : SP J W Ow r g w ↔ ∃ m, GS J Ow (J.n - r) (StopS J W Ow r) m g w := by cases r <;> exact Iff.rfl
/-- What the function's own temporaries hold. -/
structure Tmps (T : Array Value) (j : Nat) : Prop where
  size : T.size = 39
  t3 : T[3]? = some (.pointer (some ⟨J.N, 0, none⟩))
  t4 : T[4]? = some (.pointer (some ⟨J.N + 1, 0, none⟩))
  t5 : T[5]? = some (.pointer (some ⟨J.N + 2, 0, none⟩))
  t8 : T[8]? = some (.pointer (some ⟨J.N + 4, 0, none⟩))
  t9 : T[9]? = some (.pointer (some ⟨J.N + 5, 0, none⟩))
  t30 : T[30]? = some (.int .i64 J.n)
  t31 : T[31]? = some (.int .i64 j)
/-- THE ANCHOR AT THE HEAD OF THE FUNCTION's OWN LOOP: j workers are started. -/
def AnchS (j : Nat) (g : Goroutine) : Prop := ∃ T : Array Value, g = G ((base 46).at ⟨T, []⟩ [.code L46, .inLoop L46, .inBlock 0, .code R46]) csE ∧ Tmps J T j
/-- The frame at the go statement. -/
noncomputable def goFrame (T : Array Value) : Frame := (base 46).at ⟨T, []⟩ (.inRegion ops9 [1] :: .inBlock 1 :: .code r10 :: .inLoop L46 :: .inBlock 0 :: .code R46 :: [])
end
section
variable {main : Bool} {b : Frame} {a : Act} {kk : List Item} {cs : List Frame} {w : World} {ops : Array Oper} {i : Nat} {rest : List Nat} {o : Oper}
/-- A PLAIN STORE OF AN int, AS ONE STEP. -/
theorem stepG_store3 {x y : Operand} (ho : ops[i]? = some o) (hw : Region.wanted o (yielded ops a.tmps) = true) (hk : b.kind ≠ .early) (hop : o.op = .store 3 x y)
    {ad : Addr} {v : Int} {u : Value} (hx : a.eval x = .pointer (some ad)) (hy : a.eval y = .int .i64 v) (hc : w.cell? ad = some u) (hz : w.frozen? ad = false) (hq : (Try.prog.funcs[b.fn]?).any (·.norace) = false) :
    stepG Try.prog main (G (b.at a (.inRegion ops (i :: rest) :: kk)) cs) w = .go (G (b.at (a.put o.dst undef) (.inRegion ops rest :: kk)) cs) (w.setCell ad (.int .i64 v)) #[⟨.cell ad, true, false⟩] := by
  have hT := store_run (v := v) hc hz
  obtain ⟨dst, op, ty, pos, after, guard⟩ := o
  simp only at hop
  subst hop
  have e1 : (execOp a.eval { dst, op := .store 3 x y, type := ty, pos, after, guard }).runT Try.prog w #[] = (.ok .skip (w.setCell ad (.int .i64 v)), #[⟨.cell ad, true, false⟩]) := by
    show (Instr.storeAt 3 (a.eval x) (a.eval y) >>= fun _ => Pure.pure Next.skip).runT Try.prog w #[] = _
    rw [hx, hy]
    show Sem.runT Try.prog (Sem.bind _ _) w #[] = _
    rw [Sem.runT_bind', hT]
    rfl
  rw [stepG_none ho hw hk (by rw [← Sem.runT_fst Try.prog _ w #[], e1])]
  have he : (execOp a.eval { dst, op := .store 3 x y, type := ty, pos, after, guard }).events Try.prog w #[] = #[⟨.cell ad, true, false⟩] := congrArg Prod.snd e1
  unfold listed
  rw [he, seen_eq hq (by simp)]
end
section
variable {J : Job} {W : World} {Ow : Nat → Loc → Prop}
set_option maxRecDepth 100000 in
set_option maxHeartbeats 8000000 in
/-- THE go STATEMENT, and on to the loop's head. -/
theorem goStop (hJ : J.Sound) (hOj : ∀ j, Ow (j + 1) (.cell ⟨J.N + 3, j, none⟩)) (hx : ∀ j, j < J.n → W.cell? (J.a.add j) = some (.int .i64 (J.x j))) (hy : ∀ j, j < J.n → W.cell? (J.b.add j) = some (.int .i64 (J.y j)))
    {r j : Nat} (hj : j + (r + 1) = J.n) {f₁ : Nat} (h₁ : ∀ (g : Goroutine) (w : World), AnchS J (j + 1) g → CI J W (J.N + 6 + (j + 1)) 0 none w ∧ WgLive 72 (J.N + 5) w → GS J Ow (j + 1) (StopS J W Ow r) f₁ g w)
    (T : Array Value) (hT : Tmps J T j) (t10 : T[10]? = some (.pointer (some ⟨J.N + 6 + j, 0, none⟩))) (t35 : T[35]? = some (.func (.func 69) #[] (caps J j))) (w : World) (hF : CI J W (J.N + 6 + j) 1 (some (.int .i64 j)) w ∧ WgLive 72 (J.N + 5) w) :
    AtGoS Try.prog 72 (J.N + 5) (J.N + 3) J.n Ow (Rd J.N J.S) (Lw J.N) J.out j (SP J W Ow r) (G (goFrame T) csE) w := by
  obtain ⟨hs, t3, t4, t5, t8, t9, t30, t31⟩ := hT
  obtain ⟨v0, v1, v2, v3, v4, v5, v6, v7, v8, v9, v10, v11, v12, v13, v14, v15, v16, v17, v18, v19, v20, v21, v22, v23, v24, v25, v26, v27, v28, v29, v30, v31, v32, v33, v34, v35, v36, v37, v38, rfl⟩ := array39 T hs
  simp only [List.getElem?_toArray, List.getElem?_cons_succ, List.getElem?_cons_zero, Option.some.injEq] at t3 t4 t5 t8 t9 t10 t30 t31 t35
  subst t3 t4 t5 t8 t9 t10 t30 t31 t35
  have hjn : j < J.n := by omega
  have hib := (cell_of_cells (hF.1.ci _ rfl)).1
  have haL := hJ.aLow
  have hbL := hJ.bLow
  simp only [goFrame, ops9, r10, L46, body46, Try.f46, Option.getD_some]
  refine ⟨rfl, ?_⟩
  rw [stepG_spawn (d := call69 J j) (w' := w) (f := .func 69) (c := caps J j) rfl rfl (by decide) (by simp [go_sem, call69, Deferred.ofValue]) rfl]
  generalize hL : listed _ _ _ _ _ = Lx
  have hLx : Lx = #[] := by
    rw [← hL]
    simp [listed, go_sem, seen, Deferred.ofValue]
    rfl
  subst hLx
  clear hL
  refine ⟨_, _, rfl, rfl, fun hpay => works hJ hjn hOj ⟨(cell_of_cells hF.1.av).1, (cell_of_cells hF.1.bv).1, (cell_of_cells hF.1.mv).1, (cell_of_cells hF.1.ov).1, hib, (World.cell?_of_block (hF.1.below.block (J.a.add j).block (by rw [add_block]; exact haL))).trans (hx j hjn), (World.cell?_of_block (hF.1.below.block (J.b.add j).block (by rw [add_block]; exact hbL))).trans (hy j hjn), hF.2, hpay⟩, ?_⟩
  -- ON TO THE LOOP's HEAD
  refine (spawns_iff J W Ow r _ _).2 ⟨f₁ + 7, ?_⟩
  have e6 : J.n - r = j + 1 := by omega
  rw [e6]
  replace hF : CI J W (J.N + 6 + (j + 1)) 0 none w ∧ WgLive 72 (J.N + 5) w := ⟨hF.1.next, hF.2⟩
  clear hib
  have hf := hJ.few
  have hwr : IntKind.i64.wrap ((j : Int) + 1) = ((j + 1 : Nat) : Int) := by rw [IntKind.wrap_i64]; omega
  simp only [L46, body46, Try.f46, Option.getD_some, AnchS] at h₁
  walk_nrm
  u_c stepG_region_end ci_rely hF
  u_c stepG_inBlock ci_rely hF
  u_reg ci_rely hF
  u_op ci_rely hF
  u_op ci_rely hF
  u_c stepG_region_end ci_rely hF
  u_c stepG_inLoop ci_rely hF
  refine h₁ _ _ ⟨_, rfl, ⟨by simp, by simp, by simp, by simp, by simp, by simp, by simp, by simp⟩⟩ hF
set_option maxRecDepth 100000 in
set_option maxHeartbeats 8000000 in
/-- ████ THE LOOP THAT STARTS THE WORKERS: j started, r to start. ████ -/
theorem spawnsFrom (hJ : J.Sound) (hOj : ∀ j, Ow (j + 1) (.cell ⟨J.N + 3, j, none⟩)) (hOn : ∀ k a, Ow k (.cell a) → a.block = J.N + 3 ∨ J.S a.block)
    (hx : ∀ j, j < J.n → W.cell? (J.a.add j) = some (.int .i64 (J.x j))) (hy : ∀ j, j < J.n → W.cell? (J.b.add j) = some (.int .i64 (J.y j))) : ∀ (r j : Nat), j + r = J.n →
    ∃ f, ∀ (g : Goroutine) (w : World), AnchS J j g → CI J W (J.N + 6 + j) 0 none w ∧ WgLive 72 (J.N + 5) w → GS J Ow j (StopS J W Ow r) f g w := by
  intro r
  induction r with
  | zero =>
    intro j hj
    obtain rfl : j = J.n := by omega
    refine ⟨9 + 1 + 3, ?_⟩
    rintro g w ⟨T, rfl, hs, t3, t4, t5, t8, t9, t30, t31⟩ hF
    obtain ⟨v0, v1, v2, v3, v4, v5, v6, v7, v8, v9, v10, v11, v12, v13, v14, v15, v16, v17, v18, v19, v20, v21, v22, v23, v24, v25, v26, v27, v28, v29, v30, v31, v32, v33, v34, v35, v36, v37, v38, rfl⟩ := array39 T hs
    simp only [List.getElem?_toArray, List.getElem?_cons_succ, List.getElem?_cons_zero, Option.some.injEq] at t3 t4 t5 t8 t9 t30 t31
    subst t3 t4 t5 t8 t9 t30 t31
    have hA := fun (a₀ : Act) (ops₀ : Array Oper) (i₀ : Nat) (rest₀ : List Nat) (k₀ : List Item) => waitStartN (L := Try.link) (P := Try.prog) (Wg := J.N + 5) (C := J.N + 3) (n := J.n) (Low := Lw J.N J.n) (Own := Ow) (Rd := Rd J.N J.S) (F := FE J W) (b₀ := base 46) (a₀ := a₀) (ops₀ := ops₀) (i₀ := i₀) (rest₀ := rest₀) (k₀ := k₀) (cs := csE) Try.wgLib fe2
    simp only [StopS, L46, R46, body46, body_wait, Try.f46, waitFn, Option.getD_some] at hA ⊢
    have hnl : ¬ ((J.n : Int) < (J.n : Int)) := by omega
    u_c stepG_seq ci_rely hF
    u_reg ci_rely hF
    u_op ci_rely hF
    u_c stepG_region_end ci_rely hF
    u_c stepG_seq ci_rely hF
    u_cond false ci_rely hF
    u_exit ci_rely hF
    u_c stepG_seq ci_rely hF
    u_reg ci_rely hF
    u_in ci_rely hF
    refine goes_call rfl rfl (by decide) rfl Try.func71 (nm_wait Try.link) rfl ⟨by u_nil, ?_⟩
    walk_nrmf Try.f71
    refine goes_mono (fun _ _ y => AtKd.mono (fun _ _ z => ⟨_, ?_, ?_, z⟩) y) (hA _ _ _ _ _ _ hF)
    · simp
    · simp
  | succ r ih =>
    intro j hj
    obtain ⟨f₁, h₁⟩ := ih (j + 1) (by omega)
    have hgo := fun T w => goStop (Ow := Ow) (W := W) (r := r) (j := j) (f₁ := f₁) hJ hOj hx hy hj h₁ T (w := w)
    refine ⟨17 + 1 + 12, ?_⟩
    rintro g w ⟨T, rfl, hs, t3, t4, t5, t8, t9, t30, t31⟩ hF
    obtain ⟨v0, v1, v2, v3, v4, v5, v6, v7, v8, v9, v10, v11, v12, v13, v14, v15, v16, v17, v18, v19, v20, v21, v22, v23, v24, v25, v26, v27, v28, v29, v30, v31, v32, v33, v34, v35, v36, v37, v38, rfl⟩ := array39 T hs
    simp only [List.getElem?_toArray, List.getElem?_cons_succ, List.getElem?_cons_zero, Option.some.injEq] at t3 t4 t5 t8 t9 t30 t31
    subst t3 t4 t5 t8 t9 t30 t31
    have ej : J.n - (r + 1) = j := by omega
    have hjn : j < J.n := by omega
    have hlt : (j : Int) < (J.n : Int) := by omega
    obtain ⟨B, hB⟩ : ∃ B, J.N + 6 + j = B := ⟨_, rfl⟩
    have hLw : Lw J.N j = B := by rw [← hB]; rfl
    rw [hB] at hF hgo
    have hA := fun (b₀ : Frame) (a₀ : Act) (ops₀ : Array Oper) (i₀ : Nat) (rest₀ : List Nat) (k₀ : List Item) (cs : List Frame) (mT : Nat) => addPosN (L := Try.link) (P := Try.prog) (Wg := J.N + 5) (C := J.N + 3) (n := J.n) (Own := Ow) (Rd := Rd J.N J.S) (Lw := Lw J.N) (val := J.out) (j := j) (Next := SP J W Ow r) (F := CI J W B 1 (some (.int .i64 j))) (b₀ := b₀) (a₀ := a₀) (ops₀ := ops₀) (i₀ := i₀) (rest₀ := rest₀) (k₀ := k₀) (cs := cs) (mT := mT) Try.wgLib fe2
    simp only [StopS, ej, L46, R46, body46, body_add, Try.f46, addFn, Option.getD_some] at hA ⊢
    simp only [goFrame, ops9, r10, L46, R46, body46, Try.f46, Option.getD_some] at hgo
    u_c stepG_seq ci_rely hF
    u_reg ci_rely hF
    u_op ci_rely hF
    u_c stepG_region_end ci_rely hF
    u_c stepG_seq ci_rely hF
    u_cond true ci_rely hF
    u_c stepG_skip ci_rely hF
    u_c stepG_seq ci_rely hF
    u_c stepG_block ci_rely hF
    u_c stepG_seq ci_rely hF
    u_reg ci_rely hF
    u_op ci_rely hF
    -- this iteration's i is made
    u_in ci_rely hF
    refine goes_oper_k rfl rfl (by decide) (fun K hK => ?_)
    have hsz := hF.1.size
    go_simp
    refine hK _ _ ⟨⟨fun b hb => low_alloc hsz _ b (by rw [hLw] at hb; exact hb), fun e he => ?_⟩, ?_⟩
    · have hm := mem_listed he
      simp [go_sem, *] at hm
    clear hK K
    replace hF := And.intro (hF.1.alloc1 (.int .i64 0)) (live_low hF.2 (low_alloc hsz (.cells #[.int .i64 0] 3)) (by have := hF.1.lo; omega))
    clear hsz
    -- .. and written
    u_in ci_rely hF
    obtain ⟨hu1, hu2⟩ := cell_of_cells (hF.1.ci _ rfl)
    rw [stepG_store3 rfl rfl (by decide) rfl rfl rfl hu1 hu2 loud46]
    simp only [goes_go]
    refine ⟨⟨fun b hb => low_set ⟨B, 0, none⟩ _ (Nat.le_refl B) b (by rw [hLw] at hb; exact hb), fun e he => ?_⟩, ?_⟩
    · rw [Array.mem_singleton] at he
      subst he
      exact ev0_wr hOn hJ _ _ (by rw [hLw]; exact (Nat.le_refl B))
    replace hF := And.intro (hF.1.store1 (.int .i64 j)) (live_low hF.2 (low_set ⟨B, 0, none⟩ (.int .i64 j) (Nat.le_refl B)) (by have := hF.1.lo; omega))
    clear hu1 hu2
    walk_nrm
    u_c stepG_region_end ci_rely hF
    u_c stepG_seq ci_rely hF
    u_reg ci_rely hF
    -- wg.Add(1), IN COMPANY
    u_in ci_rely hF
    refine goes_call rfl rfl (by decide) rfl Try.func68 (nm_add Try.link) rfl ⟨by u_nil, ?_⟩
    walk_nrmf Try.f68
    refine hA _ _ _ _ _ _ _ 3 ?_ _ hF
    clear hA hF
    intro w' h1 h2
    have hF := And.intro h1 h2
    clear h1 h2
    walk_nrm
    u_c stepG_region_end ci_rely hF
    u_reg ci_rely hF
    u_op ci_rely hF
    refine Goes.stop (fun w₂ r₂ => ?_)
    replace hF := ci_rely hF r₂
    clear r₂
    refine hgo _ _ ⟨rfl, rfl, rfl, rfl, rfl, rfl, rfl, rfl⟩ rfl ?_ hF
    subst hB
    rfl
end
end Go.Proofs.Ytcdnmnipaaooiaa
end

section
namespace Go.Proofs.Ytcdnmnipaaooiaa
open Go.Conc Go.ConcN Go.RowKit Go.Conc.Lib Go.ConcR.Gen Go.ConcN.Gen Go.Tw
open Go.ConcR (KK wgBlock WgAt stA smA rd wr mk Payload Aside2 DC0 ofEvent_cell)
def fitList : List Nat := [68, 70, 71, 84, 85, 86, 87, 88, 89, 90, 91, 92, 93, 94, 95, 96, 97, 98, 99, 100, 101, 103, 104, 105, 106, 107]
def Fw (f : Nat) : Bool := fitList.contains f
noncomputable def fitOne (f : Nat) : Bool := match Try.prog.funcs[f]? with
  | some fn => !(fn.name == "runtime.NumGoroutine") && (match fn.body with | some c => codeFit Fw c | none => (Extern.findNext fn).isNone)
  | none => false
theorem fit_all : fitList.all fitOne = true := by kernel_rfl
theorem fn_all : ∀ f fn, Fw f = true → Try.prog.funcs[f]? = some fn → (fn.name == "runtime.NumGoroutine") = false ∧ (∀ c, fn.body = some c → codeFit Fw c = true) ∧ (fn.body = none → Extern.findNext fn = none) := by
  intro f fn hf hfn
  have h := List.all_eq_true.1 fit_all f (by simpa [Fw] using hf)
  unfold fitOne at h
  rw [hfn] at h
  simp only [Bool.and_eq_true, Bool.not_eq_true'] at h
  obtain ⟨h1, h2⟩ := h
  refine ⟨h1, fun c hc => ?_, fun hc => ?_⟩
  · rw [hc] at h2; exact h2
  · rw [hc] at h2; exact Option.isNone_iff_eq_none.1 h2
theorem fn_some : ∀ f, Fw f = true → ∃ fn, Try.prog.funcs[f]? = some fn := by
  intro f hf
  have h := List.all_eq_true.1 fit_all f (by simpa [Fw] using hf)
  unfold fitOne at h
  cases hx : Try.prog.funcs[f]? with
  | some fn => exact ⟨fn, rfl⟩
  | none => rw [hx] at h; cases h
theorem no_ready : (Try.prog.funcs.all fun f => (f.body.map readies).all (·.isEmpty)) = true := by kernel_rfl
theorem noReady (g : Nat) : Try.prog.stepOf g = none := by
  unfold Program.stepOf
  rw [Array.findIdx?_eq_none_iff]
  intro f hf
  have h := Array.all_eq_true_iff_forall_mem.1 no_ready f hf
  cases hb : f.body with
  | none => rfl
  | some c =>
    rw [hb] at h
    simp only [Option.map_some, Option.all_some, List.isEmpty_iff] at h
    simp [h]
theorem ahead : Try.prog.follows .staticDataAhead = true := by kernel_rfl
theorem fitE : Fit Try.prog Fw := ⟨fun f hf => let ⟨fn, h⟩ := fn_some f hf; ⟨fn, h, fn_all f fn hf h⟩, ahead, noReady⟩
end Go.Proofs.Ytcdnmnipaaooiaa
end

section
namespace Go.Proofs.Ytcdnmnipaaooiaa
open Go.Conc Go.ConcN Go.RowKit Go.Conc.Lib Go.ConcR.Gen Go.ConcN.Gen Go.Tw
open Go.ConcR (KK wgBlock WgAt stA smA rd wr mk Payload Aside2 DC0 ofEvent_cell)
theorem hix : Try.prog.inits.idxOf? Try.prog.funcs.size = none := by kernel_rfl
section
variable {J : Job} {W : World}
theorem own_j (j : Nat) : Own J.N (j + 1) (.cell ⟨J.N + 3, j, none⟩) := ⟨by omega, by simp⟩
theorem own_n (k : Nat) (a : Addr) (h : Own J.N k (.cell a)) : a.block = J.N + 3 ∨ J.S a.block := by
  obtain ⟨_, e⟩ := h
  cases e
  exact .inl rfl
theorem ownS_n (k : Nat) (a : Addr) (h : OwnS J.N J.S k (.cell a)) : a.block = J.N + 3 ∨ J.S a.block := by
  rcases h with h | ⟨_, a', e, hs⟩
  · exact own_n k a h
  · cases e; exact .inr hs
theorem rules1 (hJ : J.Sound) : Rules Try.prog 72 (J.N + 5) (J.N + 3) J.n (Own J.N) (Rd J.N J.S) (Lw J.N) J.out (valsE J) (AnW J W) (PostE J W) :=
  ⟨apart1 J.N J.S, geo J.N, by have := hJ.few; omega, anW_runs, anW_round hix hJ own_n, valsE_length, valsE_get⟩
theorem rules2 (hJ : J.Sound) : Rules Try.prog 72 (J.N + 5) (J.N + 3) J.n (OwnS J.N J.S) (Rd J.N J.S) (Lw J.N) J.out (valsE J) (AnW J W) (PostE J W) :=
  ⟨apart2 J.N J.S hJ.sLow, geo J.N, by have := hJ.few; omega, anW_runs, anW_round hix hJ ownS_n, valsE_length, valsE_get⟩
/-- The phase's own machine at the first go statement. -/
theorem inv_start {Ow : Nat → Loc → Prop} (hJ : J.Sound) (hOj : ∀ j, Ow (j + 1) (.cell ⟨J.N + 3, j, none⟩)) (hOn : ∀ k a, Ow k (.cell a) → a.block = J.N + 3 ∨ J.S a.block)
    (hx : ∀ j, j < J.n → W.cell? (J.a.add j) = some (.int .i64 (J.x j))) (hy : ∀ j, j < J.n → W.cell? (J.b.add j) = some (.int .i64 (J.y j)))
    {T : Array Value} (hT : Tmps J T 0) (t10 : T[10]? = some (.pointer (some ⟨J.N + 6 + 0, 0, none⟩))) (t35 : T[35]? = some (.func (.func 69) #[] (caps J 0))) {w : World} (hF : CI J W (J.N + 6 + 0) 1 (some (.int .i64 (0 : Nat))) w) (hwg : WgAt 72 (J.N + 5) w KK 0) (hpay : PayAt (J.N + 3) J.n w) (sl : Option (Nat × Nat)) :
    (∃ μ, Inv Try.prog 72 (J.N + 5) (J.N + 3) J.n Ow (Rd J.N J.S) (Lw J.N) J.out (valsE J) (AnW J W) (PostE J W) μ (crowd #[G (goFrame T) csE] w sl) #[]) ∧
      ∀ w₁, RC 72 (J.N + 5) (J.N + 3) w w₁ → ∃ a' child, stepG Try.prog true (G (goFrame T) csE) w₁ = .spawn a' child w₁ #[] := by
  obtain ⟨r, hr⟩ : ∃ r, J.n = r + 1 := ⟨J.n - 1, by have := hJ.some1; omega⟩
  obtain ⟨f₁, h₁⟩ := spawnsFrom (Ow := Ow) (W := W) hJ hOj hOn hx hy r 1 (by omega)
  have hstop : ∀ w₁, RC 72 (J.N + 5) (J.N + 3) w w₁ → AtGoS Try.prog 72 (J.N + 5) (J.N + 3) J.n Ow (Rd J.N J.S) (Lw J.N) J.out 0 (SP J W Ow r) (G (goFrame T) csE) w₁ := fun w₁ r₁ =>
    goStop hJ hOj hx hy (show 0 + (r + 1) = J.n by omega) h₁ T hT t10 t35 w₁ (ci_rely ⟨hF, _, _, hwg⟩ r₁)
  refine ⟨⟨_, #[G (goFrame T) csE], w, sl, 0, fun _ => ⟨0, 0, 0⟩, .sp r 2, 0, 0, G (goFrame T) csE, KK, 0, rfl, rfl, ?_, ?_, hwg, ?_, by simp, rfl⟩, fun w₁ r₁ => ?_⟩
  · have := CSit.sgo (vals := valsE J) (Post := PostE J W) (P := Try.prog) (ty := 72) (Wg := J.N + 5) (C := J.N + 3) (n := J.n) (Own := Ow) (Rd := Rd J.N J.S) (Lw := Lw J.N) (val := J.out) (AnchW := AnW J W) (r := r) (m := 0) (g := G (goFrame T) csE) (w := w) (by omega)
      (by rw [show J.n - (r + 1) = 0 by omega]; exact Goes.stop hstop)
    rw [show J.n - (r + 1) = 0 by omega] at this
    exact this
  · refine ⟨rfl, fun i hi => by omega, CT.lone (by simp) (by simp), fun i hi => by simp [Trace.act?] at hi, rfl, fun i hi => by omega, fun i hi => by omega, fun i hi => by omega, hpay⟩
  · have := ConcN.Mode.opn (j := 0) (D := fun _ => (⟨0, 0, 0⟩ : WD)) (tag := .sp r 2) trivial (fun i hi => by omega) (by simp)
    simpa [Vc, sumTo, pend] using this
  · obtain ⟨_, a', child, h, _⟩ := hstop w₁ r₁
    exact ⟨a', child, h⟩
theorem goFrame_fit (T : Array Value) : FitF Try.prog Fw (goFrame T) := by
  have h : (ops9.all fun o => opFit Fw o.op) = true ∧ codeFit Fw r10 = true ∧ codeFit Fw L46 = true ∧ codeFit Fw R46 = true := by refine ⟨?_, ?_, ?_, ?_⟩ <;> kernel_rfl
  refine ⟨fun it hit => ?_, rfl, .inl rfl, (fun d hd => by cases hd), ⟨_, Try.func46⟩⟩
  simp only [goFrame, Frame.at, List.mem_cons, List.not_mem_nil, or_false] at hit
  rcases hit with rfl | rfl | rfl | rfl | rfl | rfl
  · exact h.1
  · rfl
  · exact h.2.1
  · exact h.2.2.1
  · rfl
  · exact h.2.2.2
/-- ████ THE PHASE ████ -/
theorem each_phase (hJ : J.Sound) (hx : ∀ j, j < J.n → W.cell? (J.a.add j) = some (.int .i64 (J.x j))) (hy : ∀ j, j < J.n → W.cell? (J.b.add j) = some (.int .i64 (J.y j)))
    {T : Array Value} (hT : Tmps J T 0) (t10 : T[10]? = some (.pointer (some ⟨J.N + 6 + 0, 0, none⟩))) (t35 : T[35]? = some (.func (.func 69) #[] (caps J 0)))
    {gs : Array Goroutine} {w : World} {sl : Option (Nat × Nat)} {Tr : Trace} {q : Nat → Nat} {B : Nat} {c : Frame} {Z : List Frame} (h0 : gs[0]? = some (G (goFrame T) (c :: Z))) (hL : Leavers Try.prog Tr gs q) (hP : Past (Sh J.S) B Tr)
    (hF : CI J W (J.N + 6 + 0) 1 (some (.int .i64 (0 : Nat))) w) (hwg : WgAt 72 (J.N + 5) w KK 0) (hpay : PayAt (J.N + 3) J.n w) :
    ∃ N gs' W' sl' T', runNT Try.prog N (crowd gs w sl) Tr = (.next (crowd gs' W' sl'), T') ∧ Over Try.prog (J.N + 5) (J.N + 3) J.n (valsE J) (PostE J W) (Sh J.S) (gs.size - 1) c Z gs' W' T' := by
  obtain ⟨⟨μ, i1⟩, hsp⟩ := inv_start hJ own_j own_n hx hy hT t10 t35 hF hwg hpay sl
  obtain ⟨⟨μ₂, i2⟩, _⟩ := inv_start (Ow := OwnS J.N J.S) hJ (fun j => .inl (own_j j)) ownS_n hx hy hT t10 t35 hF hwg hpay sl
  have hs0 : 0 < gs.size := (Array.getElem?_eq_some_iff.1 h0).1
  have hsl := hJ.sLow
  refine phase (rules1 hJ) (rules2 hJ) fitE hix (fun k l ho hs => ?_) (fun k l hr hs => ?_) (fun l hs => .inr ⟨rfl, hs⟩) hP rfl _ gs #[G (goFrame T) csE] w sl Tr #[] μ q rfl ⟨⟨sl, i1⟩, ⟨μ₂, sl, i2⟩, ⟨goFrame T, [], .running, rfl, h0, goFrame_fit T, by simp, rfl⟩, ?_, fun k => ?_, fun i g hi hio hg => hL.old i g hi hg, fun k hk => hL.above k hk, ?_, Log.nil, fun _ a ha => ?_⟩
  · obtain ⟨_, rfl⟩ := ho
    obtain ⟨a, e, hb⟩ := hs
    cases e
    have := hsl _ hb
    simp at this
    omega
  · obtain ⟨_, a, rfl, _, _, _, hn⟩ := hr
    obtain ⟨a', e, hb⟩ := hs
    cases e
    exact hn hb
  · simp; omega
  · rw [Array.getElem?_eq_none (by omega), Array.getElem?_eq_none (by simp)]
  · exact ⟨fun i => i, Woven.start hP.hears (fun k hk => hL.above k (by omega)) _⟩
  · simp at ha
    subst ha
    exact ⟨rfl, hsp⟩
end
end Go.Proofs.Ytcdnmnipaaooiaa
end

section
namespace Go.Proofs.Ytcdnmnipaaooiaa
open Go.Tw
noncomputable def textOk (fn : Func) : Bool := match fn.body with | some c => codeOk Try.prog c && !(fn.name == "runtime.NumGoroutine") | none => false
theorem texts_ok : Twin.funcs.all textOk = true := by kernel_rfl
theorem twin_text {f : Nat} {fn : Func} (h : Twin.funcs[f]? = some fn) : textOk fn = true := Array.all_eq_true_iff_forall_mem.1 texts_ok fn (Array.mem_of_getElem? h)
theorem allBodies : AllBodies Twin.funcs := by
  intro f fn h
  have := twin_text h
  unfold textOk at this
  cases hb : fn.body with
  | none => rw [hb] at this; cases this
  | some c =>
    rw [hb] at this
    simp only [Bool.and_eq_true, Bool.not_eq_true'] at this
    exact ⟨rfl, this.2⟩
theorem no_ready_twin : (Twin.funcs.all fun f => (f.body.map readies).all (·.isEmpty)) = true := by kernel_rfl
theorem pairT : Pair Try.prog Twin.funcs := by
  refine ⟨allBodies, fun f fn c h hc => ?_, ahead, fun g => ?_⟩
  · have := twin_text h
    unfold textOk at this
    rw [hc] at this
    simp only [Bool.and_eq_true] at this
    exact this.1
  · show (Twin.funcs.findIdx? _) = none
    rw [Array.findIdx?_eq_none_iff]
    intro f hf
    have h := Array.all_eq_true_iff_forall_mem.1 no_ready_twin f hf
    cases hb : f.body with
    | none => rfl
    | some c =>
      rw [hb] at h
      simp only [Option.map_some, Option.all_some, List.isEmpty_iff] at h
      simp [h]
noncomputable def hasText (f : Nat) : Bool := (Try.prog.funcs[f]?).any fun fn => fn.body.isSome && !(fn.name == "runtime.NumGoroutine")
def isRefuse : Option Code → Bool
  | some (.refuse _) => true
  | _ => false
theorem dead_all : ((List.range 133).all fun f => hasText f || (Twin.funcs[f]?).any fun fn => isRefuse fn.body) = true := by kernel_rfl
theorem twin_size : Twin.funcs.size = 133 := by kernel_rfl
theorem hdeadT (f : Nat) (fn : Func) (h : Twin.funcs[f]? = some fn) (hn : ¬ HasBody Try.prog f) : ∃ why, fn.body = some (.refuse why) := by
  have hf : f < 133 := by rw [← twin_size]; exact (Array.getElem?_eq_some_iff.1 h).1
  have h1 := List.all_eq_true.1 dead_all f (List.mem_range.2 hf)
  rw [Bool.or_eq_true] at h1
  rcases h1 with h1 | h1
  · exfalso
    apply hn
    unfold hasText at h1
    cases hx : Try.prog.funcs[f]? with
    | none => rw [hx] at h1; cases h1
    | some g =>
      rw [hx] at h1
      simp only [Option.any_some, Bool.and_eq_true, Bool.not_eq_true'] at h1
      refine ⟨g, hx, ?_, h1.2⟩
      cases hb : g.body with
      | none => rw [hb] at h1; cases h1.1
      | some _ => rfl
  · rw [h] at h1
    simp only [Option.any_some] at h1
    unfold isRefuse at h1
    split at h1
    · rename_i why hb; exact ⟨why, hb⟩
    · cases h1
end Go.Proofs.Ytcdnmnipaaooiaa
end

section
namespace Go.Tw
open Go.Conc Go.RowKit
open Go.ConcN (sumTo upd sumTo_upd upd_ne upd_same)
def StopL (L k : Nat) (Q : Value → World → Prop) : Frame → List Frame → World → Prop := fun fr top w =>
  top = [] ∧ fr.mode = .returning ∧ fr.fn = L ∧ fr.defers = [] ∧ fr.kind = .normal ∧ Q (fr.tmps.getD k undef) w
def QB (wp : World) (v : Value) (w : World) : Prop := v = .bool true ∧ w.os = wp.os ∧ w.output = wp.output ∧ wp.heap.size ≤ w.heap.size ∧ ∀ b, b < wp.heap.size → w.heap[b]? = wp.heap[b]?
section
variable {P : Program} {fs : Array Func} {L k : Nat} {fn : Func} {args : Array Value} {wp : World}
theorem wa_law (hp : Pair P fs) (hL : fs[L]? = some fn) (hres : fn.results = #[.tmp k]) (hok : OkWd wp)
    (hC : ∀ t, Calls (alt P fs) L args { wp with tape := t } (fun e w' => e = .returned (.bool true) ∧ Below wp.heap.size { wp with tape := t } w')) : WA P fs (StopL L k (QB wp)) (Frame.enter (alt P fs) L args .normal, [], wp) := by
  refine bar hp (fun fr top w t h => h) (fun fr top w ch h e => by rw [h.2.1] at e; cases e) ⟨tame_enter hp.self (f := L) rfl hL args, .inl rfl, fun f hf => by cases hf⟩ hok fun t => ?_
  obtain ⟨e, w', fr, ⟨rfl, hb⟩, ⟨n, hn⟩, hfn, hm, hd, hk, fn', hf', hr⟩ := hC t [cat fs]
  refine ⟨n, fr, [], w', hn, rfl, hm, hfn, hd, hk, ?_, hb.os, hb.output, hb.size, hb.block⟩
  rw [hfn, show (alt P fs).funcs[L]? = some fn from hL] at hf'
  cases hf'
  rw [results_tmp hres] at hr
  injection hr
theorem wa_stop {Stop : Frame → List Frame → World → Prop} {fr : Frame} {w : World} (h : WA P fs Stop (fr, [], w)) (ht : Tame P fs fr) (hm : fr.mode = .returning) : Stop fr [] w := by
  refine Classical.byContradiction fun hns => ?_
  obtain ⟨s', ⟨es, hg⟩, _⟩ := h.elim w.tape (fun _ _ _ => rfl) hns
  obtain ⟨fn, hf, _⟩ := ht.fn
  have hq : (alt P fs).funcs[fr.fn]? = some fn := hf
  have hd := ht.defers
  have hk := ht.kind
  revert hg
  simp only [G, stepG, hm, unwind, hd, hq, List.nil_append]
  cases (results fn fr.tmps).runT (alt P fs) { w with tape := w.tape } #[] with
  | mk r es =>
    cases r with
    | ok v w =>
      simp only [doReturn, hk, GStep.after]
      intro hx
      injection hx with h1
      simp only [Goroutine.mk.injEq] at h1
      obtain ⟨_, h2, _⟩ := h1
      simp at h2
    | halt x w => cases x <;> (intro hx; cases hx)
theorem past_sub {Shun Shun' : Loc → Prop} {B : Nat} {t : Trace} (h : Past Shun B t) (hS : ∀ l, Shun l → Shun' l) : Past Shun' B t :=
  ⟨h.clean, fun i x hx hm => (h.known i x hx hm).imp id fun y => ⟨hS _ y.1, y.2⟩, h.over, h.hears, h.seen⟩
/-- ████ -/
theorem law_good (hp : Pair P fs) (hdead : ∀ (f : Nat) (fn : Func), fs[f]? = some fn → ¬ HasBody P f → ∃ why, fn.body = some (.refuse why)) (hX : Crosses P fs (StopL L k (QB wp)))
    (hsame : P.funcs[L]? = fs[L]?) (hL : fs[L]? = some fn) (hres : fn.results = #[.tmp k]) (hin : P.inits.idxOf? L = none) {S : Nat → Prop} {W : World} (hrel : HRel S wp W)
    (hC : ∀ t, Calls (alt P fs) L args { wp with tape := t } (fun e w' => e = .returned (.bool true) ∧ Below wp.heap.size { wp with tape := t } w')) :
    ∃ N last o w' t', runNT P (N + 1) (solo (G (Frame.enter P L args .normal) []) W) #[] = (.ended o w', t') ∧ runN P N (solo (G (Frame.enter P L args .normal) []) W) = .next last ∧ step P last = .ended o w' ∧
      Good P (fun v w' => v = .bool true ∧ Below W.heap.size W w') last o w' t' := by
  have hwa := wa_law hp hL hres (fun b o h => hrel.okay b o h) hC
  have hc := walk_all hp (fun fr top w h => ⟨h.1, h.2.1⟩) hdead hX _ hwa
  have hfr : Frame.enter (alt P fs) L args .normal = Frame.enter P L args .normal := enter_same hsame args
  have htame : Tame P fs (Frame.enter P L args .normal) := tame_enter hp hsame hL args
  rw [hfr] at hc hwa
  obtain ⟨N, fr, wq, S', gs', W', sl', T', q', r1, r2, r3, r4, r5, r6⟩ := hc [] [] [] S #[G (Frame.enter P L args .normal) []] W none #[] (fun _ => 0) rfl htame (.inl rfl) (fun f hf => by cases hf) (fun f hf => by cases hf)
    ⟨rfl, leavers_one P _, ⟨0, past_sub past_nil fun _ h => h.elim⟩, hrel⟩
  have hwa' := hwa.downs r2
  obtain ⟨_, _, hfn, hd, hk, hQ⟩ := wa_stop hwa' r3 r4
  obtain ⟨hv, hos, hout, hsz, hbl⟩ := hQ
  obtain ⟨B, hP⟩ := r5.past
  have hPf : P.funcs[L]? = some fn := hsame.trans hL
  -- what is said at the return
  have hpost : ∀ d, Below W.heap.size W (W'.at d) := by
    intro d
    refine ⟨?_, r6.tape, ?_, r6.grow, fun b hb => ?_⟩
    · show W'.os = W.os
      rw [← r5.rel.os, hos, hrel.os]
    · show W'.output = W.output
      rw [← r5.rel.output, hout, hrel.output]
    · show W'.heap[b]? = W.heap[b]?
      by_cases hS : S b
      · exact r6.dead b hS
      · have hS' : ¬ S' b := fun h => by have := r6.new b h hS; omega
        rw [← r5.rel.same b hS', hbl b (by rw [hrel.size]; exact hb), hrel.same b hS]
  have hend : ∀ w, stepG P true (G fr []) w = .ended (.done (.bool true)) w #[] := by
    intro w
    have hr : (results fn fr.tmps).runT P w #[] = (.ok (.bool true) w, #[]) := by
      refine Prod.ext ?_ ?_
      · rw [Sem.runT_fst, results_tmp hres, hv]
      · exact events_results_tmp hres _ _
    have hs : seen P fr.fn #[] = #[] := by simp [seen]
    simp only [G, stepG, r4, unwind, hd, hfn, hPf, hr, doReturn, hk, hin, Bool.not_true, Bool.false_eq_true, if_false, GStep.after]
    rw [← hfn, hs]
    rfl
  obtain ⟨N₂, last, o, w', t', e1, e2, e3, e4⟩ := beside_ends (P := P) (w := W') (D := fun _ _ _ => False) (Post := fun v w' => v = .bool true ∧ Below W.heap.size W w') (n := 0) (sl := sl') (fun _ _ _ h => h.elim) r5.zero r5.leavers hP (fun w₁ hd => ⟨rfl, .bool true, #[], hend w₁, by simp, rfl, by obtain ⟨d, rfl⟩ := hd; exact hpost d⟩)
  have r1' : runNT P N (solo (G (Frame.enter P L args .normal) []) W) #[] = (.next (crowd gs' W' sl'), T') := r1
  refine ⟨N + N₂, last, o, w', t', ?_, ?_, e3, e4⟩
  · rw [Nat.add_assoc, runNT_add, r1']; exact e1
  · rw [runN_add, ← runNT_fst P _ _ #[], r1']; exact e2
end
end Go.Tw
end

section
namespace Go.Tw
open Go.Conc
section
variable {P : Program} {fs : Array Func} {Stop : Frame → List Frame → World → Prop}
/-- What is asked of the stop. -/
structure StopOk (fs : Array Func) (Stop : Frame → List Frame → World → Prop) : Prop where
  top : ∀ fr top w, Stop fr top w → top = []
  mode : ∀ fr top w, Stop fr top w → fr.mode = .returning
  defers : ∀ fr top w, Stop fr top w → fr.defers = []
  kind : ∀ fr top w, Stop fr top w → fr.kind = .normal
  fn : ∀ fr top w, Stop fr top w → ∃ fn : Func, fs[fr.fn]? = some fn
theorem stopL_ok {L k : Nat} {Q : Value → World → Prop} {fn : Func} (hL : fs[L]? = some fn) : StopOk fs (StopL L k Q) :=
  ⟨fun _ _ _ h => h.1, fun _ _ _ h => h.2.1, fun _ _ _ h => h.2.2.2.1, fun _ _ _ h => h.2.2.2.2.1, fun _ _ _ h => ⟨fn, by rw [h.2.2.1]; exact hL⟩⟩
theorem downs_of_goes (hS : StopOk fs Stop) {D : World → World → Array Event → Prop} {K : Goroutine → World → Prop} (hK : ∀ g w, K g w → ∃ fr top, g = G fr (top ++ [cat fs])) : ∀ (n : Nat) (fr : Frame) (top : List Frame) (w : World), WA P fs Stop (fr, top, w) →
    Goes (alt P fs) true Eq D K n (G fr (top ++ [cat fs])) w → ∃ fr' top' w', K (G fr' (top' ++ [cat fs])) w' ∧ Downs P fs Stop (fr, top, w) (fr', top', w') := by
  intro n
  induction n with
  | zero => exact fun fr top w _ h => ⟨fr, top, w, h w rfl, .refl _⟩
  | succ n ih =>
    intro fr top w hwa h
    rcases h with h | ⟨_, hst⟩
    · exact ⟨fr, top, w, h w rfl, .refl _⟩
    have hs := hst w rfl
    by_cases hstop : Stop fr top { w with tape := w.tape }
    · exfalso
      obtain rfl := hS.top _ _ _ hstop
      obtain ⟨fn, hf⟩ := hS.fn _ _ _ hstop
      have hm := hS.mode _ _ _ hstop
      have hd := hS.defers _ _ _ hstop
      have hk := hS.kind _ _ _ hstop
      have hq : (alt P fs).funcs[fr.fn]? = some fn := hf
      revert hs
      simp only [G, stepG, hm, unwind, hd, hq, List.nil_append]
      cases (results fn fr.tmps).runT (alt P fs) w #[] with
      | mk r es =>
        cases r with
        | halt x w => cases x <;> exact fun h => h.elim
        | ok v w₁ =>
          simp only [doReturn, hk, GStep.after, goes_go]
          rintro ⟨_, hg⟩
          have hend : ∀ w₂, stepG (alt P fs) true (G ((cat fs).finish v) []) w₂ = .ended (.stuck ("no extern row " ++ "fmt's door") (((cat fs).finish v).pos (alt P fs))) w₂ #[] := by
            intro w₂
            have hn : Extern.next "fmt's door" = none := by unfold Extern.next; decide +kernel
            simp only [G, stepG, stepG.exec, cat, Frame.finish, hn, Option.elim]
          have hno : ¬ K (G ((cat fs).finish v) []) w₁ := fun hk => by
            obtain ⟨fr', top', e⟩ := hK _ _ hk
            simp only [G, Goroutine.mk.injEq] at e
            have := e.2.1
            simp at this
          cases n with
          | zero => exact hno (hg w₁ rfl)
          | succ n =>
            rcases hg with hg | ⟨_, hg⟩
            · exact hno (hg w₁ rfl)
            · have := hg w₁ rfl
              rw [show ({ frame := (cat fs).finish v, callers := [], status := .running, dying := none } : Goroutine) = G ((cat fs).finish v) [] from rfl, hend] at this
              exact this
    · obtain ⟨s', ⟨es, hg⟩, hwa'⟩ := hwa.elim w.tape (fun _ _ _ => rfl) hstop
      have hg' : stepG (alt P fs) true (G fr (top ++ [cat fs])) w = .go (G s'.1 (s'.2.1 ++ [cat fs])) s'.2.2 es := hg
      rw [hg', goes_go] at hs
      obtain ⟨fr', top', w', h1, h2⟩ := ih s'.1 s'.2.1 s'.2.2 hwa' hs.2
      exact ⟨fr', top', w', h1, .head ⟨w.tape, fun _ _ _ => rfl, hstop, es, hg⟩ h2⟩
/-- No way leads on from a step that ends. -/
theorem wa_ended (hS : StopOk fs Stop) {fr : Frame} {top : List Frame} {w : World} (h : WA P fs Stop (fr, top, w)) (hm : fr.mode ≠ .returning) {o : Outcome} {w' : World} {es : Array Event} (he : stepG (alt P fs) true (G fr (top ++ [cat fs])) w = .ended o w' es) : False := by
  obtain ⟨s', ⟨es', hg⟩, _⟩ := h.elim w.tape (fun _ _ _ => rfl) (fun hs => hm (hS.mode _ _ _ hs))
  have hg' : stepG (alt P fs) true (G fr (top ++ [cat fs])) w = .go (G s'.1 (s'.2.1 ++ [cat fs])) s'.2.2 es' := hg
  rw [he] at hg'
  cases hg'
end
end Go.Tw
end
