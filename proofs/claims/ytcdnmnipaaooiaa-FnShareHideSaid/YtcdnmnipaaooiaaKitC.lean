import Derived.Test.YtcdnmnipaaooiaaKitA
import Derived.KernelRfl
import Derived.Conc.Beside
import Derived.Test.YtcdnmnipaaooiaaKitB
import Derived.Conc.WgWords
import Derived.Conc.CrowdBase
import Derived.Conc.Strewn
-- Written by a program of this session (wip/tools/pack.py): texts of this seat laid one behind the other, without what the claim does not reach
section
namespace Go.Tw
open Go.Conc (G)
/-- The frame below: a panic that reaches it has no answer. -/
def cat (fs : Array Func) : Frame := { fn := fs.size, tmps := #[], todo := [.call { target := .nil, args := #[] } false "fmt's door" #[]], defers := [], mode := .run, kind := .normal }
section
variable {P : Program} {fs : Array Func}
theorem okOp_alt (o : Op) : okOp (alt P fs) o = okOp P o := by cases o <;> rfl
theorem codeOk_alt : ∀ c : Code, codeOk (alt P fs) c = codeOk P c
  | .skip | .ret | .exit _ | .refuse _ | .scope _ | .label _ | .goto _ | .rangeFunc _ _ _ _ => rfl
  | .seq a b | .cond _ a b => by simp only [codeOk, codeOk_alt a, codeOk_alt b]
  | .block _ c | .loop c => by simp only [codeOk, codeOk_alt c]
  | .region _ ops _ => by simp only [codeOk, okOp_alt]
theorem Pair.self (hp : Pair P fs) : Pair (alt P fs) fs :=
  ⟨hp.bodies, fun f fn c h1 h2 => (codeOk_alt c).trans (hp.code f fn c h1 h2), hp.ahead, hp.noReady⟩
/-- A lone state. -/
structure Live (P : Program) (fs : Array Func) (fr : Frame) (top : List Frame) : Prop where
  tame : Tame (alt P fs) fs fr
  mode : fr.mode = .run ∨ fr.mode = .returning
  rest : Rest (alt P fs) fs top
def Upto (t : Nat → Question → Nat) (w : World) : Prop := ∀ p q, p < w.drawn → t p q = w.tape p q
abbrev St := Frame × List Frame × World
/-- One step further, with whatever answers come. -/
def Goes1 (P : Program) (fs : Array Func) (s : St) (t : Nat → Question → Nat) (s' : St) : Prop :=
  ∃ es, stepG (alt P fs) true (G s.1 (s.2.1 ++ [cat fs])) { s.2.2 with tape := t } = .go (G s'.1 (s'.2.1 ++ [cat fs])) s'.2.2 es
inductive WA (P : Program) (fs : Array Func) (Stop : Frame → List Frame → World → Prop) : St → Prop
  | mk {s : St} (nx : (Nat → Question → Nat) → St) : (∀ t, Upto t s.2.2 → ¬ Stop s.1 s.2.1 { s.2.2 with tape := t } → Goes1 P fs s t (nx t)) →
      (∀ t, Upto t s.2.2 → ¬ Stop s.1 s.2.1 { s.2.2 with tape := t } → WA P fs Stop (nx t)) → WA P fs Stop s
theorem WA.intro {Stop : Frame → List Frame → World → Prop} {s : St} (h : ∀ t, Upto t s.2.2 → ¬ Stop s.1 s.2.1 { s.2.2 with tape := t } → ∃ s', Goes1 P fs s t s' ∧ WA P fs Stop s') : WA P fs Stop s := by
  classical
  have key : ∀ t, ∃ s', Upto t s.2.2 → ¬ Stop s.1 s.2.1 { s.2.2 with tape := t } → Goes1 P fs s t s' ∧ WA P fs Stop s' := fun t => by
    by_cases h1 : Upto t s.2.2
    · by_cases h2 : Stop s.1 s.2.1 { s.2.2 with tape := t }
      · exact ⟨s, fun _ h => absurd h2 h⟩
      · obtain ⟨s', h3⟩ := h t h1 h2
        exact ⟨s', fun _ _ => h3⟩
    · exact ⟨s, fun h => absurd h h1⟩
  exact .mk (fun t => (key t).choose) (fun t h1 h2 => ((key t).choose_spec h1 h2).1) (fun t h1 h2 => ((key t).choose_spec h1 h2).2)
theorem step_go {p : Program} {fr fr' : Frame} {cs cs' : List Frame} {w w' : World} {es : Array Event} (h : stepG p true (G fr cs) w = .go (G fr' cs') w' es) : step p (lone fr cs w) = .next (lone fr' cs' w') :=
  step_lone_go (by show (stepG p true (G fr cs) w).bare = _; rw [h]; rfl)
theorem step_ended {p : Program} {fr : Frame} {cs : List Frame} {w w' : World} {o : Outcome} {es : Array Event} (h : stepG p true (G fr cs) w = .ended o w' es) : step p (lone fr cs w) = .ended o w' :=
  step_lone_ended (by show (stepG p true (G fr cs) w).bare = _; rw [h]; rfl)
theorem cat_catches (fr : Frame) (h1 : fr.fn = fs.size) (h2 : fr.todo = (cat fs).todo) : fr.catches (alt P fs) = true := by
  unfold Frame.catches
  have : (alt P fs).funcs[fr.fn]? = none := by rw [h1]; simp
  rw [this, h2]
  simp only [cat]
  decide +kernel
/-- What a machine comes to that has gone astray. -/
def Doomed (P : Program) (fs : Array Func) (m : Machine) : Prop := ∀ n fr top w, runN (alt P fs) n m = .next (lone fr (top ++ [cat fs]) w) → ∃ ch, fr.mode = .panicking ch
theorem lone_inj {fr fr' : Frame} {cs cs' : List Frame} {w w' : World} (h : lone fr cs w = lone fr' cs' w') : fr = fr' ∧ cs = cs' ∧ w = w' := by
  simp [lone] at h
  exact ⟨h.2.1, h.2.2, h.1⟩
theorem doomed_pan : ∀ (top : List Frame) (fr : Frame) (w : World) (ch : List PanicEntry), fr.mode = .panicking ch → fr.defers = [] → (∃ fn, fs[fr.fn]? = some fn) → (∀ f ∈ top, f.mode = .run ∧ f.defers = [] ∧ ∃ fn, fs[f.fn]? = some fn) → Doomed P fs (lone fr (top ++ [cat fs]) w) := by
  intro top
  induction top with
  | nil =>
    intro fr w ch hm hd ⟨fn, hf⟩ _ n fr' top' w' hr
    cases n with
    | zero =>
      simp only [runN, Stepped.next.injEq] at hr
      obtain ⟨rfl, _, _⟩ := lone_inj hr
      exact ⟨ch, hm⟩
    | succ n =>
      have hg : stepG (alt P fs) true (G fr ([] ++ [cat fs])) w = .go (G ((cat fs).raise ch) []) w #[] := by
        have : (alt P fs).funcs[fr.fn]? = some fn := hf
        simp [G, stepG, hm, unwind, hd, Frame.catches, this]
      simp only [runN, step_go hg] at hr
      have hc := cat_catches (P := P) (fs := fs) ((cat fs).raise ch) rfl rfl
      have he : stepG (alt P fs) true (G ((cat fs).raise ch) []) w = .ended (.unsupported (.noEntry "a panic or Goexit out of a method that fmt calls behind a cut's door") (((cat fs).raise ch).pos (alt P fs))) w #[] := by
        have e : (cat fs).raise ch = { cat fs with mode := .panicking ch } := rfl
        rw [e] at hc ⊢
        simp only [G, stepG, unwind, cat] at hc ⊢
        exact if_pos hc
      cases n with
      | zero =>
        simp only [runN, Stepped.next.injEq] at hr
        obtain ⟨_, h2, _⟩ := lone_inj hr
        cases top' <;> cases h2
      | succ n =>
        simp only [runN, step_ended he] at hr
        cases hr
  | cons c top ih =>
    intro fr w ch hm hd ⟨fn, hf⟩ htop n fr' top' w' hr
    cases n with
    | zero =>
      simp only [runN, Stepped.next.injEq] at hr
      obtain ⟨rfl, _, _⟩ := lone_inj hr
      exact ⟨ch, hm⟩
    | succ n =>
      have hg : stepG (alt P fs) true (G fr ((c :: top) ++ [cat fs])) w = .go (G (c.raise ch) (top ++ [cat fs])) w #[] := by
        have : (alt P fs).funcs[fr.fn]? = some fn := hf
        simp [G, stepG, hm, unwind, hd, Frame.catches, this]
      simp only [runN, step_go hg] at hr
      obtain ⟨hc1, hc2, hc3⟩ := htop c (by simp)
      refine ih (c.raise ch) w ch ?_ ?_ ?_ (fun f hf => htop f (by simp [hf])) n fr' top' w' hr
      · simp [Frame.raise, hc1]
      · simp [Frame.raise, hc1, hc2]
      · simpa [Frame.raise, hc1] using hc3
/-- A return into the frame below. -/
theorem gone_ret {fr : Frame} {w : World} (ht : Tame (alt P fs) fs fr) (hm : fr.mode = .returning) : ∀ n fr' top' w', runN (alt P fs) n (lone fr ([] ++ [cat fs]) w) = .next (lone fr' (top' ++ [cat fs]) w') → n = 0 := by
  intro n fr' top' w' hr
  cases n with
  | zero => rfl
  | succ n =>
    exfalso
    obtain ⟨fn, hf, _⟩ := ht.fn
    have hq : (alt P fs).funcs[fr.fn]? = some fn := hf
    have hd := ht.defers
    have hk := ht.kind
    have hstep : stepG (alt P fs) true (G fr ([] ++ [cat fs])) w = GStep.after (seen (alt P fs) fr.fn ((results fn fr.tmps).runT (alt P fs) w #[]).2) (match ((results fn fr.tmps).runT (alt P fs) w #[]).1 with
          | .ok v w => .go (G ((cat fs).finish v) []) w
          | .halt (.stuck s) w => .ended (.stuck s (fr.pos (alt P fs))) w
          | .halt _ w => .ended (.stuck "return: the result variables cannot be read" (fr.pos (alt P fs))) w) := by
      simp only [G, stepG, hm, unwind, hd, hq, List.nil_append]
      cases hr : (results fn fr.tmps).runT (alt P fs) w #[] with
      | mk r es =>
        cases r with
        | ok v w => simp [doReturn, hk]
        | halt x w => cases x <;> rfl
    cases hres : ((results fn fr.tmps).runT (alt P fs) w #[]).1 with
    | halt x w1 =>
      rw [hres] at hstep
      have : ∃ o w2 es, stepG (alt P fs) true (G fr ([] ++ [cat fs])) w = .ended o w2 es := by cases x <;> exact ⟨_, _, _, hstep⟩
      obtain ⟨o, w2, es, h⟩ := this
      simp only [runN, step_ended h] at hr
      cases hr
    | ok v w1 =>
      rw [hres] at hstep
      simp only [GStep.after] at hstep
      simp only [runN, step_go hstep] at hr
      cases n with
      | zero =>
        simp only [runN, Stepped.next.injEq] at hr
        obtain ⟨_, h2, _⟩ := lone_inj hr
        cases top' <;> cases h2
      | succ n =>
        have he : ∃ o w2 es, stepG (alt P fs) true (G ((cat fs).finish v) []) w1 = .ended o w2 es := by
          refine ⟨.stuck ("no extern row " ++ "fmt's door") (((cat fs).finish v).pos (alt P fs)), w1, #[], ?_⟩
          have hn : Extern.next "fmt's door" = none := by unfold Extern.next; decide +kernel
          simp only [G, stepG, stepG.exec, cat, Frame.finish, hn, Option.elim]
        obtain ⟨o, w2, es, h⟩ := he
        simp only [runN, step_ended h] at hr
        cases hr
def OkWd (w : World) : Prop := ∀ (b : Nat) (o : Obj), w.heap[b]? = some o → Okay o
theorem OkWd.self {w : World} (h : OkWd w) : HRel (fun _ => False) w w := ⟨rfl, rfl, rfl, fun _ _ => rfl, fun _ h => h.elim, h⟩
theorem world_eq {w w' : World} {S : Nat → Prop} (hS : ∀ b, ¬ S b) (h : HRel S w w') (ht : w'.tape = w.tape) (hd : w'.drawn = w.drawn) : w' = w := by
  have e : w.heap = w'.heap := Array.ext_getElem? fun b => h.same b (hS b)
  cases w; cases w'
  simp only [World.mk.injEq]
  exact ⟨e.symm, ht, hd, h.os.symm, h.output.symm⟩
def Nxt (P : Program) (fs : Array Func) (Stop : Frame → List Frame → World → Prop) (s s' : St) : Prop :=
  ∃ t, Upto t s.2.2 ∧ ¬ Stop s.1 s.2.1 { s.2.2 with tape := t } ∧ s'.2.2.tape = t ∧ s.2.2.drawn ≤ s'.2.2.drawn ∧
    ∀ τ : Nat → Question → Nat, (∀ p q, p < s'.2.2.drawn → τ p q = t p q) → ∃ es, stepG (alt P fs) true (G s.1 (s.2.1 ++ [cat fs])) { s.2.2 with tape := τ } = .go (G s'.1 (s'.2.1 ++ [cat fs])) { s'.2.2 with tape := τ } es
theorem rest_doomed {top : List Frame} (h : Rest (alt P fs) fs top) : ∀ f ∈ top, f.mode = .run ∧ f.defers = [] ∧ ∃ fn, fs[f.fn]? = some fn :=
  fun f hf => let ⟨h1, h2⟩ := h f hf; ⟨h2, h1.defers, let ⟨fn, h3, _⟩ := h1.fn; ⟨fn, h3⟩⟩
theorem bad_next (hp : Pair P fs) {Stop : Frame → List Frame → World → Prop} {s : St} (hl : Live P fs s.1 s.2.1) (hw : OkWd s.2.2) (hn : ¬ WA P fs Stop s) :
    (∃ s', Live P fs s'.1 s'.2.1 ∧ OkWd s'.2.2 ∧ ¬ WA P fs Stop s' ∧ Nxt P fs Stop s s') ∨
    (∃ t, Upto t s.2.2 ∧ ¬ Stop s.1 s.2.1 { s.2.2 with tape := t } ∧ ∀ n fr' top' w', runN (alt P fs) n (lone s.1 (s.2.1 ++ [cat fs]) { s.2.2 with tape := t }) = .next (lone fr' (top' ++ [cat fs]) w') → n = 0 ∨ ∃ ch, fr'.mode = .panicking ch) := by
  classical
  obtain ⟨t, ht1, ht2, ht3⟩ : ∃ t, Upto t s.2.2 ∧ ¬ Stop s.1 s.2.1 { s.2.2 with tape := t } ∧ ∀ s', Goes1 P fs s t s' → ¬ WA P fs Stop s' := by
    refine Classical.byContradiction fun hno => hn (WA.intro fun t h1 h2 => ?_)
    refine Classical.byContradiction fun hno' => hno ⟨t, h1, h2, fun s' h3 h4 => hno' ⟨s', h3, h4⟩⟩
  obtain ⟨fr, top, w⟩ := s
  simp only at *
  by_cases hret : fr.mode = .returning ∧ top = []
  · obtain ⟨hm, rfl⟩ := hret
    exact .inr ⟨t, ht1, ht2, fun n fr' top' w' h => .inl (gone_ret hl.tame hm n fr' top' w' h)⟩
  have hm : fr.mode = .run ∨ (fr.mode = .returning ∧ top ≠ []) := hl.mode.imp id fun h => ⟨h, fun e => hret ⟨h, e⟩⟩
  have hw' : OkWd { w with tape := t } := hw
  rcases step_sim hp.self hl.tame hl.rest hm ⟨_, hw'.self⟩ [cat fs] with ⟨fr₁, fr₂, top', wp', es, h1, h2, h3, h4, ⟨w0, h5⟩, h6⟩ | ⟨v, wp', es, h1⟩ | ⟨f, args, wp', es, h1, hf, hB⟩ | ⟨o, w₁, es, h1⟩
  · left
    obtain ⟨rfl, h7, h8⟩ : fr₁ = fr₂ ∧ Tame (alt P fs) fs fr₁ ∧ (fr₁.mode = .run ∨ fr₁.mode = .returning) := by
      cases h2 with
      | same a b => exact ⟨rfl, a, b⟩
      | enter f args a b _ => exact absurd rfl a
    have htape : wp'.tape = t := by
      obtain ⟨w', es', _, hk, _⟩ := h6 true wp'.drawn _ [] hw'.self (fun _ _ _ => rfl) (Nat.le_refl _)
      exact hk.tapeP
    refine ⟨(fr₁, top', wp'), ⟨h7, h8, h3⟩, fun b o ho => h5.okay b o ho, ht3 (fr₁, top', wp') ⟨es, h1⟩, t, ht1, ht2, htape, h4, fun τ hτ => ?_⟩
    obtain ⟨w', es', hg, hk, hA⟩ := h6 true wp'.drawn { w with tape := τ } [cat fs] ⟨rfl, rfl, rfl, fun _ _ => rfl, fun _ h => h.elim, hw⟩ (fun i q hi => hτ _ _ hi) (Nat.le_refl _)
    have e : w' = { wp' with tape := τ } := by
      have hR : HRel (fun _ => False) { wp' with tape := τ } w' := ⟨hk.rel.size, hk.rel.os, hk.rel.output, hk.rel.same, fun _ h => h.elim, hk.rel.okay⟩
      refine world_eq (S := fun _ => False) (fun _ h => h) hR hk.tape ?_
      have := hk.count
      simp only at this ⊢
      omega
    exact ⟨es', by rw [← e]; exact hg⟩
  · right
    refine ⟨t, ht1, ht2, fun n fr' top' w' h => ?_⟩
    cases n with
    | zero => exact .inl rfl
    | succ n =>
      right
      simp only [runN, step_go h1] at h
      obtain ⟨fn, hf, _⟩ := hl.tame.fn
      have hmr : ∃ ch, (fr.raise [v]).mode = .panicking ch := by rcases hm with hm | ⟨hm, _⟩ <;> exact ⟨_, by simp [Frame.raise, hm]; rfl⟩
      have hd : (fr.raise [v]).defers = [] := by rcases hm with hm | ⟨hm, _⟩ <;> simp [Frame.raise, hm, hl.tame.defers]
      have hfn : (fr.raise [v]).fn = fr.fn := by rcases hm with hm | ⟨hm, _⟩ <;> simp [Frame.raise, hm]
      obtain ⟨ch, hch⟩ := hmr
      exact doomed_pan top _ _ ch hch hd ⟨fn, by rw [hfn]; exact hf⟩ (rest_doomed hl.rest) n fr' top' w' h
  · exfalso
    obtain ⟨fn, hf⟩ := hf
    exact hB ⟨fn, hf, hp.bodies f fn hf⟩
  · right
    refine ⟨t, ht1, ht2, fun n fr' top' w' h => ?_⟩
    cases n with
    | zero => exact .inl rfl
    | succ n =>
      simp only [runN, step_ended h1] at h
      cases h
theorem least {p : Nat → Prop} (h : ∃ n, p n) : ∃ n, p n ∧ ∀ m, m < n → ¬ p m := by
  classical
  obtain ⟨n, hn⟩ := h
  induction n using Nat.strongRecOn with
  | _ n ih =>
    by_cases hs : ∃ m, m < n ∧ p m
    · obtain ⟨m, h1, h2⟩ := hs
      exact ih m h1 h2
    · exact ⟨n, hn, fun m h1 h2 => hs ⟨m, h1, h2⟩⟩
/-- ████ FROM EVERY TAPE's RUN TO THE ACCESSIBILITY. ████ -/
theorem bar (hp : Pair P fs) {Stop : Frame → List Frame → World → Prop} (hSt : ∀ fr top w t, Stop fr top w → Stop fr top { w with tape := t }) (hSm : ∀ fr top w ch, Stop fr top w → fr.mode ≠ .panicking ch)
    {s₀ : St} (hl : Live P fs s₀.1 s₀.2.1) (hw : OkWd s₀.2.2)
    (hC : ∀ t : Nat → Question → Nat, ∃ n fr top w, runN (alt P fs) n (lone s₀.1 (s₀.2.1 ++ [cat fs]) { s₀.2.2 with tape := t }) = .next (lone fr (top ++ [cat fs]) w) ∧ Stop fr top w) : WA P fs Stop s₀ := by
  classical
  refine Classical.byContradiction fun hn => ?_
  let Bad : St → Prop := fun s => Live P fs s.1 s.2.1 ∧ OkWd s.2.2 ∧ ¬ WA P fs Stop s
  let nxt : {s : St // Bad s} → {s : St // Bad s} := fun s => if h : ∃ s' : {s : St // Bad s}, Nxt P fs Stop s.1 s'.1 then h.choose else s
  let sq : Nat → {s : St // Bad s} := fun n => Nat.rec ⟨s₀, hl, hw, hn⟩ (fun _ s => nxt s) n
  have sq0 : (sq 0).1 = s₀ := rfl
  have sqS : ∀ n, sq (n + 1) = nxt (sq n) := fun n => rfl
  -- a link of the chain
  have link : ∀ n, (∃ s' : {s : St // Bad s}, Nxt P fs Stop (sq n).1 s'.1) → Nxt P fs Stop (sq n).1 (sq (n + 1)).1 := fun n h => by
    rw [sqS]
    show Nxt P fs Stop (sq n).1 (nxt (sq n)).1
    simp only [nxt, dif_pos h]
    exact h.choose_spec
  let L : Nat → Prop := fun n => Nxt P fs Stop (sq n).1 (sq (n + 1)).1
  -- the tapes hang together
  have coh : ∀ k, (∀ j, j < k → L j) → ∀ j, j ≤ k → (sq j).1.2.2.drawn ≤ (sq k).1.2.2.drawn ∧ ∀ p q, p < (sq j).1.2.2.drawn → (sq k).1.2.2.tape p q = (sq j).1.2.2.tape p q := by
    intro k
    induction k with
    | zero =>
      intro _ j hj
      obtain rfl : j = 0 := by omega
      exact ⟨Nat.le_refl _, fun _ _ _ => rfl⟩
    | succ k ih =>
      intro hL j hj
      by_cases e : j = k + 1
      · subst e; exact ⟨Nat.le_refl _, fun _ _ _ => rfl⟩
      · obtain ⟨h1, h2⟩ := ih (fun j hj => hL j (by omega)) j (by omega)
        obtain ⟨t, ht1, _, ht3, ht4, _⟩ := hL k (by omega)
        exact ⟨Nat.le_trans h1 ht4, fun p q hp => by rw [ht3, ht1 p q (by omega)]; exact h2 p q hp⟩
  -- the run along the chain
  have run : ∀ k (τ : Nat → Question → Nat), (∀ j, j < k → L j) → (∀ j, j ≤ k → ∀ p q, p < (sq j).1.2.2.drawn → τ p q = (sq j).1.2.2.tape p q) →
      runN (alt P fs) k (lone s₀.1 (s₀.2.1 ++ [cat fs]) { s₀.2.2 with tape := τ }) = .next (lone (sq k).1.1 ((sq k).1.2.1 ++ [cat fs]) { (sq k).1.2.2 with tape := τ }) := by
    intro k τ
    induction k with
    | zero => intro _ _; rfl
    | succ k ih =>
      intro hL hτ
      rw [runN_add, ih (fun j hj => hL j (by omega)) (fun j hj => hτ j (by omega))]
      obtain ⟨t, ht1, _, ht3, ht4, ht5⟩ := hL k (by omega)
      obtain ⟨es, hg⟩ := ht5 τ (fun p q hp => by rw [← ht3]; exact hτ (k + 1) (Nat.le_refl _) p q hp)
      simp only [runN, step_go hg]
  have noStop : ∀ k, L k → ∀ w, (w = { (sq k).1.2.2 with tape := w.tape }) → ¬ Stop (sq k).1.1 (sq k).1.2.1 w := fun k hk w hw hS => by
    obtain ⟨t, _, ht2, _⟩ := hk
    apply ht2
    have := hSt _ _ _ t hS
    rw [hw] at this
    exact this
  by_cases hall : ∀ k, L k
  · -- an endless chain
    let τ : Nat → Question → Nat := fun p q => if h : ∃ k, p < (sq k).1.2.2.drawn then (sq h.choose).1.2.2.tape p q else 0
    have hτ : ∀ j p q, p < (sq j).1.2.2.drawn → τ p q = (sq j).1.2.2.tape p q := by
      intro j p q hp
      have h : ∃ k, p < (sq k).1.2.2.drawn := ⟨j, hp⟩
      simp only [τ, dif_pos h]
      rcases Nat.le_total h.choose j with hle | hle
      · exact ((coh j (fun i _ => hall i) _ hle).2 p q h.choose_spec).symm
      · exact (coh _ (fun i _ => hall i) _ hle).2 p q hp
    obtain ⟨n, fr, top, w, h1, h2⟩ := hC τ
    rw [run n τ (fun j _ => hall j) (fun j _ => hτ j)] at h1
    simp only [Stepped.next.injEq] at h1
    obtain ⟨e1, e2, e3⟩ := lone_inj h1
    have e2' := List.append_cancel_right e2
    subst e1 e2' e3
    exact noStop n (hall n) _ rfl h2
  · -- it breaks off
    obtain ⟨k, hk, hmin⟩ : ∃ k, ¬ L k ∧ ∀ j, j < k → L j := by
      have h : ∃ k, ¬ L k := Classical.not_forall.1 hall
      obtain ⟨k, hk, hm⟩ := least h
      exact ⟨k, hk, fun j hj => Classical.byContradiction (hm j hj)⟩
    have hno : ¬ ∃ s' : {s : St // Bad s}, Nxt P fs Stop (sq k).1 s'.1 := fun h => hk (link k h)
    obtain ⟨hl', hw', hn'⟩ := (sq k).2
    rcases bad_next hp hl' hw' hn' with ⟨s', a, b, c, d⟩ | ⟨t, ht1, ht2, ht3⟩
    · exact hno ⟨⟨s', a, b, c⟩, d⟩
    · obtain ⟨n, fr, top, w, h1, h2⟩ := hC t
      have hr := fun j (hj : j ≤ k) => run j t (fun i hi => hmin i (by omega)) (fun i hi p q hp => by
        obtain ⟨h3, h4⟩ := coh k hmin i (by omega)
        rw [ht1 p q (by omega)]; exact h4 p q hp)
      rcases Nat.lt_or_ge k n with hlt | hge
      · obtain ⟨m, rfl⟩ : ∃ m, n = k + (m + 1) := ⟨n - k - 1, by omega⟩
        rw [runN_add, hr k (Nat.le_refl _)] at h1
        rcases ht3 _ _ _ _ h1 with h3 | ⟨ch, h3⟩
        · omega
        · exact hSm _ _ _ ch h2 h3
      · rw [hr n hge] at h1
        simp only [Stepped.next.injEq] at h1
        obtain ⟨e1, e2, e3⟩ := lone_inj h1
        have e2' := List.append_cancel_right e2
        subst e1 e2' e3
        rcases Nat.lt_or_ge n k with hlt | hge'
        · exact noStop n (hmin n hlt) _ rfl h2
        · obtain rfl : n = k := by omega
          exact ht2 h2
end
end Go.Tw
end

section
namespace Go.Tw
open Go.Conc
open Go.ConcN (sumTo upd sumTo_upd upd_ne upd_same)
section
variable {P : Program} {fs : Array Func} {Stop : Frame → List Frame → World → Prop}
/-- One step of the lone run, with some answers. -/
def Down (P : Program) (fs : Array Func) (Stop : Frame → List Frame → World → Prop) (s s' : St) : Prop := ∃ t, Upto t s.2.2 ∧ ¬ Stop s.1 s.2.1 { s.2.2 with tape := t } ∧ Goes1 P fs s t s'
inductive Downs (P : Program) (fs : Array Func) (Stop : Frame → List Frame → World → Prop) : St → St → Prop
  | refl (s : St) : Downs P fs Stop s s
  | tail {a b c : St} : Downs P fs Stop a b → Down P fs Stop b c → Downs P fs Stop a c
theorem Downs.trans {a b c : St} (h : Downs P fs Stop a b) (h' : Downs P fs Stop b c) : Downs P fs Stop a c := by
  induction h' with
  | refl => exact h
  | tail _ d ih => exact .tail ih d
theorem Downs.head {a b c : St} (d : Down P fs Stop a b) (h : Downs P fs Stop b c) : Downs P fs Stop a c := Downs.trans (.tail (.refl a) d) h
theorem Downs.cases {a c : St} (h : Downs P fs Stop a c) : a = c ∨ ∃ b, Down P fs Stop a b ∧ Downs P fs Stop b c := by
  induction h with
  | refl => exact .inl rfl
  | tail h d ih =>
    rcases ih with rfl | ⟨b, h1, h2⟩
    · exact .inr ⟨_, d, .refl _⟩
    · exact .inr ⟨b, h1, .tail h2 d⟩
theorem goes1_det {s s' s'' : St} {t : Nat → Question → Nat} (h : Goes1 P fs s t s') (h' : Goes1 P fs s t s'') : s' = s'' := by
  obtain ⟨es, h⟩ := h
  obtain ⟨es', h'⟩ := h'
  rw [h] at h'
  injection h' with h1 h2 _
  obtain ⟨a, b, c⟩ := s'
  obtain ⟨a', b', c'⟩ := s''
  simp only [G, Goroutine.mk.injEq] at h1 h2
  obtain ⟨rfl, h3, _⟩ := h1
  have := List.append_cancel_right h3
  subst this h2
  rfl
theorem WA.elim {s : St} (h : WA P fs Stop s) (t : Nat → Question → Nat) (ht : Upto t s.2.2) (hs : ¬ Stop s.1 s.2.1 { s.2.2 with tape := t }) : ∃ s', Goes1 P fs s t s' ∧ WA P fs Stop s' := by
  cases h with
  | mk nx h1 h2 => exact ⟨nx t, h1 t ht hs, h2 t ht hs⟩
theorem WA.down {s s' : St} (h : WA P fs Stop s) (d : Down P fs Stop s s') : WA P fs Stop s' := by
  obtain ⟨t, h1, h2, h3⟩ := d
  obtain ⟨s'', h4, h5⟩ := h.elim t h1 h2
  rw [goes1_det h3 h4]; exact h5
theorem WA.downs {s s' : St} (h : WA P fs Stop s) (d : Downs P fs Stop s s') : WA P fs Stop s' := by
  induction d with
  | refl => exact h
  | tail _ d ih => exact ih.down d
/-- Induction over all that lies further down. -/
theorem WA.strong {motive : St → Prop} (h : ∀ s, WA P fs Stop s → (∀ b c, Down P fs Stop s b → Downs P fs Stop b c → motive c) → motive s) : ∀ s, WA P fs Stop s → motive s := by
  have key : ∀ s, WA P fs Stop s → ∀ c, Downs P fs Stop s c → motive c := by
    intro s hs
    induction hs with
    | @mk s nx h1 h2 ih =>
      have hlow : ∀ b c, Down P fs Stop s b → Downs P fs Stop b c → motive c := by
        rintro b c ⟨t, a1, a2, a3⟩ hbc
        have e := goes1_det a3 (h1 t a1 a2)
        subst e
        exact ih t a1 a2 c hbc
      intro c hc
      rcases hc.cases with rfl | ⟨b, d, hbc⟩
      · exact h s (.mk nx h1 h2) hlow
      · exact hlow b c d hbc
  exact fun s hs => key s hs s (.refl s)
/-- No way leads on from a panic. -/
theorem wa_pan (hSm : ∀ fr top w ch, Stop fr top w → fr.mode ≠ .panicking ch) : ∀ (top : List Frame) (fr : Frame) (w : World) (ch : List PanicEntry), fr.mode = .panicking ch → fr.defers = [] → (∃ fn, fs[fr.fn]? = some fn) → (∀ f ∈ top, f.mode = .run ∧ f.defers = [] ∧ ∃ fn, fs[f.fn]? = some fn) → ¬ WA P fs Stop (fr, top, w) := by
  intro top
  induction top with
  | nil =>
    intro fr w ch hm hd ⟨fn, hf⟩ _ h
    obtain ⟨s', ⟨es, hg⟩, _⟩ := h.elim w.tape (fun _ _ _ => rfl) (fun hs => hSm _ _ _ ch hs hm)
    have hg' : stepG (alt P fs) true (G fr ([] ++ [cat fs])) { w with tape := w.tape } = .go (G ((cat fs).raise ch) []) { w with tape := w.tape } #[] := by
      have : (alt P fs).funcs[fr.fn]? = some fn := hf
      simp [G, stepG, hm, unwind, hd, Frame.catches, this]
    rw [hg'] at hg
    injection hg with h1
    simp only [G, Goroutine.mk.injEq] at h1
    obtain ⟨_, h2, _⟩ := h1
    simp at h2
  | cons c top ih =>
    intro fr w ch hm hd ⟨fn, hf⟩ htop h
    obtain ⟨s', ⟨es, hg⟩, hw⟩ := h.elim w.tape (fun _ _ _ => rfl) (fun hs => hSm _ _ _ ch hs hm)
    have hg' : stepG (alt P fs) true (G fr ((c :: top) ++ [cat fs])) { w with tape := w.tape } = .go (G (c.raise ch) (top ++ [cat fs])) { w with tape := w.tape } #[] := by
      have : (alt P fs).funcs[fr.fn]? = some fn := hf
      simp [G, stepG, hm, unwind, hd, Frame.catches, this]
    obtain ⟨hc1, hc2, hc3⟩ := htop c (by simp)
    have e : s' = (c.raise ch, top, { w with tape := w.tape }) := goes1_det ⟨es, hg⟩ ⟨_, hg'⟩
    subst e
    exact ih (c.raise ch) _ ch (by simp [Frame.raise, hc1]) (by simp [Frame.raise, hc1, hc2]) (by simpa [Frame.raise, hc1] using hc3) (fun f hf => htop f (by simp [hf])) hw
/-- The shunned places: the cells of the dead blocks. -/
def Sh (S : Nat → Prop) : Loc → Prop := fun l => ∃ a, l = .cell a ∧ S a.block
theorem evL_of_in {S : Nat → Prop} {n : Nat} {e : Event} (h : EvIn S n e) : EvL (Sh S) n e := by
  rcases h with ⟨a, wr, rfl, h1, h2⟩ | ⟨r, s, rfl, h1⟩ | rfl
  · refine ⟨fun x hx hs => ?_, by simp, by simp, h2⟩
    simp only [MemAct.ofEvent, MemAct.touch?, Option.some.injEq] at hx
    subst hx
    obtain ⟨a', e, hb⟩ := hs
    cases e
    exact absurd hb h1
  · refine ⟨fun x hx hs => ?_, by simp, by simp, h1⟩
    simp only [MemAct.ofEvent, MemAct.touch?, Option.some.injEq] at hx
    subst hx
    obtain ⟨a', e, hb⟩ := hs
    cases e
  · exact ⟨fun x hx => by simp [MemAct.ofEvent, MemAct.touch?] at hx, by simp, by simp, trivial⟩
/-- What a true stretch leaves aas it was. -/
structure Stands (S : Nat → Prop) (W W' : World) : Prop where
  dead : ∀ b, S b → W'.heap[b]? = W.heap[b]?
  tape : W'.tape = W.tape
  grow : W.heap.size ≤ W'.heap.size
theorem Stands.refl (S : Nat → Prop) (W : World) : Stands S W W := ⟨fun _ _ => rfl, rfl, Nat.le_refl _⟩
theorem Stands.trans {S : Nat → Prop} {W W' W'' : World} (h : Stands S W W') (h' : Stands S W' W'') : Stands S W W'' :=
  ⟨fun b hb => (h'.dead b hb).trans (h.dead b hb), h'.tape.trans h.tape, Nat.le_trans h.grow h'.grow⟩
end
end Go.Tw
end

section
namespace Go.Tw
open Go.Conc
open Go.ConcN (sumTo upd sumTo_upd upd_ne upd_same)
/-- Where the true machine stands beside the lone world. -/
structure Held (P : Program) (S : Nat → Prop) (wp : World) (g : Goroutine) (gs : Array Goroutine) (W : World) (T : Trace) (q : Nat → Nat) : Prop where
  zero : gs[0]? = some g
  leavers : Leavers P T gs q
  past : ∃ B, Past (Sh S) B T
  rel : HRel S wp W
/-- What a stretch leaves aas it was. -/
structure Grew (S S' : Nat → Prop) (W W' : World) : Prop where
  sub : ∀ b, S b → S' b
  new : ∀ b, S' b → ¬ S b → W.heap.size ≤ b
  dead : ∀ b, S b → W'.heap[b]? = W.heap[b]?
  tape : W'.tape = W.tape
  grow : W.heap.size ≤ W'.heap.size
theorem Grew.refl (S : Nat → Prop) (W : World) : Grew S S W W := ⟨fun _ h => h, fun _ h h' => absurd h h', fun _ _ => rfl, rfl, Nat.le_refl _⟩
theorem Grew.trans {S S' S'' : Nat → Prop} {W W' W'' : World} (h : Grew S S' W W') (h' : Grew S' S'' W' W'') : Grew S S'' W W'' := by
  refine ⟨fun b hb => h'.sub b (h.sub b hb), fun b hb hn => ?_, fun b hb => (h'.dead b (h.sub b hb)).trans (h.dead b hb), h'.tape.trans h.tape, Nat.le_trans h.grow h'.grow⟩
  by_cases e : S' b
  · exact h.new b e hn
  · exact Nat.le_trans h.grow (h'.new b hb e)
theorem Grew.at (S : Nat → Prop) (W : World) (d : Nat) : Grew S S W (W.at d) := ⟨fun _ h => h, fun _ h h' => absurd h h', fun _ _ => rfl, rfl, Nat.le_refl _⟩
variable {P : Program} {fs : Array Func} {Stop : Frame → List Frame → World → Prop}
/-- Lone frames that wait below. -/
def Low (fs : Array Func) (rest : List Frame) : Prop := ∀ f ∈ rest, f.mode = .run ∧ f.defers = [] ∧ ∃ fn : Func, fs[f.fn]? = some fn
/-- From s the frame 'it' lies above comes to its return. -/
def Comes (P : Program) (fs : Array Func) (Stop : Frame → List Frame → World → Prop) (s : St) : Prop :=
  ∀ (it rest Y : List Frame) (S : Nat → Prop) (gs : Array Goroutine) (W : World) (sl : Option (Nat × Nat)) (T : Trace) (q : Nat → Nat), s.2.1 = it ++ rest → Tame P fs s.1 → (s.1.mode = .run ∨ s.1.mode = .returning) → Rest P fs it → Low fs rest → Held P S s.2.2 (G s.1 (it ++ Y)) gs W T q →
    ∃ N fr wp S' gs' W' sl' T' q', runNT P N (crowd gs W sl) T = (.next (crowd gs' W' sl'), T') ∧ Downs P fs Stop s (fr, rest, wp) ∧ Tame P fs fr ∧ fr.mode = .returning ∧ Held P S' wp (G fr Y) gs' W' T' q' ∧ Grew S S' W W'
/-- A call whose text is another comes back. -/
def Crosses (P : Program) (fs : Array Func) (Stop : Frame → List Frame → World → Prop) : Prop :=
  ∀ (f : FuncId) (args : Array Value) (c : Frame) (rest : List Frame) (wp : World), P.funcs[f]? ≠ fs[f]? → HasBody P f → WA P fs Stop (Frame.enter (alt P fs) f args .normal, c :: rest, wp) → Low fs (c :: rest) →
    (∀ b s, Down P fs Stop (Frame.enter (alt P fs) f args .normal, c :: rest, wp) b → Downs P fs Stop b s → Comes P fs Stop s) →
    ∀ (c' : Frame) (Z : List Frame) (S : Nat → Prop) (gs : Array Goroutine) (W : World) (sl : Option (Nat × Nat)) (T : Trace) (q : Nat → Nat), Held P S wp (G (Frame.enter P f args .normal) (c' :: Z)) gs W T q →
      ∃ N v wp' S' gs' W' sl' T' q', runNT P N (crowd gs W sl) T = (.next (crowd gs' W' sl'), T') ∧ Downs P fs Stop (Frame.enter (alt P fs) f args .normal, c :: rest, wp) (c.finish v, rest, wp') ∧ Held P S' wp' (G (c'.finish v) Z) gs' W' T' q' ∧ Grew S S' W W'
theorem Held.at {S : Nat → Prop} {wp : World} {g : Goroutine} {gs : Array Goroutine} {W : World} {T : Trace} {q : Nat → Nat} (h : Held P S wp g gs W T q) (d : Nat) : Held P S wp g gs (W.at d) T q :=
  ⟨h.zero, h.leavers, h.past, ⟨h.rel.size, h.rel.os, h.rel.output, h.rel.same, h.rel.dead, h.rel.okay⟩⟩
theorem Held.awake {S : Nat → Prop} {wp : World} {g : Goroutine} {gs : Array Goroutine} {W : World} {T : Trace} {q : Nat → Nat} (h : Held P S wp g gs W T q) (hr : g.status = .running) : ∀ x ∈ gs, awake x := by
  intro x hx
  obtain ⟨i, hi⟩ := Array.mem_iff_getElem?.1 hx
  rcases Nat.eq_zero_or_pos i with rfl | hpos
  · rw [h.zero] at hi; cases hi; exact awake_of (.inl hr)
  · exact awake_of ((h.leavers.old i x hpos hi).status.elim .inl fun x => .inr (.inr x))
/-- A leaver slips. -/
theorem Held.slip {S : Nat → Prop} {wp : World} {a : Goroutine} {gs : Array Goroutine} {W : World} {T : Trace} {q : Nat → Nat} (h : Held P S wp a gs W T q) (hr : a.status = .running) {i : Nat} {g : Goroutine} (hpos : 0 < i) (hi : gs[i]? = some g) (hg : g.status = .running) :
    ∃ g' es k, stepG P false g W = .go g' W es ∧ q i = k + 1 ∧ Held P S wp a ((gs.map (woken P g g' W)).setIfInBounds i g') W (T ++ MemOp.ofEvents i g.frame.fn g.frame.place es) (upd q i k) := by
  have hq := h.leavers.old i g hpos hi
  have hlt : i < gs.size := (Array.getElem?_eq_some_iff.1 hi).1
  cases hqi : q i with
  | zero => rw [hqi] at hq; rw [hq.1] at hg; cases hg
  | succ k =>
    rw [hqi] at hq
    rcases hq with ⟨hf, _⟩ | ⟨_, g', es, hmu, hstp, hq'⟩
    · rw [hf] at hg; cases hg
    refine ⟨g', es, k, hstp W, rfl, ?_, ⟨fun j x hj hx => ?_, fun j hj => ?_⟩, h.past.imp fun _ p => p.mute (by omega) hmu, h.rel⟩
    · have hne : i ≠ 0 := by omega
      rw [Array.getElem?_setIfInBounds_ne hne, Array.getElem?_map, h.zero]
      simp [woken_run hr]
    · by_cases hji : i = j
      · subst hji
        rw [Array.getElem?_setIfInBounds_self_of_lt (by simpa using hlt)] at hx
        obtain rfl := Option.some.inj hx
        rw [upd_same, Deaf_own]
        exact hq'
      · rw [Array.getElem?_setIfInBounds_ne hji, Array.getElem?_map] at hx
        obtain ⟨y, hy, rfl⟩ := Option.map_eq_some_iff.1 hx
        have hqj := h.leavers.old j y hj hy
        rw [woken_quitsD hqj, upd_ne q k (Ne.symm hji), Deaf_other T hji _ (fun op hop => by obtain ⟨e, _, rfl⟩ := Go.Conc.mem_ofEvents hop; rfl)]
        exact hqj
    · rw [Deaf_other T (g' := i) (by simp at hj; omega) _ (fun op hop => by obtain ⟨e, _, rfl⟩ := Go.Conc.mem_ofEvents hop; rfl)]
      exact h.leavers.above j (by simpa using hj)
/-- Goroutine 0 has taken a step. -/
theorem Held.led {S S' : Nat → Prop} {wp wp' : World} {a a' : Goroutine} {gs : Array Goroutine} {W W' : World} {T : Trace} {q : Nat → Nat} {es : Array Event} (h : Held P S wp a gs W T q) (hS : ∀ b, S b → S' b) (hrel : HRel S' wp' W') (hev : ∀ B₀, ∃ B, B₀ ≤ B ∧ ∀ e ∈ es, EvL (Sh S) B e) :
    Held P S' wp' a' ((gs.map (woken P a a' W')).setIfInBounds 0 a') W' (T ++ MemOp.ofEvents 0 a.frame.fn a.frame.place es) q := by
  have hlt : 0 < gs.size := (Array.getElem?_eq_some_iff.1 h.zero).1
  refine ⟨by simp [hlt], ⟨fun j x hj hx => ?_, fun j hj => ?_⟩, ?_, hrel⟩
  · have hne : 0 ≠ j := by omega
    rw [Array.getElem?_setIfInBounds_ne hne, Array.getElem?_map] at hx
    obtain ⟨y, hy, rfl⟩ := Option.map_eq_some_iff.1 hx
    have hq := h.leavers.old j y hj hy
    rw [woken_quitsD hq, Deaf_other T (by omega) _ (fun op hop => by obtain ⟨e, _, rfl⟩ := Go.Conc.mem_ofEvents hop; rfl)]
    exact hq
  · rw [Deaf_other T (g' := 0) (by simp at hj; omega) _ (fun op hop => by obtain ⟨e, _, rfl⟩ := Go.Conc.mem_ofEvents hop; rfl)]
    exact h.leavers.above j (by simpa using hj)
  · obtain ⟨B₀, hB⟩ := h.past
    obtain ⟨B, hle, hes⟩ := hev B₀
    have := (hB.mono hle).own (fn := a.frame.fn) (pos := a.frame.place) hes
    exact ⟨B, ⟨this.clean, fun i x hx hm => (this.known i x hx hm).imp id fun ⟨⟨ad, e, hb⟩, hk⟩ => ⟨⟨ad, e, hS _ hb⟩, hk⟩, this.over, this.hears, this.seen⟩⟩
/-- ████ -/
theorem walk_all (hp : Pair P fs) (hSe : ∀ fr top w, Stop fr top w → top = [] ∧ fr.mode = .returning)
    (hdead : ∀ (f : Nat) (fn : Func), fs[f]? = some fn → ¬ HasBody P f → ∃ why, fn.body = some (.refuse why)) (hX : Crosses P fs Stop) : ∀ s, WA P fs Stop s → Comes P fs Stop s := by
  have hSm : ∀ fr top w ch, Stop fr top w → fr.mode ≠ .panicking ch := fun fr top w ch h e => by rw [(hSe fr top w h).2] at e; cases e
  refine WA.strong fun s hwa ih => ?_
  intro it rest Y S gs W sl T q hs2 ht hm hr hlow H
  obtain ⟨fr, tp, wp⟩ := s
  simp only at hs2 ht hm H
  subst hs2
  -- by the sum of what the leavers have left
  suffices key : ∀ (M : Nat) (gs : Array Goroutine) (W : World) (sl : Option (Nat × Nat)) (T : Trace) (q : Nat → Nat), sumTo gs.size q ≤ M → Held P S wp (G fr (it ++ Y)) gs W T q →
      ∃ N fr' wp' S' gs' W' sl' T' q', runNT P N (crowd gs W sl) T = (.next (crowd gs' W' sl'), T') ∧ Downs P fs Stop (fr, it ++ rest, wp) (fr', rest, wp') ∧ Tame P fs fr' ∧ fr'.mode = .returning ∧ Held P S' wp' (G fr' Y) gs' W' T' q' ∧ Grew S S' W W' from
    key _ gs W sl T q (Nat.le_refl _) H
  intro M
  induction M using Nat.strongRecOn with
  | _ M ihM =>
    intro gs W sl T q hM H
    by_cases hend : fr.mode = .returning ∧ it = []
    · obtain ⟨h1, rfl⟩ := hend
      exact ⟨0, fr, wp, S, gs, W, sl, T, q, rfl, .refl _, ht, h1, H, .refl S W⟩
    have hstop : ∀ w, ¬ Stop fr (it ++ rest) w := fun w h => by
      obtain ⟨h1, h2⟩ := hSe _ _ _ h
      exact hend ⟨h2, (List.append_eq_nil_iff.1 h1).1⟩
    have hrun : (G fr (it ++ Y)).status = .running := rfl
    obtain ⟨i, g, d, sl', hi, hg, hst⟩ := crowd_pick (P := P) (w := W) (sl := sl) (H.awake hrun) ⟨0, _, H.zero, hrun⟩
    have H' := H.at d
    have hAt := Grew.at S W d
    rcases Nat.eq_zero_or_pos i with rfl | hpos
    · obtain rfl : g = G fr (it ++ Y) := by have := H.zero; rw [this] at hi; exact (Option.some.inj hi).symm
      let t : Nat → Question → Nat := fun p x => if p < wp.drawn then wp.tape p x else (W.at d).tape ((W.at d).drawn + (p - wp.drawn)) x
      have ht1 : Upto t wp := fun p x hp => by simp only [t, if_pos hp]
      obtain ⟨s', hgo, hwa'⟩ := hwa.elim t ht1 (hstop _)
      have hdown : Down P fs Stop (fr, it ++ rest, wp) s' := ⟨t, ht1, hstop _, hgo⟩
      obtain ⟨es0, hgo'⟩ := hgo
      simp only [List.append_assoc] at hgo'
      have hR : HRel S { wp with tape := t } (W.at d) := ⟨H.rel.size, H.rel.os, H.rel.output, H.rel.same, H.rel.dead, H.rel.okay⟩
      have hA : ∀ E, Agree E { wp with tape := t } (W.at d) := fun E i x _ => by
        show (W.at d).tape ((W.at d).drawn + i) x = t (wp.drawn + i) x
        simp only [t]
        rw [if_neg (by omega), Nat.add_sub_cancel_left]
      have hm' : fr.mode = .run ∨ (fr.mode = .returning ∧ it ≠ []) := hm.imp id fun h => ⟨h, fun e => hend ⟨h, e⟩⟩
      -- the lone step leads to s' alone
      have det : ∀ {fr₁ : Frame} {tp : List Frame} {wp' : World} {es : Array Event}, stepG (alt P fs) true (G fr (it ++ (rest ++ [cat fs]))) { wp with tape := t } = .go (G fr₁ (tp ++ (rest ++ [cat fs]))) wp' es → s' = (fr₁, tp ++ rest, wp') := by
        intro fr₁ tp wp' es h
        have hG : Goes1 P fs (fr, it ++ rest, wp) t (fr₁, tp ++ rest, wp') := ⟨es, by simp only [List.append_assoc]; exact h⟩
        exact goes1_det ⟨es0, by simp only [List.append_assoc]; exact hgo'⟩ hG
      rcases step_sim hp ht hr hm' ⟨_, hR⟩ (rest ++ [cat fs]) with ⟨fr₁, fr₂, top', wp', es, h1, h2, h3, h4, _, h6⟩ | ⟨v, wp', es, h1⟩ | ⟨f, args, wp', es, h1, ⟨fn, hf⟩, hB⟩ | ⟨o, w₁, es, h1⟩
      · have e := det h1
        subst e
        obtain ⟨W', es', hstep, hk, hA', hev⟩ := h6 true wp'.drawn (W.at d) Y hR (hA _) (Nat.le_refl _)
        have hrunT := runT_crowd_go (P := P) (sl := sl') (i := 0) H.zero (show stepG P (0 == 0) _ (W.at d) = _ from hstep)
        have H1 : Held P S wp' (G fr₂ (top' ++ Y)) ((gs.map (woken P (G fr (it ++ Y)) (G fr₂ (top' ++ Y)) W')).setIfInBounds 0 (G fr₂ (top' ++ Y))) W' (T ++ MemOp.ofEvents 0 (G fr (it ++ Y)).frame.fn (G fr (it ++ Y)).frame.place es') q :=
          H'.led (fun _ h => h) hk.rel fun B₀ => ⟨max B₀ W'.heap.size, Nat.le_max_left .., fun e he => evL_of_in ((hev e he).mono (Nat.le_max_right ..))⟩
        have hG1 : Grew S S W W' := hAt.trans ⟨fun _ h => h, fun _ h h' => absurd h h', hk.keep, hk.tape, hk.grow⟩
        cases h2 with
        | same a b =>
          obtain ⟨N, fr', wp'', S', gs', W'', sl'', T', q', r1, r2, r3, r4, r5, r6⟩ := ih _ _ hdown (.refl _) top' rest Y S _ W' sl' _ q rfl a b h3 hlow H1
          exact ⟨N + 1, fr', wp'', S', gs', W'', sl'', T', q', by simp only [runNT, hst, hrunT]; exact r1, .head hdown r2, r3, r4, r5, hG1.trans r6⟩
        | enter f args a b hrn =>
          have hlow' : Low fs (fr :: (it ++ rest)) := by
            intro x hx
            rcases List.mem_cons.1 hx with rfl | hx
            · obtain ⟨fn, hf, _⟩ := ht.fn
              exact ⟨hrn, ht.defers, fn, hf⟩
            · rcases List.mem_append.1 hx with hx | hx
              · obtain ⟨x1, x2⟩ := hr x hx
                obtain ⟨fn, hf, _⟩ := x1.fn
                exact ⟨x2, x1.defers, fn, hf⟩
              · exact hlow x hx
          obtain ⟨N₁, v, wp₁, S₁, gs₁, W₁, sl₁, T₁, q₁, k1, k2, k3, k4⟩ := hX f args fr (it ++ rest) wp' a b hwa' hlow' (fun b' s'' hb hs => ih _ _ hdown (.head hb hs)) fr (it ++ Y) S _ W' sl' _ q H1
          obtain ⟨N, fr', wp'', S', gs', W'', sl'', T', q', r1, r2, r3, r4, r5, r6⟩ := ih _ _ hdown k2 it rest Y S₁ gs₁ W₁ sl₁ T₁ q₁ rfl (ht.finish v) (.inl (finish_mode v hrn)) hr hlow k3
          refine ⟨N₁ + N + 1, fr', wp'', S', gs', W'', sl'', T', q', ?_, .head hdown (Downs.trans k2 r2), r3, r4, r5, hG1.trans (k4.trans r6)⟩
          simp only [runNT, hst, hrunT]
          rw [runNT_add, k1]
          exact r1
      · exfalso
        have e := det h1
        subst e
        obtain ⟨fn, hf, _⟩ := ht.fn
        have hmr : ∃ ch, (fr.raise [v]).mode = .panicking ch := by rcases hm with hm | hm <;> exact ⟨_, by simp [Frame.raise, hm]; rfl⟩
        have hd' : (fr.raise [v]).defers = [] := by rcases hm with hm | hm <;> simp [Frame.raise, hm, ht.defers]
        have hfn : (fr.raise [v]).fn = fr.fn := by rcases hm with hm | hm <;> simp [Frame.raise, hm]
        obtain ⟨ch, hch⟩ := hmr
        refine wa_pan hSm (it ++ rest) _ wp' ch hch hd' ⟨fn, by rw [hfn]; exact hf⟩ (fun f hf => ?_) hwa'
        rcases List.mem_append.1 hf with hf | hf
        · obtain ⟨a, b⟩ := hr f hf
          obtain ⟨fn', hf', _⟩ := a.fn
          exact ⟨b, a.defers, fn', hf'⟩
        · exact hlow f hf
      · exfalso
        have e := det (tp := fr :: it) h1
        subst e
        obtain ⟨why, hwhy⟩ := hdead f fn hf hB
        have etodo : (Frame.enter (alt P fs) f args .normal).todo = [.code (.refuse why)] := by
          have : (alt P fs).funcs[f]? = some fn := hf
          simp [Frame.enter, this, hwhy]
        obtain ⟨s'', ⟨es', hg'⟩, _⟩ := hwa'.elim wp'.tape (fun _ _ _ => rfl) (fun h => by have := (hSe _ _ _ h).2; cases this)
        obtain ⟨o, hend⟩ := refuse_ended (P := alt P fs) (fr := Frame.enter (alt P fs) f args .normal) rfl etodo
        simp only at hg'
        rw [hend] at hg'
        cases hg'
      · exfalso
        rw [h1] at hgo'
        cases hgo'
    · have hi0 : (i == 0) = false := by simp; omega
      have hlt : i < gs.size := (Array.getElem?_eq_some_iff.1 hi).1
      obtain ⟨g', es, k, hgo, hqi, H1⟩ := H'.slip hrun hpos hi hg
      have hrunT := runT_crowd_go (P := P) (sl := sl') (i := i) hi (by rw [hi0]; exact hgo)
      have hsz : ((gs.map (woken P g g' (W.at d))).setIfInBounds i g').size = gs.size := by simp
      have hsum : sumTo gs.size (upd q i k) + (k + 1) = sumTo gs.size q + k := by
        have := sumTo_upd q k id hlt
        simpa [hqi] using this
      obtain ⟨N, fr', wp'', S', gs', W'', sl'', T', q', r1, r2, r3, r4, r5, r6⟩ := ihM (sumTo gs.size (upd q i k)) (by omega) _ (W.at d) sl' _ _ (by rw [hsz]; exact Nat.le_refl _) H1
      exact ⟨N + 1, fr', wp'', S', gs', W'', sl'', T', q', by simp only [runNT, hst, hrunT]; exact r1, r2, r3, r4, r5, hAt.trans r6⟩
end Go.Tw
end

section
namespace Go.Proofs.Ytcdnmnipaaooiaa
open Go.Conc Go.ConcN Go.RowKit Go.Conc.Lib Go.ConcR.Gen Go.ConcN.Gen Go.Tw
open Go.ConcR (KK wgBlock WgAt stA smA rd wr mk Payload Aside2 DC0 ofEvent_cell)
/-- The payload's cells are ints. -/
instance : Payload := ⟨3⟩
section
variable {ad : Addr} {v : Value} {w : World}
theorem load_run {t : TypeId} (ht : t = 3 ∨ t = 23 ∨ t = 46) (hc : w.cell? ad = some v) : (Instr.loadAt t (.pointer (some ad))).run Try.prog w = .ok v w ∧ (Instr.loadAt t (.pointer (some ad))).events Try.prog w #[] = #[⟨.cell ad, false, false⟩] := by
  rcases ht with rfl | rfl | rfl <;> constructor <;> simp [go_sem, hc, Instr.loadAt]
theorem index_run {n cap j : Nat} (hj : j < n) (w : World) : (Instr.indexAt 23 (.slice (some ad) n cap) (.int .i64 j)).run Try.prog w = .ok (.pointer (some (ad.add j))) w ∧ (Instr.indexAt 23 (.slice (some ad) n cap) (.int .i64 j)).events Try.prog w #[] = #[] := by
  have h1 : ¬ n ≤ j := by omega
  have h2 : (0 : Int) ≤ (j : Int) := by omega
  constructor <;> simp [go_sem, Instr.indexAt, h1, h2]
end
/-- What is fixed of one phase: where it lies; the two slices; the numbers in them; what is made of two; the blocks that nobody may touch. -/
structure Job where
  N : Nat
  n : Nat
  f : Nat
  a : Addr
  ca : Nat
  b : Addr
  cb : Nat
  x : Nat → Int
  y : Nat → Int
  S : Nat → Prop
def Job.out (J : Job) (j : Nat) : Value := .int .i64 (made J.f (J.x j) (J.y j))
structure Job.Sound (J : Job) : Prop where
  make : IsMake J.f
  few : J.n ≤ 20
  some1 : 0 < J.n
  aLow : J.a.block < J.N
  bLow : J.b.block < J.N
  aS : ¬ J.S J.a.block
  bS : ¬ J.S J.b.block
  sLow : ∀ b, J.S b → b < J.N
def Lw (N j : Nat) : Nat := N + 6 + j
def Own (N k : Nat) : Loc → Prop := fun l => 1 ≤ k ∧ l = .cell ⟨N + 3, k - 1, none⟩
/-- The same; and the first has what nobody may touch. -/
def OwnS (N : Nat) (S : Nat → Prop) (k : Nat) : Loc → Prop := fun l => Own N k l ∨ (k = 1 ∧ Sh S l)
def Rd (N : Nat) (S : Nat → Prop) (k : Nat) : Loc → Prop := fun l => 1 ≤ k ∧ ∃ a, l = .cell a ∧ a.block ≠ N + 5 ∧ a.block ≠ N + 3 ∧ a.block < Lw N k ∧ ¬ S a.block
theorem geo (N : Nat) : Geo (N + 5) (N + 3) (Lw N) := ⟨fun a b h => by simp only [Lw]; omega, by simp only [Lw]; omega, by simp only [Lw]; omega, by omega⟩
theorem apart1 (N : Nat) (S : Nat → Prop) : Apart (ShN (N + 5)) (Own N) (Rd N S) := by
  refine ⟨fun k k' l h h' => ?_, fun k k' l h h' => ?_, fun k l h h' => ?_, fun k l h h' => ?_⟩
  · obtain ⟨h1, rfl⟩ := h
    obtain ⟨h2, e⟩ := h'
    simp at e
    omega
  · obtain ⟨_, rfl⟩ := h
    obtain ⟨_, a, e, _, hb, _⟩ := h'
    cases e
    simp at hb
  · obtain ⟨_, rfl⟩ := h
    obtain ⟨a, e, hb⟩ := h'
    cases e
    simp at hb
  · obtain ⟨_, a, rfl, hb, _⟩ := h
    obtain ⟨a', e, hb'⟩ := h'
    cases e
    exact hb hb'
theorem apart2 (N : Nat) (S : Nat → Prop) (hS : ∀ b, S b → b < N) : Apart (ShN (N + 5)) (OwnS N S) (Rd N S) := by
  have A := apart1 N S
  refine ⟨fun k k' l h h' => ?_, fun k k' l h h' => ?_, fun k l h h' => ?_, A.rdSh⟩
  · rcases h with h | ⟨rfl, a, rfl, hs⟩ <;> rcases h' with h' | ⟨rfl, a', e, hs'⟩
    · exact A.own k k' l h h'
    · obtain ⟨_, rfl⟩ := h; cases e; have := hS _ hs'; simp at this; omega
    · obtain ⟨_, e⟩ := h'; cases e; have := hS _ hs; simp at this; omega
    · rfl
  · rcases h with h | ⟨_, a, rfl, hs⟩
    · exact A.ownRd k k' l h h'
    · obtain ⟨_, a', e, _, _, _, hn⟩ := h'; cases e; exact hn hs
  · rcases h with h | ⟨_, a, rfl, hs⟩
    · exact A.ownSh k l h h'
    · obtain ⟨a', e, hb⟩ := h'; cases e; have := hS _ hs; omega
/-- WHAT WORKER NUMBER j KNOWS OF THE WORLD. -/
structure WK (J : Job) (j : Nat) (w : World) : Prop where
  av : w.cell? ⟨J.N, 0, none⟩ = some (.slice (some J.a) J.n J.ca)
  bv : w.cell? ⟨J.N + 1, 0, none⟩ = some (.slice (some J.b) J.n J.cb)
  mv : w.cell? ⟨J.N + 2, 0, none⟩ = some (.func (.func J.f) #[] #[])
  ov : w.cell? ⟨J.N + 4, 0, none⟩ = some (.slice (some ⟨J.N + 3, 0, none⟩) J.n J.n)
  iv : w.cell? ⟨J.N + 6 + j, 0, none⟩ = some (.int .i64 j)
  xv : w.cell? (J.a.add j) = some (.int .i64 (J.x j))
  yv : w.cell? (J.b.add j) = some (.int .i64 (J.y j))
  live : WgLive 72 (J.N + 5) w
  pay : PayAt (J.N + 3) J.n w
theorem add_block (a : Addr) (n : Nat) : (a.add n).block = a.block := by unfold Addr.add; split <;> rfl
theorem cell_block {w w₁ : World} {a : Addr} (e : w₁.heap[a.block]? = w.heap[a.block]?) : w₁.cell? a = w.cell? a := by simp [World.cell?, e]
section
variable {J : Job} {j : Nat} {w w₁ : World}
theorem WK.rely (hJ : J.Sound) (h : WK J j w) (r : RW 72 (J.N + 5) (J.N + 3) J.n (Lw J.N (j + 1)) (j + 1 - 1) w w₁) : WK J j w₁ := by
  have lo : ∀ a : Addr, a.block < J.N + 6 + (j + 1) → a.block ≠ J.N + 5 → a.block ≠ J.N + 3 → w₁.cell? a = w.cell? a := fun a h1 h2 h3 => cell_block (r.low a.block (by simp only [Lw]; omega) h2 h3)
  have ha := hJ.aLow
  have hb := hJ.bLow
  exact ⟨(lo _ (by simp; omega) (by simp) (by simp)).trans h.av, (lo _ (by simp; omega) (by simp) (by simp)).trans h.bv, (lo _ (by simp; omega) (by simp) (by simp)).trans h.mv, (lo _ (by simp; omega) (by simp) (by simp)).trans h.ov, (lo _ (by simp) (by simp; omega) (by simp; omega)).trans h.iv,
    (lo _ (by rw [add_block]; omega) (by rw [add_block]; omega) (by rw [add_block]; omega)).trans h.xv, (lo _ (by rw [add_block]; omega) (by rw [add_block]; omega) (by rw [add_block]; omega)).trans h.yv, r.live h.live, r.pay h.pay⟩
theorem WK.cellAt (h : WK J j w) (hj : j < J.n) : ∃ u, w.cell? ⟨J.N + 3, j, none⟩ = some u ∧ w.frozen? ⟨J.N + 3, j, none⟩ = false := by
  obtain ⟨arr, h1, h2⟩ := h.pay
  exact ⟨arr[j]'(by omega), by simp [World.cell?, h1, h2, hj], by simp [World.frozen?, h1]⟩
theorem asideCell_set {C n : Nat} (hp : PayAt C n w) (v : Value) : AsideCell C n j w (w.setCell ⟨C, j, none⟩ v) := by
  have hA := aside_setCell w ⟨C, j, none⟩ v
  obtain ⟨arr, h1, h2⟩ := hp
  have hb : (w.setCell ⟨C, j, none⟩ v).heap[C]? = some (.cells (arr.setIfInBounds j v) Payload.ety) := by
    rw [setCell_eq_setRow w C j arr _ (0, 0) _ h1, setRow_heap w C _ _ _ _ h1]
  refine ⟨hA.tape, hA.os, hA.output, hA.size, fun b hb' => hA.block b hb', fun _ => ⟨_, hb, by simpa using h2⟩, fun i' hi' => ?_⟩
  simp [World.cell?, hb, h1, Array.getElem?_setIfInBounds_ne (Ne.symm hi')]
theorem has_set {C n : Nat} (hp : PayAt C n w) (hj : j < n) (v : Value) : Has C j v (w.setCell ⟨C, j, none⟩ v) := by
  obtain ⟨arr, h1, h2⟩ := hp
  have hb : (w.setCell ⟨C, j, none⟩ v).heap[C]? = some (.cells (arr.setIfInBounds j v) Payload.ety) := by
    rw [setCell_eq_setRow w C j arr _ (0, 0) _ h1, setRow_heap w C _ _ _ _ h1]
  simp [Has, World.cell?, hb, h2, hj]
variable {Ow : Nat → Loc → Prop} {N : Nat} {S : Nat → Prop}
theorem evW_read (a : Addr) (s : Bool) (h1 : a.block ≠ N + 5) (h2 : a.block ≠ N + 3) (h3 : a.block < Lw N (j + 1)) (h4 : ¬ S a.block) : EvW (N + 5) Ow (Rd N S) (j + 1) ⟨.cell a, false, s⟩ := by
  refine ⟨fun fn pos => ⟨rfl, fun y hy => ?_⟩, by simp, by simp, by simp⟩
  simp only [ofEvent_cell, MemAct.touch?, Option.some.injEq] at hy
  subst hy
  exact .inr (.inr ⟨⟨by omega, a, rfl, h1, h2, h3, h4⟩, rfl⟩)
theorem evW_own (hO : ∀ j, Ow (j + 1) (.cell ⟨N + 3, j, none⟩)) : EvW (N + 5) Ow (Rd N S) (j + 1) ⟨.cell ⟨N + 3, j, none⟩, true, false⟩ := by
  refine ⟨fun fn pos => ⟨rfl, fun y hy => ?_⟩, by simp, by simp, by simp⟩
  simp only [ofEvent_cell, MemAct.touch?, Option.some.injEq] at hy
  subst hy
  exact .inr (.inl (hO j))
end
noncomputable def ops69 : Array Oper := match Try.f69.body with | some (.seq _ (.region _ ops _)) => ops | _ => #[]
/-- What operation number i leaves in slot 6 + i. -/
def vals (J : Job) (j : Nat) : Nat → Value
  | 0 => .slice (some ⟨J.N + 3, 0, none⟩) J.n J.n
  | 1 => .int .i64 j
  | 2 => .func (.func J.f) #[] #[]
  | 3 => .slice (some J.a) J.n J.ca
  | 4 => .int .i64 j
  | 5 => .pointer (some (J.a.add j))
  | 6 => .int .i64 (J.x j)
  | 7 => .slice (some J.b) J.n J.cb
  | 8 => .int .i64 j
  | 9 => .pointer (some (J.b.add j))
  | 10 => .int .i64 (J.y j)
  | 11 => J.out j
  | _ => .pointer (some ⟨J.N + 3, j, none⟩)
def caps (J : Job) (j : Nat) : Array Value := #[.pointer (some ⟨J.N + 5, 0, none⟩), .pointer (some ⟨J.N + 2, 0, none⟩), .pointer (some ⟨J.N, 0, none⟩), .pointer (some ⟨J.N + 6 + j, 0, none⟩), .pointer (some ⟨J.N + 1, 0, none⟩), .pointer (some ⟨J.N + 4, 0, none⟩)]
structure Slots (J : Job) (j : Nat) (ds : List Deferred) (listed : Array Bool) (a : Act) : Prop where
  ds : a.defers = ds
  size : a.tmps.size = 19
  caps : ∀ i, i < 6 → a.tmps[i]? = (caps J j)[i]?
  vals : ∀ i, i < 13 → listed.getD i false = true → a.tmps[6 + i]? = some (vals J j i)
theorem Slots.put {J : Job} {j : Nat} {ds : List Deferred} {listed : Array Bool} {a : Act} (h : Slots J j ds listed a) {i : Nat} (hi : i < 13) : Slots J j ds (listed.setIfInBounds i true) (a.put (some (6 + i)) (Ytcdnmnipaaooiaa.vals J j i)) := by
  refine ⟨h.ds, by show (a.tmps.setIfInBounds _ _).size = 19; rw [Array.size_setIfInBounds, h.size], fun k hk => ?_, fun k hk hlk => ?_⟩
  · show (a.tmps.setIfInBounds (6 + i) _)[k]? = _
    rw [Array.getElem?_setIfInBounds_ne (by omega)]
    exact h.caps k hk
  · show (a.tmps.setIfInBounds (6 + i) _)[6 + k]? = _
    by_cases e : k = i
    · subst e
      rw [Array.getElem?_setIfInBounds_self_of_lt (by rw [h.size]; omega)]
    · rw [Array.getElem?_setIfInBounds_ne (by omega)]
      refine h.vals k hk ?_
      have hne : i ≠ k := fun h => e h.symm
      rwa [getD_set_ne false hne] at hlk
theorem Slots.cap {J : Job} {j : Nat} {ds : List Deferred} {listed : Array Bool} {a : Act} (h : Slots J j ds listed a) {i : Nat} {v : Value} (hi : i < 6) (hv : (Ytcdnmnipaaooiaa.caps J j)[i]? = some v) : a.eval (.tmp i) = v := by
  have := (h.caps i hi).trans hv
  simp [Act.eval, Array.getD_eq_getD_getElem?, this]
theorem Slots.val {J : Job} {j : Nat} {ds : List Deferred} {listed : Array Bool} {a : Act} (h : Slots J j ds listed a) {i : Nat} (hi : i < 13) (hl : listed.getD i false = true) : a.eval (.tmp (6 + i)) = Ytcdnmnipaaooiaa.vals J j i := by
  simp [Act.eval, Array.getD_eq_getD_getElem?, h.vals i hi hl]
end Go.Proofs.Ytcdnmnipaaooiaa
end

section
namespace Go.Proofs.Ytcdnmnipaaooiaa
open Go.Conc Go.ConcN Go.RowKit Go.Conc.Lib Go.ConcR.Gen Go.ConcN.Gen Go.Tw
open Go.ConcR (KK wgBlock WgAt stA smA rd wr mk Payload Aside2 DC0 ofEvent_cell)
theorem deps_lt : ∀ (i : Nat) (o : Oper), ops69[i]? = some o → i < 14 ∧ ∀ e ∈ o.after, e.on < i := by
  have h : ((List.range 14).all fun i => (ops69[i]?).all fun o => o.after.all fun e => decide (e.on < i)) = true := by kernel_rfl
  have hs : ops69.size = 14 := by kernel_rfl
  intro i o ho
  have hi : i < 14 := by rw [← hs]; exact (Array.getElem?_eq_some_iff.1 ho).1
  refine ⟨hi, fun e he => ?_⟩
  have h1 := List.all_eq_true.1 h i (List.mem_range.2 hi)
  rw [ho] at h1
  have h2 := Array.all_eq_true_iff_forall_mem.1 h1 e he
  exact of_decide_eq_true h2
def b2n (b : Bool) : Nat := if b then 0 else 1
def left (listed : Array Bool) : Nat := sumTo 14 fun k => b2n (listed.getD k true)
theorem left_set {listed : Array Bool} {i : Nat} (hi : i < 14) (h : listed.getD i true = false) : left (listed.setIfInBounds i true) + 1 = left listed := by
  have h1 := sumTo_upd (fun k => listed.getD k true) true b2n hi
  have h2 : left (listed.setIfInBounds i true) = sumTo 14 fun a => b2n (upd (fun k => listed.getD k true) i true a) := by
    refine sumTo_congr fun k _ => ?_
    by_cases e : k = i
    · subst e
      rw [upd_same]
      simp [Array.getD_eq_getD_getElem?, Array.getElem?_setIfInBounds]
      split <;> rfl
    · rw [upd_ne _ _ e, getD_set_ne true (fun x => e x.symm)]
  have e1 : b2n (listed.getD i true) = 1 := by rw [h]; rfl
  change _ + b2n (listed.getD i true) = _ + 0 at h1
  rw [e1] at h1
  rw [h2, left]
  exact h1
section
variable {J : Job} {j : Nat} {main : Bool} {Ow : Nat → Loc → Prop}
abbrev RWj (J : Job) (j : Nat) : World → World → Prop := RW 72 (J.N + 5) (J.N + 3) J.n (Lw J.N (j + 1)) (j + 1 - 1)
abbrev DWj (J : Job) (j : Nat) (Ow : Nat → Loc → Prop) : World → World → Array Event → Prop := DWs (J.N + 5) Ow (Rd J.N J.S) (J.N + 3) J.n (j + 1)
theorem termsW (J : Job) (j : Nat) (Ow : Nat → Loc → Prop) : Terms (RWj J j) (DWj J j Ow) := ⟨fun _ _ _ h h' => h.trans h', fun _ => dws_none (by simp)⟩
theorem drawW (J : Job) (j : Nat) (Ow : Nat → Loc → Prop) : LetsDraw (DWj J j Ow) := fun w => ⟨⟨rfl, rfl, rfl, rfl, fun _ _ => rfl, id, fun _ _ => rfl⟩, by simp⟩
theorem wanted_free {o : Oper} (h : o.guard = none) (f : Nat → Option Bool) : Region.wanted o f = true := by unfold Region.wanted; rw [h]
theorem listed_one {a : Act} {o : Oper} {w : World} {e : Event} (he : (execOp a.eval o).events Try.prog w #[] = #[e]) : ∀ x ∈ Go.Conc.listed Try.prog 69 a o w, x = e := by
  intro x hx
  have := mem_listed hx
  rw [he] at this
  simpa using this
/-- A load. -/
theorem take_load {c i s : Nat} (hc : 1 ≤ c) {t : TypeId} (ht : t = 3 ∨ t = 23 ∨ t = 46) {o : Oper} {a : Act} {w : World} {v : Value} (ho : ops69[i]? = some o) (hop : o.op = .load t (.tmp s)) (hg : o.guard = none) {ad : Addr} (hs : a.eval (.tmp s) = .pointer (some ad))
    (h1 : ad.block ≠ J.N + 5) (h2 : ad.block ≠ J.N + 3) (h3 : ad.block < Lw J.N (j + 1)) (h4 : ¬ J.S ad.block) {K : Act → World → Prop} (hv : ∀ w₁, RWj J j w w₁ → w₁.cell? ad = some v ∧ K (a.put o.dst v) w₁) : Takes Try.prog main (RWj J j) (DWj J j Ow) 69 ops69 c i a w K := by
  refine takes_value hc ho (wanted_free hg _) (v := v) fun w₁ h₁ => ?_
  obtain ⟨hcell, hK⟩ := hv w₁ h₁
  obtain ⟨r1, r2⟩ := load_run (w := w₁) ht hcell
  obtain ⟨dst, op, ty, pos, after, guard⟩ := o
  simp only at hop
  subst hop
  have e1 : (execOp a.eval { dst, op := .load t (.tmp s), type := ty, pos, after, guard }).runT Try.prog w₁ #[] = (.ok (.value v) w₁, #[⟨.cell ad, false, false⟩]) := by
    show (Instr.loadAt t (a.eval (.tmp s)) >>= fun v => Pure.pure (Next.value v)).runT Try.prog w₁ #[] = _
    rw [hs]
    have rT : (Instr.loadAt t (.pointer (some ad))).runT Try.prog w₁ #[] = (.ok v w₁, #[⟨.cell ad, false, false⟩]) := Prod.ext (by rw [Sem.runT_fst]; exact r1) r2
    show Sem.runT Try.prog (Sem.bind _ _) w₁ #[] = _
    rw [Sem.runT_bind', rT]
    rfl
  refine ⟨by rw [← Sem.runT_fst Try.prog _ w₁ #[], e1], ⟨AsideCell.refl _ _ _ _, fun e he => ?_⟩, hK⟩
  rw [listed_one (congrArg Prod.snd e1) e he]
  exact evW_read _ _ h1 h2 h3 h4
/-- A place in a slice. -/
theorem take_index {c i s u : Nat} (hc : 1 ≤ c) {o : Oper} {a : Act} {w : World} (ho : ops69[i]? = some o) (hop : o.op = .indexAddr 23 (.tmp s) (.tmp u)) (hg : o.guard = none) {ad : Addr} {cap : Nat} (hj : j < J.n) (hs : a.eval (.tmp s) = .slice (some ad) J.n cap) (hu : a.eval (.tmp u) = .int .i64 j)
    {K : Act → World → Prop} (hv : ∀ w₁, RWj J j w w₁ → K (a.put o.dst (.pointer (some (ad.add j)))) w₁) : Takes Try.prog main (RWj J j) (DWj J j Ow) 69 ops69 c i a w K := by
  refine takes_value hc ho (wanted_free hg _) (v := .pointer (some (ad.add j))) fun w₁ h₁ => ?_
  obtain ⟨r1, r2⟩ := index_run (ad := ad) (cap := cap) hj w₁
  obtain ⟨dst, op, ty, pos, after, guard⟩ := o
  simp only at hop
  subst hop
  have e1 : (execOp a.eval { dst, op := .indexAddr 23 (.tmp s) (.tmp u), type := ty, pos, after, guard }).runT Try.prog w₁ #[] = (.ok (.value (.pointer (some (ad.add j)))) w₁, #[]) := by
    show (Instr.indexAt 23 (a.eval (.tmp s)) (a.eval (.tmp u)) >>= fun v => Pure.pure (Next.value v)).runT Try.prog w₁ #[] = _
    rw [hs, hu]
    have rT : (Instr.indexAt 23 (.slice (some ad) J.n cap) (.int .i64 j)).runT Try.prog w₁ #[] = (.ok (.pointer (some (ad.add j))) w₁, #[]) := Prod.ext (by rw [Sem.runT_fst]; exact r1) r2
    show Sem.runT Try.prog (Sem.bind _ _) w₁ #[] = _
    rw [Sem.runT_bind', rT]
    rfl
  refine ⟨by rw [← Sem.runT_fst Try.prog _ w₁ #[], e1], ?_, hv w₁ h₁⟩
  have hl : Go.Conc.listed Try.prog 69 a { dst, op := .indexAddr 23 (.tmp s) (.tmp u), type := ty, pos, after, guard } w₁ = #[] := by
    have he : (execOp a.eval { dst, op := .indexAddr 23 (.tmp s) (.tmp u), type := ty, pos, after, guard }).events Try.prog w₁ #[] = #[] := congrArg Prod.snd e1
    unfold Go.Conc.listed
    rw [he]
    exact seen_none _ _
  rw [hl]
  exact dws_none (by simp)
/-- What is asked behind the region. -/
def Behind (J : Job) (j : Nat) (ds : List Deferred) : Exit → Act → World → Prop
  | .normal, a, w => a.defers = ds ∧ a.tmps.size = 19 ∧ a.tmps[0]? = some (.pointer (some ⟨J.N + 5, 0, none⟩)) ∧ WgLive 72 (J.N + 5) w ∧ Has (J.N + 3) j (J.out j) w
  | _, _, _ => False
theorem ready_none {listed : Array Bool} (h : ∀ i, i < 14 → listed.getD i true = true) : Region.ready .any ops69 listed = [] := by
  apply List.eq_nil_iff_forall_not_mem.2
  intro i hi
  obtain ⟨h0, o, ho, _⟩ := mem_ready.1 hi
  rw [h i (deps_lt i o ho).1] at h0
  cases h0
theorem ready_some {listed : Array Bool} (hs : listed.size = 14) {i : Nat} (hi : i < 14) (h : listed.getD i true = false) : Region.ready .any ops69 listed ≠ [] := by
  obtain ⟨m, ⟨hm, hm'⟩, hmin⟩ := least (p := fun i => i < 14 ∧ listed.getD i true = false) ⟨i, hi, h⟩
  have hsz : ops69.size = 14 := by kernel_rfl
  have ho : ops69[m]? = some ops69[m] := Array.getElem?_eq_getElem (by omega)
  have : m ∈ Region.ready .any ops69 listed := mem_ready.2 ⟨hm', _, ho, fun e he _ => by
    have hlt := (deps_lt m _ ho).2 e he
    have := hmin e.on hlt
    have hb : listed.getD e.on true = true := by
      cases hc : listed.getD e.on true with
      | true => rfl
      | false => exact absurd ⟨by omega, hc⟩ this
    have h1 : e.on < listed.size := by omega
    simpa [Array.getD, h1] using hb⟩
  exact List.ne_nil_of_mem this
theorem getD_up {listed : Array Bool} (hs : listed.size = 14) {i : Nat} (hi : i < 14) (b : Bool) (h : listed.getD i false = b) : listed.getD i true = b := by
  have h1 : i < listed.size := by omega
  simpa [Array.getD, h1] using h
theorem dep {listed : Array Bool} {i d : Nat} {o : Oper} (ho : ops69[i]? = some o) (hall : ∀ e ∈ o.after, Region.binds .any e = true → listed.getD e.on false = true)
    (h : ((ops69[i]?).map fun o => o.after.any fun e => Region.binds .any e && (e.on == d)) = some true) : listed.getD d false = true := by
  rw [ho] at h
  simp only [Option.map_some, Option.some.injEq, Array.any_eq_true] at h
  obtain ⟨k, hk, hb⟩ := h
  simp only [Bool.and_eq_true, beq_iff_eq] at hb
  have := hall _ (Array.getElem_mem hk) hb.1
  rwa [hb.2] at this
theorem isOp {i : Nat} {o : Oper} {op : Op} {dst : Option Tmp} (ho : ops69[i]? = some o) (h : ((ops69[i]?).map fun o => (o.op, o.guard, o.dst)) = some (op, none, dst)) : o.op = op ∧ o.guard = none ∧ o.dst = dst := by
  rw [ho] at h
  simp only [Option.map_some, Option.some.injEq, Prod.mk.injEq] at h
  exact h
theorem all13 : ∀ k, k < 13 → ((ops69[13]?).map fun o => o.after.any fun e => Region.binds .any e && (e.on == k)) = some true := by
  have h : ((List.range 13).all fun k => ((ops69[13]?).map fun o => o.after.any fun e => Region.binds .any e && (e.on == k)) == some true) = true := by kernel_rfl
  intro k hk
  have := List.all_eq_true.1 h k (List.mem_range.2 hk)
  simpa using this
theorem store_run {ad : Addr} {v : Int} {u : Value} {w : World} (hc : w.cell? ad = some u) (hz : w.frozen? ad = false) : (Instr.storeAt 3 (.pointer (some ad)) (.int .i64 v)).runT Try.prog w #[] = (.ok () (w.setCell ad (.int .i64 v)), #[⟨.cell ad, true, false⟩]) := by
  refine Prod.ext ?_ ?_
  · rw [Sem.runT_fst]
    simp [go_sem, Instr.storeAt, stored, hc, hz]
  · show (Instr.storeAt 3 (.pointer (some ad)) (.int .i64 v)).events Try.prog w #[] = _
    simp [go_sem, Instr.storeAt, storedEv, hc, hz]
set_option maxHeartbeats 1600000 in
/-- ████ WHATEVER ORDER. ████ -/
theorem work_any (hJ : J.Sound) (hj : j < J.n) (hO : ∀ j, Ow (j + 1) (.cell ⟨J.N + 3, j, none⟩)) {c nf : Nat} (hc : nf + 3 ≤ c) {ds : List Deferred}
    (hcall : ∀ (x y : Int) (w : World), WK J j w → CallsC Try.prog main (RWj J j) (DWj J j Ow) J.f #[.int .i64 x, .int .i64 y] nf w (fun v w' => v = .int .i64 (made J.f x y) ∧ WK J j w')) :
    ∀ (fuel : Nat) (listed : Array Bool) (a : Act) (w : World), listed.size = 14 → left listed ≤ fuel → (listed.getD 13 true = false ∧ WK J j w ∧ Slots J j ds listed a) ∨ ((∀ i, i < 14 → listed.getD i true = true) ∧ Behind J j ds .normal a w) →
      AnyX Try.prog main (RWj J j) (DWj J j Ow) 69 .any ops69 (Behind J j ds) c fuel listed a w := by
  have done : ∀ (fuel : Nat) (listed : Array Bool) (a : Act) (w : World), (∀ i, i < 14 → listed.getD i true = true) → Behind J j ds .normal a w → AnyX Try.prog main (RWj J j) (DWj J j Ow) 69 .any ops69 (Behind J j ds) c fuel listed a w := by
    intro fuel listed a w hall hb
    cases fuel with
    | zero => exact ⟨ready_none hall, hb⟩
    | succ fuel => exact ⟨fun _ => hb, fun i hi => by rw [ready_none hall] at hi; cases hi⟩
  intro fuel
  induction fuel with
  | zero =>
    intro listed a w hs hl h
    rcases h with ⟨h13, _⟩ | ⟨hall, hb⟩
    · exfalso
      have := le_sumTo (f := fun k => b2n (listed.getD k true)) (show 13 < 14 by omega)
      rw [h13] at this
      have h1 : 1 ≤ left listed := this
      omega
    · exact done _ _ _ _ hall hb
  | succ fuel ih =>
    intro listed a w hs hl h
    rcases h with ⟨h13, hK, hA⟩ | ⟨hall, hb⟩
    · refine ⟨fun e => absurd e (ready_some hs (by omega) h13), fun i hi => ?_⟩
      obtain ⟨hun, o, ho, hall⟩ := mem_ready.1 hi
      have hi14 := (deps_lt i o ho).1
      have hleft := left_set hi14 hun
      have next : ∀ {i : Nat} {v : Value} {w₁ : World} (hi : i < 13), listed.getD i true = false → vals J j i = v → WK J j w₁ → AnyX Try.prog main (RWj J j) (DWj J j Ow) 69 .any ops69 (Behind J j ds) c fuel (listed.setIfInBounds i true) (a.put (some (6 + i)) v) w₁ := by
        intro i v w₁ hi13 hun' hv hK'
        subst hv
        have hl' := left_set (show i < 14 by omega) hun'
        exact ih _ _ _ (by simp [hs]) (by omega) (.inl ⟨by rw [getD_set_ne true (by omega)]; exact h13, hK', hA.put hi13⟩)
      have hc1 : 1 ≤ c := by omega
      have rl : ∀ w₁, RWj J j w w₁ → WK J j w₁ := fun w₁ r => hK.rely hJ r
      have aL := hJ.aLow
      have bL := hJ.bLow
      have h14 : i = 0 ∨ i = 1 ∨ i = 2 ∨ i = 3 ∨ i = 4 ∨ i = 5 ∨ i = 6 ∨ i = 7 ∨ i = 8 ∨ i = 9 ∨ i = 10 ∨ i = 11 ∨ i = 12 ∨ i = 13 := by omega
      rcases h14 with rfl | rfl | rfl | rfl | rfl | rfl | rfl | rfl | rfl | rfl | rfl | rfl | rfl | rfl
      · obtain ⟨o1, o2, o3⟩ := isOp ho (show _ = some (Op.load 23 (.tmp 5), none, some 6) by rfl)
        refine take_load hc1 (by decide) ho o1 o2 (hA.cap (show 5 < 6 by omega) rfl) (by simp) (by simp) (by simp [Lw]; omega) (fun h => by have := hJ.sLow _ h; simp at this; omega) fun w₁ r => ⟨(rl w₁ r).ov, ?_⟩
        rw [o3]
        exact next (i := 0) (by omega) hun rfl (rl w₁ r)
      · obtain ⟨o1, o2, o3⟩ := isOp ho (show _ = some (Op.load 3 (.tmp 3), none, some 7) by rfl)
        refine take_load hc1 (by decide) ho o1 o2 (hA.cap (show 3 < 6 by omega) rfl) (by simp; omega) (by simp; omega) (by simp [Lw]) (fun h => by have := hJ.sLow _ h; simp at this; omega) fun w₁ r => ⟨(rl w₁ r).iv, ?_⟩
        rw [o3]
        exact next (i := 1) (by omega) hun rfl (rl w₁ r)
      · obtain ⟨o1, o2, o3⟩ := isOp ho (show _ = some (Op.load 46 (.tmp 1), none, some 8) by rfl)
        refine take_load hc1 (by decide) ho o1 o2 (hA.cap (show 1 < 6 by omega) rfl) (by simp) (by simp) (by simp [Lw]; omega) (fun h => by have := hJ.sLow _ h; simp at this; omega) fun w₁ r => ⟨(rl w₁ r).mv, ?_⟩
        rw [o3]
        exact next (i := 2) (by omega) hun rfl (rl w₁ r)
      · obtain ⟨o1, o2, o3⟩ := isOp ho (show _ = some (Op.load 23 (.tmp 2), none, some 9) by rfl)
        refine take_load hc1 (by decide) ho o1 o2 (hA.cap (show 2 < 6 by omega) rfl) (by simp) (by simp) (by simp [Lw]; omega) (fun h => by have := hJ.sLow _ h; simp at this) fun w₁ r => ⟨(rl w₁ r).av, ?_⟩
        rw [o3]
        exact next (i := 3) (by omega) hun rfl (rl w₁ r)
      · obtain ⟨o1, o2, o3⟩ := isOp ho (show _ = some (Op.load 3 (.tmp 3), none, some 10) by rfl)
        refine take_load hc1 (by decide) ho o1 o2 (hA.cap (show 3 < 6 by omega) rfl) (by simp; omega) (by simp; omega) (by simp [Lw]) (fun h => by have := hJ.sLow _ h; simp at this; omega) fun w₁ r => ⟨(rl w₁ r).iv, ?_⟩
        rw [o3]
        exact next (i := 4) (by omega) hun rfl (rl w₁ r)
      · obtain ⟨o1, o2, o3⟩ := isOp ho (show _ = some (Op.indexAddr 23 (.tmp 9) (.tmp 10), none, some 11) by rfl)
        refine take_index hc1 ho o1 o2 hj (hA.val (i := 3) (by omega) (dep ho hall (by kernel_rfl))) (hA.val (i := 4) (by omega) (dep ho hall (by kernel_rfl))) fun w₁ r => ?_
        rw [o3]
        exact next (i := 5) (by omega) hun rfl (rl w₁ r)
      · obtain ⟨o1, o2, o3⟩ := isOp ho (show _ = some (Op.load 3 (.tmp 11), none, some 12) by rfl)
        refine take_load hc1 (by decide) ho o1 o2 (hA.val (i := 5) (by omega) (dep ho hall (by kernel_rfl))) (by rw [add_block]; omega) (by rw [add_block]; omega) (by rw [add_block]; simp only [Lw]; omega) (by rw [add_block]; exact hJ.aS) fun w₁ r => ⟨(rl w₁ r).xv, ?_⟩
        rw [o3]
        exact next (i := 6) (by omega) hun rfl (rl w₁ r)
      · obtain ⟨o1, o2, o3⟩ := isOp ho (show _ = some (Op.load 23 (.tmp 4), none, some 13) by rfl)
        refine take_load hc1 (by decide) ho o1 o2 (hA.cap (show 4 < 6 by omega) rfl) (by simp) (by simp) (by simp [Lw]; omega) (fun h => by have := hJ.sLow _ h; simp at this; omega) fun w₁ r => ⟨(rl w₁ r).bv, ?_⟩
        rw [o3]
        exact next (i := 7) (by omega) hun rfl (rl w₁ r)
      · obtain ⟨o1, o2, o3⟩ := isOp ho (show _ = some (Op.load 3 (.tmp 3), none, some 14) by rfl)
        refine take_load hc1 (by decide) ho o1 o2 (hA.cap (show 3 < 6 by omega) rfl) (by simp; omega) (by simp; omega) (by simp [Lw]) (fun h => by have := hJ.sLow _ h; simp at this; omega) fun w₁ r => ⟨(rl w₁ r).iv, ?_⟩
        rw [o3]
        exact next (i := 8) (by omega) hun rfl (rl w₁ r)
      · obtain ⟨o1, o2, o3⟩ := isOp ho (show _ = some (Op.indexAddr 23 (.tmp 13) (.tmp 14), none, some 15) by rfl)
        refine take_index hc1 ho o1 o2 hj (hA.val (i := 7) (by omega) (dep ho hall (by kernel_rfl))) (hA.val (i := 8) (by omega) (dep ho hall (by kernel_rfl))) fun w₁ r => ?_
        rw [o3]
        exact next (i := 9) (by omega) hun rfl (rl w₁ r)
      · obtain ⟨o1, o2, o3⟩ := isOp ho (show _ = some (Op.load 3 (.tmp 15), none, some 16) by rfl)
        refine take_load hc1 (by decide) ho o1 o2 (hA.val (i := 9) (by omega) (dep ho hall (by kernel_rfl))) (by rw [add_block]; omega) (by rw [add_block]; omega) (by rw [add_block]; simp only [Lw]; omega) (by rw [add_block]; exact hJ.bS) fun w₁ r => ⟨(rl w₁ r).yv, ?_⟩
        rw [o3]
        exact next (i := 10) (by omega) hun rfl (rl w₁ r)
      · obtain ⟨o1, o2, o3⟩ := isOp ho (show _ = some (Op.call { callee := .value (.tmp 8), args := #[.tmp 12, .tmp 16], argTypes := #[48, 48] }, none, some 17) by rfl)
        have e8 : a.eval (.tmp 8) = .func (.func J.f) #[] #[] := hA.val (i := 2) (by omega) (dep ho hall (by kernel_rfl))
        have e12 : a.eval (.tmp 12) = .int .i64 (J.x j) := hA.val (i := 6) (by omega) (dep ho hall (by kernel_rfl))
        have e16 : a.eval (.tmp 16) = .int .i64 (J.y j) := hA.val (i := 10) (by omega) (dep ho hall (by kernel_rfl))
        refine takes_call (termsW J j Ow) hc ho (wanted_free o2 _) o1 e8 (vs := #[.int .i64 (J.x j), .int .i64 (J.y j)]) (by simp [e12, e16]) (hcall _ _ w hK) ?_
        rintro v w' ⟨rfl, hK'⟩
        rw [o3]
        exact next (i := 11) (by omega) hun rfl hK'
      · obtain ⟨o1, o2, o3⟩ := isOp ho (show _ = some (Op.indexAddr 23 (.tmp 6) (.tmp 7), none, some 18) by rfl)
        refine take_index hc1 ho o1 o2 hj (hA.val (i := 0) (by omega) (dep ho hall (by kernel_rfl))) (hA.val (i := 1) (by omega) (dep ho hall (by kernel_rfl))) fun w₁ r => ?_
        rw [o3]
        exact next (i := 12) (by omega) hun (by simp [vals, Addr.add]) (rl w₁ r)
      · obtain ⟨o1, o2, o3⟩ := isOp ho (show _ = some (Op.store 3 (.tmp 18) (.tmp 17), none, none) by rfl)
        have e18 : a.eval (.tmp 18) = .pointer (some ⟨J.N + 3, j, none⟩) := hA.val (i := 12) (by omega) (dep ho hall (by kernel_rfl))
        have e17 : a.eval (.tmp 17) = J.out j := hA.val (i := 11) (by omega) (dep ho hall (by kernel_rfl))
        have hl13 : ∀ k, k < 13 → listed.getD k true = true := fun k hk => getD_up hs (by omega) _ (dep ho hall (all13 k hk))
        refine takes_skip hc1 ho (wanted_free o2 _) fun w₁ r => ?_
        have hK' := rl w₁ r
        obtain ⟨u, hu1, hu2⟩ := hK'.cellAt hj
        have hT := store_run (v := made J.f (J.x j) (J.y j)) hu1 hu2
        have e1 : (execOp a.eval o).runT Try.prog w₁ #[] = (.ok .skip (w₁.setCell ⟨J.N + 3, j, none⟩ (J.out j)), #[⟨.cell ⟨J.N + 3, j, none⟩, true, false⟩]) := by
          obtain ⟨dst, op, ty, pos, after, guard⟩ := o
          simp only at o1
          subst o1
          show (Instr.storeAt 3 (a.eval (.tmp 18)) (a.eval (.tmp 17)) >>= fun _ => Pure.pure Next.skip).runT Try.prog w₁ #[] = _
          rw [e18, e17]
          show Sem.runT Try.prog (Sem.bind _ _) w₁ #[] = _
          rw [Sem.runT_bind', show (Instr.storeAt 3 (.pointer (some ⟨J.N + 3, j, none⟩)) (J.out j)).runT Try.prog w₁ #[] = _ from hT]
          rfl
        refine ⟨w₁.setCell ⟨J.N + 3, j, none⟩ (J.out j), by rw [← Sem.runT_fst Try.prog _ w₁ #[], e1], ⟨asideCell_set (j := j) hK'.pay (J.out j), fun e he => ?_⟩, ?_⟩
        · rw [listed_one (congrArg Prod.snd e1) e he]
          exact evW_own hO
        · rw [o3]
          refine done _ _ _ _ (fun k hk => ?_) ⟨hA.ds, hA.size, hA.caps 0 (by omega), ?_, has_set hK'.pay hj _⟩
          · by_cases e : k = 13
            · subst e
              have : 13 < listed.size := by omega
              simp [Array.getD_eq_getD_getElem?, this]
            · rw [getD_set_ne true (by omega)]
              exact hl13 k (by omega)
          · obtain ⟨st, sm, hl'⟩ := hK'.live
            exact ⟨st, sm, hl'.of_block ((aside_setCell w₁ ⟨J.N + 3, j, none⟩ (J.out j)).block (J.N + 5) (by simp))⟩
    · exact done _ _ _ _ hall hb
end
end Go.Proofs.Ytcdnmnipaaooiaa
end

section
namespace Go.Proofs.Ytcdnmnipaaooiaa
open Go.Conc Go.ConcN Go.RowKit Go.Conc.Lib Go.ConcR.Gen Go.ConcN.Gen Go.Tw
open Go.ConcR (KK wgBlock WgAt stA smA rd wr mk Payload Aside2 DC0 ofEvent_cell)
def b69 : Frame := baseD 69
noncomputable def bot : Frame := { (default : Frame) with fn := Try.prog.funcs.size, defers := [], mode := .panicking [goexitEntry] }
noncomputable def body69 : Code := Try.f69.body.getD .skip
/-- The call that the j-th go statement holds. -/
def call69 (J : Job) (j : Nat) : Deferred := { target := .fn (.func 69) (caps J j), args := #[] }
theorem quitsTail (T : Array Value) : QuitsD Try.prog 2 0 (G { b69.at ⟨T, []⟩ [] with mode := .returning } [bot]) := by
  refine QuitsD.ctl (g' := G bot []) rfl (fun w => ?_) ?_
  · simp [G, stepG, unwind, doReturn, results, Frame.at, b69, baseD, bot, Try.func69, Try.f69, seen, GStep.after, goexitEntry]
  refine QuitsD.ctl (g' := { G bot [] with status := .finished }) rfl (fun w => ?_) ⟨rfl, rfl⟩
  simp [G, stepG, unwind, bot, goexitEntry, Frame.catches]
  rfl
theorem born_step (J : Job) (j : Nat) (w : World) : stepG Try.prog false (born Try.prog (call69 J j)) w =
    .go (G (b69.at ⟨caps J j ++ #[undef, undef, undef, undef, undef, undef, undef, undef, undef, undef, undef, undef, undef], []⟩ [.code body69]) [bot]) w #[] := by
  simp [born, call69, stepG, unwind, callDeferred, invoke, callFunc, Try.func69, Try.f69, seen, GStep.after, G, Frame.enter, Frame.at, b69, baseD, bot, body69, caps]
theorem mixed : Try.prog.follows .mixedOrders = true := by kernel_rfl
set_option maxRecDepth 100000 in
set_option maxHeartbeats 4000000 in
/-- Behind the region: the deferred Done. -/
theorem afterRegion {J : Job} {j : Nat} {Ow : Nat → Loc → Prop} (a : Act) (w : World) (h : Behind J j [dcall 70 #[.pointer (some ⟨J.N + 5, 0, none⟩)]] .normal a w) :
    Goes Try.prog false (RWj J j) (DWj J j Ow) (AtR0 Try.prog 72 (J.N + 5) (J.N + 3) J.n (Lw J.N (j + 1)) (j + 1) (J.out j)) 25 (G (b69.at a []) [bot]) w := by
  obtain ⟨T, ds⟩ := a
  obtain ⟨h1, _, _, h4, h5⟩ := h
  simp only at h1
  subst h1
  have hK := And.intro h4 h5
  u_c stepG_end kn_rely hK
  u_in kn_rely hK
  rw [stepG_unwind_enter rfl Try.func70 (nm_done Try.link) rfl]
  simp only [goes_go]
  refine ⟨by u_nil, ?_⟩
  walk_nrmf Try.f70
  have hA := @doneN _ Try.link Try.prog Try.wgLib Ow (Rd J.N J.S) (J.N + 5) (J.N + 3) J.n (Lw J.N (j + 1)) (j + 1) (J.out j)
  simp only [body_done, doneFn, Option.getD_some] at hA
  exact hA rfl (quitsTail _) _ hK
set_option maxRecDepth 100000 in
set_option maxHeartbeats 4000000 in
/-- ████ THE WORKER's WHOLE SCRIPT. ████ -/
theorem works {J : Job} {j : Nat} {Ow : Nat → Loc → Prop} {w : World} (hJ : J.Sound) (hj : j < J.n) (hO : ∀ j, Ow (j + 1) (.cell ⟨J.N + 3, j, none⟩)) (hF : WK J j w) :
    Works Try.prog 72 (J.N + 5) (J.N + 3) J.n Ow (Rd J.N J.S) (Lw J.N (j + 1)) (j + 1) (J.out j) (born Try.prog (call69 J j)) w := by
  obtain ⟨nf, hcall⟩ := callMake (main := false) hJ.make (termsW J j Ow) (H := WK J j) (fun {x y} h r => WK.rely hJ h r)
  have hdraw := fun (a : Act) (w : World) (h : ∀ w₁, RWj J j w w₁ → AnyX Try.prog false (RWj J j) (DWj J j Ow) 69 .any ops69 (Behind J j [dcall 70 #[.pointer (some ⟨J.N + 5, 0, none⟩)]]) (nf + 3) ops69.size (Array.replicate ops69.size false) a { w₁ with drawn := w₁.drawn + 1 }) =>
    wpC_goes (b := b69) (k := []) (cs := [bot]) (m := 25) (Stop := AtR0 Try.prog 72 (J.N + 5) (J.N + 3) J.n (Lw J.N (j + 1)) (j + 1) (J.out j)) (wpC_region_any (id := 1) (termsW J j Ow) (drawW J j Ow) mixed h) rfl (by simp [b69, baseD]) (fun e a' w' q => by
      cases e with
      | normal => exact afterRegion a' w' q
      | _ => exact q.elim)
  refine ⟨(25 + (ops69.size * (nf + 3) + 1 + 1)) + 5, Goes.step rfl fun w₁ h₁ => ?_⟩
  have rel := fun {x y} (h : WK J j x) (r : RWj J j x y) => WK.rely hJ h r
  replace hF := rel hF h₁
  clear h₁
  rw [born_step]
  refine ⟨dws_none (by simp), ?_⟩
  have e69 : body69 = .seq (.region 0 #[{ dst := none, op := .defer { callee := .value (.func 70), args := #[.tmp 0], argTypes := #[72] }, type := 0, pos := "l3_share.go:21", after := #[], guard := none }] false) (.region 1 ops69 true) := rfl
  rw [e69]
  simp only [caps]
  u_c stepG_seq rel hF
  u_reg rel hF
  u_defer rel hF
  u_c stepG_region_end rel hF
  have hsz : ops69.size = 14 := by kernel_rfl
  refine hdraw _ _ fun w₁ r => work_any hJ hj hO (Nat.le_refl _) hcall _ _ _ _ (by rw [hsz]; rfl) (by rw [hsz]; decide) (.inl ⟨by rw [hsz]; rfl, (rel hF r).rely hJ (RW.at _ _), ⟨rfl, rfl, fun i hi => ?_, fun i hi h => ?_⟩⟩)
  · have : i = 0 ∨ i = 1 ∨ i = 2 ∨ i = 3 ∨ i = 4 ∨ i = 5 := by omega
    rcases this with rfl | rfl | rfl | rfl | rfl | rfl <;> rfl
  · rw [hsz] at h
    have h14 : i < 14 := by omega
    simp [Array.getD_eq_getD_getElem?, h14] at h
end Go.Proofs.Ytcdnmnipaaooiaa
end

section
namespace Go.Tw
open Go.Conc
theorem act_bound (x : MemAct) : ∃ B, x.low B := by
  cases x with
  | access e =>
    obtain ⟨loc, wr, s⟩ := e
    cases loc with
    | cell a => exact ⟨a.block + 1, Nat.lt_succ_self _⟩
    | obj r => exact ⟨r + 1, Nat.lt_succ_self _⟩
    | output => exact ⟨0, trivial⟩
    | goroutines => exact ⟨0, trivial⟩
    | mark m => exact ⟨0, trivial⟩
  | mark m =>
    cases m with
    | acquire a => exact ⟨a.block + 1, Nat.lt_succ_self _⟩
    | release a => exact ⟨a.block + 1, Nat.lt_succ_self _⟩
    | releaseMerge a => exact ⟨a.block + 1, Nat.lt_succ_self _⟩
    | read a => exact ⟨a.block + 1, Nat.lt_succ_self _⟩
    | write a => exact ⟨a.block + 1, Nat.lt_succ_self _⟩
    | _ => exact ⟨0, trivial⟩
  | go k => exact ⟨0, trivial⟩
  | start => exact ⟨0, trivial⟩
  | send c _ => exact ⟨c + 1, Nat.lt_succ_self _⟩
  | sendDone c _ => exact ⟨c + 1, Nat.lt_succ_self _⟩
  | recv c _ _ => exact ⟨c + 1, Nat.lt_succ_self _⟩
  | recvDone c _ => exact ⟨c + 1, Nat.lt_succ_self _⟩
  | close c => exact ⟨c + 1, Nat.lt_succ_self _⟩
  | recvClosed c => exact ⟨c + 1, Nat.lt_succ_self _⟩
theorem trace_bound (T : Trace) : ∃ B, ∀ op ∈ T, op.act.low B := by
  obtain ⟨l⟩ := T
  induction l with
  | nil => exact ⟨0, by simp⟩
  | cons x l ih =>
    obtain ⟨B, hB⟩ := ih
    obtain ⟨b, hb⟩ := act_bound x.act
    refine ⟨max b B, fun op hop => ?_⟩
    rcases List.mem_cons.1 (by simpa using hop) with rfl | h
    · exact MemAct.low_mono (Nat.le_max_left ..) hb
    · exact MemAct.low_mono (Nat.le_max_right ..) (hB op (by simpa using h))
def ren (o g : Nat) : Nat := if g = 0 then 0 else o + g
def renA (o : Nat) : MemAct → MemAct
  | .go k => .go (ren o k)
  | x => x
def renO (o : Nat) (op : MemOp) : MemOp := { op with g := ren o op.g, act := renA o op.act }
section
variable {o : Nat}
theorem ren_inj {g h : Nat} : ren o g = ren o h ↔ g = h := by
  unfold ren
  split <;> split <;> omega
theorem ren_zero : ren o 0 = 0 := rfl
theorem ren_pos {g : Nat} (h : g ≠ 0) : o < ren o g := by unfold ren; rw [if_neg h]; omega
theorem renA_touch (x : MemAct) : (renA o x).touch? = x.touch? := by cases x <;> rfl
theorem renA_back {x y : MemAct} (h : renA o x = y) (hy : ∀ k, y ≠ .go k) : x = y := by
  cases x with
  | go k => exact absurd h.symm (hy _)
  | _ => exact h
theorem renO_events (g : Nat) (fn : FuncId) (pos : String) (es : Array Event) : (MemOp.ofEvents g fn pos es).map (renO o) = MemOp.ofEvents (ren o g) fn pos es := by
  simp only [ofEvents_eq, Array.map_map]
  congr 1
  funext e
  have : renA o (MemAct.ofEvent e) = MemAct.ofEvent e := by
    cases h : MemAct.ofEvent e with
    | go k => exact absurd h (ofEvent_ne_go e k)
    | _ => rfl
  simp [renO, this]
end
/-- 'at_' lays the small trace's places into the true one's. -/
structure Woven (o : Nat) (t₀ s T : Trace) (at_ : Nat → Nat) : Prop where
  front : ∃ U, T = t₀ ++ U
  laid : ∀ i op, s[i]? = some op → T[at_ i]? = some (renO o op)
  past : ∀ i, i < s.size → t₀.size ≤ at_ i
  order : ∀ i j, i < j → j < s.size → at_ i < at_ j
  rest : ∀ k y, T[k]? = some y → t₀.size ≤ k → (∃ i, i < s.size ∧ k = at_ i) ∨ (y.g ≠ 0 ∧ y.g ≤ o ∧ (y.act = .mark .disable ∨ y.act = .mark .enable))
  deafs : ∀ g i, i < s.size → T.deaf (ren o g) (at_ i) = s.deaf g i
  deafEnd : ∀ g, Deaf T (ren o g) = Deaf s g
section
variable {o : Nat} {t₀ s T : Trace} {at_ : Nat → Nat}
theorem Woven.act (W : Woven o t₀ s T at_) {i : Nat} {x : MemAct} (h : s.act? i = some x) : T.act? (at_ i) = some (renA o x) := by
  obtain ⟨op, ho, rfl⟩ := Option.map_eq_some_iff.1 h
  simp [Trace.act?, W.laid i op ho, renO]
theorem Woven.g (W : Woven o t₀ s T at_) {i g : Nat} (h : s.g? i = some g) : T.g? (at_ i) = some (ren o g) := by
  obtain ⟨op, ho, rfl⟩ := Option.map_eq_some_iff.1 h
  simp [Trace.g?, W.laid i op ho, renO]
theorem Woven.touch (W : Woven o t₀ s T at_) {i : Nat} (hi : i < s.size) : touchAt T (at_ i) = touchAt s i := by
  have ho : s[i]? = some s[i] := Array.getElem?_eq_getElem hi
  rw [touchAt_of (W.laid i _ ho), touchAt_of ho]
  exact renA_touch _
theorem Woven.lt_of (W : Woven o t₀ s T at_) {i j : Nat} (hi : i < s.size) (h : at_ i < at_ j) : i < j := by
  rcases Nat.lt_trichotomy i j with x | rfl | x
  · exact x
  · exact absurd h (Nat.lt_irrefl _)
  · exact absurd (W.order j i x hi) (Nat.lt_asymm h)
theorem Woven.find (W : Woven o t₀ s T at_) {k : Nat} {x : MemAct} (h : T.act? k = some x) (hk : t₀.size ≤ k) (hx : x ≠ .mark .disable ∧ x ≠ .mark .enable) (hgo : ∀ n, x ≠ .go n) : ∃ i, i < s.size ∧ k = at_ i ∧ s.act? i = some x := by
  obtain ⟨y, hy, rfl⟩ := Option.map_eq_some_iff.1 h
  rcases W.rest k y hy hk with ⟨i, hi, rfl⟩ | ⟨_, _, e⟩
  · have ho : s[i]? = some s[i] := Array.getElem?_eq_getElem hi
    have e : y = renO o s[i] := Option.some.inj (hy.symm.trans (W.laid i _ ho))
    refine ⟨i, hi, rfl, ?_⟩
    rw [act?_of ho, e]
    exact congrArg some (renA_back (o := o) (x := s[i].act) rfl (by rw [e] at hgo; exact hgo))
  · exact (e.elim hx.1 hx.2).elim
theorem Woven.hears (W : Woven o t₀ s T at_) {i : Nat} (hi : i < s.size) : T.heard (at_ i) ↔ s.heard i := by
  have hg : s.g? i = some s[i].g := by simp [Trace.g?, Array.getElem?_eq_getElem hi]
  constructor
  · rintro ⟨g', hg', hd⟩
    obtain rfl : g' = ren o s[i].g := Option.some.inj (hg'.symm.trans (W.g hg))
    exact ⟨_, hg, by rw [← W.deafs _ i hi]; exact hd⟩
  · rintro ⟨g, hg, hd⟩
    exact ⟨ren o g, W.g hg, by rw [W.deafs g i hi]; exact hd⟩
theorem Woven.sees (W : Woven o t₀ s T at_) {i j : Nat} (h : Notices s i j) : Notices T (at_ i) (at_ j) := by
  cases h with
  | @atomic a hij hi hj hb =>
    have hjs := lt_of_act? hj
    have his : i < s.size := Nat.lt_trans hij hjs
    refine .atomic (W.order _ _ hij hjs) (W.act hi) (W.act hj) fun k sync h1 h2 e => ?_
    obtain ⟨k', hk', rfl, hact⟩ := W.find e (Nat.le_trans (W.past i his) (Nat.le_of_lt h1)) ⟨by simp, by simp⟩ (by simp)
    exact hb k' sync (W.lt_of his h1) (W.lt_of hk' h2) hact
  | @spawn child hi hj hg => exact .spawn (child := ren o child) (W.act hi) (W.act hj) (W.g hg)
  | handOver hi hj => exact .handOver (W.act hi) (W.act hj)
  | room hi hj => exact .room (W.act hi) (W.act hj)
  | closed hi hj => exact .closed (W.act hi) (W.act hj)
  | @marked a hij hi hj hb =>
    have hjs := lt_of_act? hj
    have his : i < s.size := Nat.lt_trans hij hjs
    refine .marked (W.order _ _ hij hjs) (hi.imp W.act W.act) (W.act hj) fun k h1 h2 e => ?_
    obtain ⟨k', hk', rfl, hact⟩ := W.find e (Nat.le_trans (W.past i his) (Nat.le_of_lt h1)) ⟨by simp, by simp⟩ (by simp)
    exact hb k' (W.lt_of his h1) (W.lt_of hk' h2) hact
theorem heard_lt {t : Trace} {i : Nat} (h : t.heard i) : i < t.size := let ⟨_, hg, _⟩ := h; lt_of_g? hg
theorem Woven.before (W : Woven o t₀ s T at_) {i j : Nat} (h : HappensBefore s i j) : HappensBefore T (at_ i) (at_ j) := by
  have one : ∀ a b, (ProgramOrder s a b ∨ (Notices s a b ∧ s.heard a ∧ s.heard b)) → (ProgramOrder T (at_ a) (at_ b) ∨ (Notices T (at_ a) (at_ b) ∧ T.heard (at_ a) ∧ T.heard (at_ b))) := by
    rintro a b (⟨hab, g, h1, h2⟩ | ⟨n, x, y⟩)
    · exact .inl ⟨W.order a b hab (lt_of_g? h2), ren o g, W.g h1, W.g h2⟩
    · exact .inr ⟨W.sees n, (W.hears (heard_lt x)).2 x, (W.hears (heard_lt y)).2 y⟩
  induction h with
  | single e => exact .single (one _ _ e)
  | tail _ e ih => exact .tail ih (one _ _ e)
theorem Woven.knows (W : Woven o t₀ s T at_) {i : Nat} (h : Knows s 0 i) : Knows T 0 (at_ i) := by
  obtain ⟨q, z, hz, hg, hb⟩ := h
  exact ⟨at_ q, _, W.laid q z hz, by simp [renO, hg, ren], hb.elim (fun e => .inl (by rw [e])) (fun e => .inr (W.before e))⟩
/-- ████ The true trace behind the phase. ████ -/
theorem past_woven {Shun Shun' : Loc → Prop} {B : Nat} (hP : Past Shun B t₀) (W : Woven o t₀ s T at_) (clean : ∀ said, ¬ Race said s)
    (known : ∀ i a, touchAt s i = some a → a.loc.isMemory = true → Knows s 0 i ∨ (Shun' a.loc ∧ a.kind = .atomic))
    (rooted : ∀ i g, s.g? i = some g → g ≠ 0 → ∃ j, s.g? j = some 0 ∧ HappensBefore s j i)
    (shy : ∀ i a, touchAt s i = some a → Shun a.loc → a.kind ≠ .plain) (over : s.HandedOver) (hear : Deaf s 0 = 0) : ∃ B', Past (fun l => Shun l ∨ Shun' l) B' T := by
  obtain ⟨U, rfl⟩ := id W.front
  have where_ : ∀ k a, touchAt (t₀ ++ U) k = some a → (k < t₀.size ∧ touchAt t₀ k = some a) ∨ ∃ i, i < s.size ∧ k = at_ i ∧ touchAt s i = some a := by
    intro k a ha
    rcases Nat.lt_or_ge k t₀.size with hk | hk
    · exact .inl ⟨hk, by rw [← touchAt_old (u := U) hk]; exact ha⟩
    · right
      obtain ⟨y, hy, hya⟩ := touch_of ha
      rcases W.rest k y hy hk with ⟨i, hi, rfl⟩ | ⟨_, _, e⟩
      · exact ⟨i, hi, rfl, by rw [← W.touch hi]; exact ha⟩
      · rcases e with e | e <;> (rw [e] at hya; cases hya)
  have over_ : ∀ k i, Knows t₀ 0 k → i < s.size → HappensBefore (t₀ ++ U) k (at_ i) := by
    intro k i hk hi
    have hgi : s.g? i = some s[i].g := by simp [Trace.g?, Array.getElem?_eq_getElem hi]
    by_cases e : s[i].g = 0
    · exact hk.hb_new (W.past i hi) (W.laid i _ (Array.getElem?_eq_getElem hi)) (by simp [renO, e, ren])
    · obtain ⟨j, hj, hb⟩ := rooted i _ hgi e
      have hjs := lt_of_g? hj
      have hj0 : s[j].g = 0 := by simpa [Trace.g?, Array.getElem?_eq_getElem hjs] using hj
      exact (hk.hb_new (W.past j hjs) (W.laid j _ (Array.getElem?_eq_getElem hjs)) (by simp [renO, hj0, ren])).trans (W.before hb)
  obtain ⟨B', hB'⟩ := trace_bound (t₀ ++ U)
  refine ⟨B', fun said => ?_, fun k a ha hm => ?_, fun k g hg hne hcn => ?_, ?_, hB'⟩
  · rintro ⟨x, y, hxy, ⟨a, b, ha, hb, hcf⟩, n1, n2⟩
    rcases where_ x a ha with ⟨hx, hax⟩ | ⟨i, hi, rfl, hai⟩
    · rcases where_ y b hb with ⟨hy, hby⟩ | ⟨j, hj, rfl, hbj⟩
      · exact hP.clean said ⟨x, y, hxy, ⟨a, b, hax, hby, hcf⟩, fun e => n1 (hb_app U e), fun e => n2 (hb_app U e)⟩
      · rcases hP.known x a hax hcf.2.1 with hk | ⟨hs, hka⟩
        · exact n1 (over_ x j hk hj)
        · have hkb := shy j b hbj (hcf.1 ▸ hs)
          obtain ⟨_, _, _, hkind⟩ := hcf
          rw [hka] at hkind
          rcases hkind with z | z | ⟨_, z, _⟩
          · cases z
          · exact absurd z hkb
          · cases z
    · rcases where_ y b hb with ⟨hy, _⟩ | ⟨j, hj, rfl, hbj⟩
      · have := W.past i hi; omega
      · have hij := W.lt_of hi hxy
        refine clean said ⟨i, j, hij, ⟨a, b, hai, hbj, hcf⟩, fun e => n1 (W.before e), fun e => n2 (W.before e)⟩
  · rcases where_ k a ha with ⟨_, hak⟩ | ⟨i, _, rfl, hai⟩
    · exact (hP.known k a hak hm).imp (·.app U) (fun x => ⟨.inl x.1, x.2⟩)
    · exact (known i a hai hm).imp W.knows (fun x => ⟨.inr x.1, x.2⟩)
  · obtain ⟨a, ha, hmem, hkind⟩ := id hcn
    rcases where_ k a ha with ⟨hk, _⟩ | ⟨i, hi, rfl, hai⟩
    · obtain ⟨j, hj, hb⟩ := hP.over k g (by rw [← g?_old (u := U) hk]; exact hg) hne ((counts_old hk).1 hcn)
      exact ⟨j, by rw [g?_old (lt_of_g? hj)]; exact hj, hb_app U hb⟩
    · have hgi : s.g? i = some s[i].g := by simp [Trace.g?, Array.getElem?_eq_getElem hi]
      obtain rfl : g = ren o s[i].g := Option.some.inj (hg.symm.trans (W.g hgi))
      obtain ⟨j, hj, hb⟩ := over i _ hgi (fun e => hne (by rw [e]; rfl)) ⟨a, hai, hmem, hkind.imp id (W.hears hi).1⟩
      exact ⟨at_ j, W.g hj, W.before hb⟩
  · have := W.deafEnd 0
    rw [ren_zero] at this
    rw [this, hear]
theorem deafStep_ren {g : Nat} (op : MemOp) (d : Nat) : deafStep (ren o g) d (renO o op) = deafStep g d op := by
  have e : (ren o op.g = ren o g) ↔ (op.g = g) := ren_inj
  obtain ⟨h, fn, pos, act⟩ := op
  simp only at e
  cases act with
  | mark m => cases m <;> simp [deafStep, renO, renA, e]
  | _ => simp [deafStep, renO, renA]
theorem Woven.start (h0 : Deaf t₀ 0 = 0) (hd : ∀ k, o < k → Deaf t₀ k = 0) (at_ : Nat → Nat) : Woven o t₀ #[] t₀ at_ := by
  refine ⟨⟨#[], by simp⟩, fun i op h => by simp at h, fun i h => by simp at h, fun i j _ h => by simp at h, fun k y hy hk => absurd (lt_size_of_getElem? hy) (by omega), fun g i h => by simp at h, fun g => ?_⟩
  by_cases e : g = 0
  · subst e; rw [ren_zero, h0]; rfl
  · rw [hd _ (ren_pos e)]; rfl
theorem Woven.top (W : Woven o t₀ s T at_) {i : Nat} (hi : i < s.size) : at_ i < T.size := lt_size_of_getElem? (W.laid i _ (Array.getElem?_eq_getElem hi))
theorem Woven.one (W : Woven o t₀ s T at_) (op : MemOp) : Woven o t₀ (s ++ #[op]) (T ++ #[renO o op]) (fun i => if i = s.size then T.size else at_ i) := by
  have hs : (s ++ #[op]).size = s.size + 1 := by simp
  have hle : t₀.size ≤ T.size := by obtain ⟨U, rfl⟩ := W.front; simp
  refine ⟨?_, fun i x hx => ?_, fun i hi => ?_, fun i j hij hj => ?_, fun k y hy hk => ?_, fun g i hi => ?_, fun g => ?_⟩
  · obtain ⟨U, rfl⟩ := W.front
    exact ⟨U ++ #[renO o op], by simp⟩
  · by_cases e : i = s.size
    · subst e
      have : op = x := by simpa using hx
      subst this
      simp
    · have hi : i < s.size := by have := lt_size_of_getElem? hx; omega
      rw [getElem?_append_old hi] at hx
      simp only [if_neg e]
      rw [getElem?_append_old (W.top hi)]
      exact W.laid i x hx
  · by_cases e : i = s.size
    · simp only [if_pos e]; exact hle
    · simp only [if_neg e]; exact W.past i (by omega)
  · have ei : i ≠ s.size := by omega
    simp only [if_neg ei]
    by_cases e : j = s.size
    · simp only [if_pos e]; exact W.top (by omega)
    · simp only [if_neg e]; exact W.order i j hij (by omega)
  · rcases getElem?_append_cases hy with ⟨_, hy'⟩ | ⟨hk', _⟩
    · rcases W.rest k y hy' hk with ⟨i, hi, rfl⟩ | h
      · exact .inl ⟨i, by omega, by simp [Nat.ne_of_lt hi]⟩
      · exact .inr h
    · have := lt_size_of_getElem? hy
      simp at this
      exact .inl ⟨s.size, by omega, by simp; omega⟩
  · by_cases e : i = s.size
    · subst e
      simp only [if_true]
      rw [deaf_old (Nat.le_refl _), deaf_old (Nat.le_refl _)]
      exact W.deafEnd g
    · have hi' : i < s.size := by omega
      simp only [if_neg e]
      rw [deaf_old (Nat.le_of_lt (W.top hi')), deaf_old (Nat.le_of_lt hi')]
      exact W.deafs g i hi'
  · rw [Deaf_push, Deaf_push, W.deafEnd g, deafStep_ren]
theorem Woven.word (W : Woven o t₀ s T at_) {y : MemOp} (h0 : y.g ≠ 0) (hy : y.g ≤ o) (hm : y.act = .mark .disable ∨ y.act = .mark .enable) : Woven o t₀ s (T ++ #[y]) at_ := by
  have hne : ∀ g, y.g ≠ ren o g := fun g e => by
    by_cases hg : g = 0
    · subst hg; exact h0 e
    · have := ren_pos (o := o) hg; omega
  refine ⟨?_, fun i x hx => ?_, W.past, W.order, fun k z hz hk => ?_, fun g i hi => ?_, fun g => ?_⟩
  · obtain ⟨U, rfl⟩ := W.front
    exact ⟨U ++ #[y], by simp⟩
  · rw [getElem?_append_old (W.top (lt_size_of_getElem? hx))]
    exact W.laid i x hx
  · rcases getElem?_append_cases hz with ⟨_, hz'⟩ | ⟨_, hzu⟩
    · exact W.rest k z hz' hk
    · have : z = y := by simpa using hzu
      subst this
      exact .inr ⟨h0, hy, hm⟩
  · rw [deaf_old (Nat.le_of_lt (W.top hi))]
    exact W.deafs g i hi
  · rw [Deaf_other T (g' := y.g) (hne g) #[y] (by simp)]
    exact W.deafEnd g
end
def Weave (o : Nat) (t₀ s T : Trace) : Prop := ∃ at_, Woven o t₀ s T at_
section
variable {o : Nat} {t₀ s T : Trace}
theorem Weave.ops (h : Weave o t₀ s T) (u : Trace) : Weave o t₀ (s ++ u) (T ++ u.map (renO o)) := by
  obtain ⟨l⟩ := u
  induction l generalizing s T with
  | nil => simpa using h
  | cons x l ih =>
    obtain ⟨a, W⟩ := h
    have := ih ⟨_, W.one x⟩
    have e1 : s ++ (x :: l).toArray = (s ++ #[x]) ++ l.toArray := by simp
    have e2 : T ++ ((x :: l).toArray).map (renO o) = (T ++ #[renO o x]) ++ (l.toArray).map (renO o) := by simp
    rw [e1, e2]
    exact this
theorem Weave.events (h : Weave o t₀ s T) (g : Nat) (fn : FuncId) (pos : String) (es : Array Event) : Weave o t₀ (s ++ MemOp.ofEvents g fn pos es) (T ++ MemOp.ofEvents (ren o g) fn pos es) := by
  rw [← renO_events]; exact h.ops _
theorem Weave.words (h : Weave o t₀ s T) (u : Trace) (hu : ∀ y ∈ u, y.g ≠ 0 ∧ y.g ≤ o ∧ (y.act = .mark .disable ∨ y.act = .mark .enable)) : Weave o t₀ s (T ++ u) := by
  obtain ⟨l⟩ := u
  induction l generalizing T with
  | nil => simpa using h
  | cons x l ih =>
    obtain ⟨a, W⟩ := h
    obtain ⟨h1, h2, h3⟩ := hu x (by simp)
    have := ih ⟨_, W.word h1 h2 h3⟩ (fun y hy => hu y (by simp at hy ⊢; exact .inr hy))
    have e2 : T ++ (x :: l).toArray = (T ++ #[x]) ++ l.toArray := by simp
    rw [e2]; exact this
theorem Weave.mutes (h : Weave o t₀ s T) {g : Nat} (h0 : g ≠ 0) (hg : g ≤ o) (fn : FuncId) (pos : String) {es : Array Event} (hm : ∀ e ∈ es, e.mute = true) : Weave o t₀ s (T ++ MemOp.ofEvents g fn pos es) :=
  h.words _ fun y hy => by obtain ⟨e, he, rfl⟩ := Go.Conc.mem_ofEvents hy; exact ⟨h0, hg, act_mute (hm e he)⟩
end
end Go.Tw
end

section
namespace Go.Tw
open Go.Conc (G)
def opFit (F : Nat → Bool) : Op → Bool
  | .call c => match c.callee with | .value (.func f) => F f | .builtin .len => true | _ => false
  | .defer c => match c.callee with | .value (.func f) => F f | _ => false
  | .go c => match c.callee with | .value _ => true | _ => false
  | .send .. | .recv .. | .select .. => false
  | _ => true
def codeFit (F : Nat → Bool) : Code → Bool
  | .skip | .ret | .exit _ | .refuse _ => true
  | .seq a b | .cond _ a b => codeFit F a && codeFit F b
  | .block _ c | .loop c => codeFit F c
  | .region _ ops _ => ops.all fun o => opFit F o.op
  | _ => false
def itemFit (F : Nat → Bool) : Item → Bool
  | .code c | .inLoop c => codeFit F c
  | .inBlock _ => true
  | .inRegion ops _ => ops.all fun o => opFit F o.op
  | _ => false
structure Fit (P : Program) (F : Nat → Bool) : Prop where
  fn : ∀ f, F f = true → ∃ fn : Func, P.funcs[f]? = some fn ∧ (fn.name == "runtime.NumGoroutine") = false ∧ (∀ c, fn.body = some c → codeFit F c = true) ∧ (fn.body = none → Extern.findNext fn = none)
  ahead : P.follows .staticDataAhead = true
  noReady : ∀ g, P.stepOf g = none
def FitD (F : Nat → Bool) (d : Deferred) : Prop := ∃ f c, d.target = .fn (.func f) c ∧ F f = true
structure FitF (P : Program) (F : Nat → Bool) (fr : Frame) : Prop where
  items : ∀ it ∈ fr.todo, itemFit F it = true
  round : fr.roundOf = none
  kind : fr.kind = .normal ∨ fr.kind = .deferred
  defers : ∀ d ∈ fr.defers, FitD F d
  fn : ∃ fn : Func, P.funcs[fr.fn]? = some fn
def Kind (F : Nat → Bool) : Next → Prop
  | .value _ | .skip | .spawn _ => True
  | .enter f _ => F f = true
  | .defer d => FitD F d
  | _ => False
def Kd (P : Program) (F : Nat → Bool) (s : Sem Next) : Prop := ∀ w a w', s.run P w = .ok a w' → Kind F a
section
variable {P : Program} {F : Nat → Bool} {α : Type}
theorem Kd.val (s : Sem Value) : Kd P F (s >>= fun v => Pure.pure (Next.value v)) := fun _ _ _ h => by obtain ⟨v, rfl⟩ := run_map_ok h; trivial
theorem Kd.unit (s : Sem Unit) : Kd P F (s >>= fun _ => Pure.pure Next.skip) := fun _ _ _ h => by obtain ⟨_, rfl⟩ := run_map_ok h; trivial
theorem Kd.pure {a : Next} (h : Kind F a) : Kd P F (Pure.pure a) := fun _ _ _ e => by cases e; exact h
theorem Kd.none {s : Sem Next} (h : ∀ w a w', s.run P w ≠ .ok a w') : Kd P F s := fun w a w' e => absurd e (h w a w')
theorem Kd.bind {s : Sem α} {f : α → Sem Next} (h : ∀ a, Kd P F (f a)) : Kd P F (s >>= f) := by
  intro w a w' e
  change Sem.run P (s.bind f) w = _ at e
  rw [Sem.run_bind'] at e
  cases hs : s.run P w with
  | ok b w1 => rw [hs] at e; exact h b _ _ _ e
  | halt x w1 => rw [hs] at e; cases e
theorem noOk_runtimePanic (e : RuntimeError) (w : World) (a : Next) (w' : World) : (Go.runtimePanic e : Sem Next).run P w ≠ .ok a w' := by
  unfold Go.runtimePanic
  refine noOk_bind (fun p wp b wp' => ?_) w a w'
  cases e <;> first
    | exact noOk_panic _ _ _ _
    | exact noOk_bind (fun _ => noOk_bind fun _ => noOk_panic _) _ _ _
theorem Kd.callFunc (hF : Fit P F) {f : Nat} (hf : F f = true) (args : Array Value) : Kd P F (Go.callFunc f args) := by
  obtain ⟨fn, h1, h2, _, h4⟩ := hF.fn f hf
  intro w a w' e
  change Sem.run P (Sem.bind (Sem.program Sem.pure) _) w = _ at e
  rw [run_bind_ok (w' := w) (a := P) rfl] at e
  simp only [h1, h2, Bool.false_eq_true, if_false] at e
  cases hb : fn.body with
  | some c =>
    rw [hb] at e
    simp only [Option.isNone_some, Bool.false_eq_true, if_false] at e
    cases e
    exact hf
  | none =>
    rw [hb] at e
    simp only [Option.isNone_none, if_true, h4 hb] at e
    refine Kd.bind (P := P) (F := F) (s := Go.mark (.extern f)) (fun _ => ?_) w a w' e
    cases hx : Extern.find fn with
    | some x => exact Kd.val _
    | none =>
      simp only
      split
      · exact Kd.pure trivial
      · exact Kd.none fun w a w' h => by cases h
theorem Kd.invoke (hF : Fit P F) {t : Target} (ht : ∃ f c, t = .fn (.func f) c ∧ F f = true) (args : Array Value) : Kd P F (Go.invoke t args) := by
  obtain ⟨f, c, rfl, hf⟩ := ht
  exact Kd.callFunc hF hf _
theorem opFit_kd (hF : Fit P F) (ρ : Operand → Value) (hρ : ∀ f, ρ (.func f) = .func (.func f) #[] #[]) (o : Oper) (h : opFit F o.op = true) : Kd P F (execOp ρ o) := by
  obtain ⟨dst, op, ty, pos, after, guard⟩ := o
  simp only at h
  unfold execOp
  cases op with
  | move x => exact Kd.pure trivial
  | assign x => exact Kd.pure trivial
  | pick c a b => exact Kd.bind fun _ => Kd.pure trivial
  | nilCheck x =>
    dsimp only
    split
    all_goals first
      | exact Kd.none fun w a w' => noOk_runtimePanic _ w a w'
      | exact Kd.pure trivial
      | skip
    split
    · exact Kd.none fun w a w' => noOk_runtimePanic _ w a w'
    · refine Kd.bind fun p => Kd.bind fun x => ?_
      split
      · exact Kd.bind fun _ => Kd.pure trivial
      · exact Kd.pure trivial
    · exact Kd.pure trivial
  | call c =>
    obtain ⟨callee, args, argTypes⟩ := c
    cases callee with
    | value x =>
      cases x with
      | func f =>
        have e : resolve ρ { callee := .value (.func f), args, argTypes } ty = Pure.pure { target := .fn (.func f) #[], args := #[] ++ args.map ρ } := by unfold resolve; simp only [hρ]; rfl
        show Kd P F (resolve ρ { callee := .value (.func f), args, argTypes } ty >>= fun d => Go.invoke d.target d.args)
        rw [e]
        exact Kd.invoke hF ⟨f, #[], rfl, h⟩ _
      | _ => simp [opFit] at h
    | builtin b =>
      cases b with
      | len =>
        show Kd P F (Go.invoke (.builtin .len argTypes ty (args.map fun | .const _ => true | _ => false)) (args.map ρ))
        exact Kd.val _
      | _ => simp [opFit] at h
    | invoke r n => simp [opFit] at h
  | go c => exact Kd.bind fun _ => Kd.pure trivial
  | defer c =>
    obtain ⟨callee, args, argTypes⟩ := c
    cases callee with
    | value x =>
      cases x with
      | func f =>
        have e : resolve ρ { callee := .value (.func f), args, argTypes } ty = Pure.pure { target := .fn (.func f) #[], args := #[] ++ args.map ρ } := by unfold resolve; simp only [hρ]; rfl
        show Kd P F (resolve ρ { callee := .value (.func f), args, argTypes } ty >>= fun d => Pure.pure (Next.defer d))
        rw [e]
        exact Kd.pure ⟨f, #[], rfl, h⟩
      | _ => simp [opFit] at h
    | _ => simp [opFit] at h
  | send => simp [opFit] at h
  | recv => simp [opFit] at h
  | select => simp [opFit] at h
  | _ => first
    | exact Kd.val _
    | exact Kd.unit _
variable {fr fr' : Frame}
theorem FitF.mode (h : FitF P F fr) (m : FrameMode) : FitF P F { fr with mode := m } := ⟨h.items, h.round, h.kind, h.defers, h.fn⟩
theorem FitF.raise (h : FitF P F fr) (vs : List PanicEntry) : FitF P F (fr.raise vs) := by
  unfold Frame.raise
  split <;> exact ⟨h.items, h.round, h.kind, h.defers, h.fn⟩
theorem FitF.defer (h : FitF P F fr) {ds : List Deferred} (hd : ∀ d ∈ ds, FitD F d) : FitF P F { fr with defers := ds } := ⟨h.items, h.round, h.kind, hd, h.fn⟩
theorem finish_kind (v : Value) : (fr.finish v).kind = fr.kind := by unfold Frame.finish; split <;> rfl
theorem raise_kind (vs : List PanicEntry) : (fr.raise vs).kind = fr.kind := by unfold Frame.raise; split <;> rfl
theorem FitF.finish (h : FitF P F fr) (v : Value) : FitF P F (fr.finish v) := by
  obtain ⟨fn, tmps, todo, defers, mode, kind, ro⟩ := fr
  have hi := h.items
  simp only at hi
  cases todo with
  | nil => exact h
  | cons it k =>
    have h0 := hi it (by simp)
    cases it with
    | inRegion ops l =>
      cases l with
      | nil => exact h
      | cons i rest =>
        refine ⟨fun x hx => ?_, h.round, h.kind, h.defers, h.fn⟩
        simp only [Frame.finish, List.mem_cons] at hx
        rcases hx with rfl | hx
        · exact h0
        · exact hi x (by simp [hx])
    | _ => first | exact h | (cases h0; done)
theorem FitF.enter (hF : Fit P F) {f : Nat} (hf : F f = true) (args : Array Value) {k : CallKind} (hk : k = .normal ∨ k = .deferred) : FitF P F (Frame.enter P f args k) := by
  obtain ⟨fn, h1, _, h3, _⟩ := hF.fn f hf
  refine ⟨fun it hit => ?_, rfl, hk, by simp [Frame.enter], fn, h1⟩
  have e : (Frame.enter P f args k).todo = [.code (fn.body.getD (.refuse "unsupported: a function without a Go body is entered"))] := by
    unfold Frame.enter; simp [h1]
  rw [e] at hit
  simp only [List.mem_singleton] at hit
  subst hit
  cases hb : fn.body with
  | none => rfl
  | some c => exact h3 c hb
theorem FitF.ctl (h : FitF P F fr) (hc : Tw.ctl fr = some fr') : FitF P F fr' ∧ fr'.kind = fr.kind := by
  obtain ⟨fn, tmps, todo, defers, mode, kind, ro⟩ := fr
  have hi := h.items
  simp only at hi
  unfold Tw.ctl at hc
  simp only at hc
  split at hc
  · cases hc; exact ⟨⟨hi, h.round, h.kind, h.defers, h.fn⟩, rfl⟩
  · cases hc; exact ⟨⟨hi, h.round, h.kind, h.defers, h.fn⟩, rfl⟩
  · cases hc; exact ⟨⟨fun x hx => hi x (by simp [hx]), h.round, h.kind, h.defers, h.fn⟩, rfl⟩
  · cases hc; exact ⟨⟨fun x hx => hi x (by simp [hx]), h.round, h.kind, h.defers, h.fn⟩, rfl⟩
  · rename_i a b k
    have h0 := hi _ (List.mem_cons_self ..)
    simp only [itemFit, codeFit, Bool.and_eq_true] at h0
    cases hc
    refine ⟨⟨fun x hx => ?_, h.round, h.kind, h.defers, h.fn⟩, rfl⟩
    simp only [List.mem_cons] at hx
    rcases hx with rfl | rfl | hx
    · exact h0.1
    · exact h0.2
    · exact hi x (by simp [hx])
  · rename_i c a b k
    have h0 := hi _ (List.mem_cons_self ..)
    simp only [itemFit, codeFit, Bool.and_eq_true] at h0
    split at hc
    · cases hc
      refine ⟨⟨fun x hx => ?_, h.round, h.kind, h.defers, h.fn⟩, rfl⟩
      simp only [List.mem_cons] at hx
      rcases hx with rfl | hx
      · show codeFit F (if _ then a else b) = true
        split
        · exact h0.1
        · exact h0.2
      · exact hi x (by simp [hx])
    · cases hc
  · rename_i id c k
    have h0 := hi _ (List.mem_cons_self ..)
    cases hc
    refine ⟨⟨fun x hx => ?_, h.round, h.kind, h.defers, h.fn⟩, rfl⟩
    simp only [List.mem_cons] at hx
    rcases hx with rfl | rfl | hx
    · exact h0
    · rfl
    · exact hi x (by simp [hx])
  · rename_i c k
    have h0 := hi _ (List.mem_cons_self ..)
    cases hc
    refine ⟨⟨fun x hx => ?_, h.round, h.kind, h.defers, h.fn⟩, rfl⟩
    simp only [List.mem_cons] at hx
    rcases hx with rfl | rfl | hx
    · exact h0
    · exact h0
    · exact hi x (by simp [hx])
  · rename_i c k
    have h0 := hi _ (List.mem_cons_self ..)
    cases hc
    refine ⟨⟨fun x hx => ?_, h.round, h.kind, h.defers, h.fn⟩, rfl⟩
    simp only [List.mem_cons] at hx
    rcases hx with rfl | rfl | hx
    · exact h0
    · exact h0
    · exact hi x (by simp [hx])
  · rename_i id k
    obtain ⟨k', hk, rfl⟩ := Option.map_eq_some_iff.1 hc
    exact ⟨⟨fun x hx => hi x (by simp [exitTo_sub hk x hx]), h.round, h.kind, h.defers, h.fn⟩, rfl⟩
  · rename_i id ops k
    have h0 := hi _ (List.mem_cons_self ..)
    cases hc
    refine ⟨⟨fun x hx => ?_, h.round, h.kind, h.defers, h.fn⟩, rfl⟩
    simp only [List.mem_cons] at hx
    rcases hx with rfl | hx
    · exact h0
    · exact hi x (by simp [hx])
  · cases hc; exact ⟨⟨fun x hx => hi x (by simp [hx]), h.round, h.kind, h.defers, h.fn⟩, rfl⟩
  · split at hc
    · cases hc
    · cases hc; exact ⟨h.finish undef, finish_kind _⟩
  · cases hc
/-- What is handed back is laid into a box, so that the world tells it; and it must be several results. -/
def sinkOps : Array Oper := #[{ dst := some 0, op := .move (.const undef), type := 0, pos := "", after := #[], guard := none }, { dst := some 1, op := .box 0 (.tmp 0), type := 0, pos := "", after := #[], guard := none },
  { dst := some 1, op := .extract (.tmp 0) 0, type := 0, pos := "", after := #[], guard := none }]
def Sink (P : Program) : Frame := { fn := P.funcs.size, tmps := #[undef, undef], todo := [.inRegion sinkOps [0, 1, 2]], defers := [], mode := .run, kind := .deferred }
def Bed (P : Program) : Frame := { fn := P.funcs.size, tmps := #[undef], todo := [.call { target := .nil, args := #[] } false "fmt's door" #[]], defers := [], mode := .panicking [{ v := undef, recovered := true }], kind := .normal }
def Done? : Outcome → Prop
  | .done _ => True
  | _ => False
/-- A goroutine that will not come to the end that is meant. -/
inductive Doom (P : Program) : Goroutine → Prop
  | fatal {fr : Frame} {st : GoStatus} {d : Dying} (h : d.fatal.isSome = true) (hc : d.calling = false) : Doom P { frame := fr, callers := [], status := st, dying := some d }
  | sink (ch : List PanicEntry) : Doom P (G ((Sink P).raise ch) [Bed P])
  | bed (ch : List PanicEntry) : Doom P (G ((Bed P).raise ch) [])
  | waits {fr : Frame} {cs : List Frame} : Doom P { G fr cs with status := .waiting }
def Lost (P : Program) (s : GStep) : Prop := (∃ g w es, s = .go g w es ∧ Doom P g) ∨ ∃ o w es, s = .ended o w es ∧ ¬ Done? o
/-- The last of them is an ordinary call's. -/
def Ord (fr : Frame) : List Frame → Prop
  | [] => fr.kind = .normal
  | c :: cs => Ord c cs
theorem Ord.congr {fr fr' : Frame} (h : fr'.kind = fr.kind) : ∀ {top : List Frame}, Ord fr top → Ord fr' top
  | [], x => h.trans x
  | _ :: _, x => x
inductive Lens (P : Program) (F : Nat → Bool) (fr : Frame) (top : List Frame) (w : World) : Prop
  | go (fr' : Frame) (top' : List Frame) (w' : World) (es : Array Event) : FitF P F fr' → (∀ f ∈ top', FitF P F f) → Ord fr' top' → (∀ Y, stepG P true (G fr (top ++ Y)) w = .go (G fr' (top' ++ Y)) w' es) → Lens P F fr top w
  | blocked (w' : World) (es : Array Event) : (∀ Y, stepG P true (G fr (top ++ Y)) w = .go { G fr (top ++ Y) with status := .blocked } w' es) → Lens P F fr top w
  | spawn (fr' : Frame) (child : Goroutine) (w' : World) (es : Array Event) : FitF P F fr' → Ord fr' top → (∀ Y, stepG P true (G fr (top ++ Y)) w = .spawn (G fr' (top ++ Y)) child w' es) → Lens P F fr top w
  | ret (v : Value) (w' : World) (es : Array Event) : top = [] → (∀ c Z, stepG P true (G fr (c :: Z)) w = .go (G (c.finish v) Z) w' es) → Lens P F fr top w
  | lost : Lost P (stepG P true (G fr (top ++ [Sink P, Bed P])) w) → Lens P F fr top w
end
end Go.Tw
end

section
namespace Go.Tw
open Go.Conc (G)
section
variable {P : Program} {F : Nat → Bool} {fr : Frame} {top : List Frame} {w : World}
theorem Lost.after {es : Array Event} {s : GStep} (h : Lost P s) : Lost P (GStep.after es s) := by
  rcases h with ⟨g, w, es', rfl, hd⟩ | ⟨o, w, es', rfl, hd⟩
  · exact .inl ⟨g, w, _, rfl, hd⟩
  · exact .inr ⟨o, w, _, rfl, hd⟩
theorem lost_ended {o : Outcome} {w : World} {es : Array Event} (h : ¬ Done? o) : Lost P (.ended o w es) := .inr ⟨_, _, _, rfl, h⟩
theorem lost_throw (fr : Frame) (m : String) (w : World) : Lost P (endThrow fr m w) := .inl ⟨_, _, _, rfl, .fatal rfl rfl⟩
theorem lost_fatal (fr : Frame) (cs : List Frame) (m : String) (w : World) : Lost P (endFatal P fr cs none m w) := by
  unfold endFatal
  dsimp only
  split
  · exact .inl ⟨_, _, _, rfl, .fatal rfl rfl⟩
  · exact lost_ended (fun h => h)
  · exact lost_ended (fun h => h)
theorem lost_early (hF : Fit P F) (fr : Frame) (cs : List Frame) (g : Nat) (w : World) : Lost P (early P fr cs none g w) := by
  simp only [early, hF.ahead, hF.noReady, Bool.not_true, Bool.false_eq_true, if_false]
  exact lost_ended (fun h => h)
theorem not_early (h : fr.kind = .normal ∨ fr.kind = .deferred) : (fr.kind == CallKind.early) = false := by rcases h with h | h <;> rw [h] <;> rfl
theorem apply_lens (hF : Fit P F) (h : FitF P F fr) {ops : Array Oper} {l : List Nat} {k : List Item} (ht : fr.todo = .inRegion ops l :: k) {s : Sem Next} (hs : Kd P F s) (htop : ∀ f ∈ top, FitF P F f) (ho : Ord fr top)
    (hstep : ∀ Y, stepG P true (G fr (top ++ Y)) w = stepG.apply P true fr (top ++ Y) none s w) : Lens P F fr top w := by
  have hk := not_early h.kind
  cases hr : s.runT P w #[] with
  | mk r es =>
    have hrun : s.run P w = r := by rw [← Sem.runT_fst P s w #[], hr]
    cases r with
    | ok a w' =>
      have hkd := hs w a w' hrun
      cases a with
      | value v =>
        refine .go (fr.finish v) top w' (seen P fr.fn es) (h.finish v) htop (ho.congr (finish_kind v)) fun Y => ?_
        rw [hstep]
        simp only [stepG.apply, hr, if_true, hk, Bool.false_eq_true, if_false, GStep.after, G, Array.append_empty]
      | skip =>
        refine .go (fr.finish undef) top w' (seen P fr.fn es) (h.finish undef) htop (ho.congr (finish_kind _)) fun Y => ?_
        rw [hstep]
        simp only [stepG.apply, hr, if_true, hk, Bool.false_eq_true, if_false, GStep.after, G, Array.append_empty]
      | enter f args =>
        refine .go (Frame.enter P f args .normal) (fr :: top) w' (seen P fr.fn es) (.enter hF hkd args (.inl rfl)) (fun x hx => ?_) ho fun Y => ?_
        · rcases List.mem_cons.1 hx with rfl | hx
          · exact h
          · exact htop x hx
        · rw [hstep]
          simp only [stepG.apply, hr, if_true, hk, Bool.false_eq_true, if_false, GStep.after, G, Array.append_empty, ht, List.cons_append]
      | spawn d =>
        obtain ⟨b, child, hb⟩ : ∃ (b : Bool) (child : Goroutine), ∀ Y, stepG P true (G fr (top ++ Y)) w = GStep.after (seen P fr.fn es) (if b = true then endThrow fr "go of nil func value" w' else .spawn (G (fr.finish undef) (top ++ Y)) child w' #[]) :=
          ⟨_, _, fun Y => by rw [hstep]; simp only [stepG.apply, hr, if_true, hk, Bool.false_eq_true, if_false]; rfl⟩
        cases b with
        | true =>
          refine .lost ?_
          rw [hb, if_pos rfl]
          exact (lost_throw fr _ w').after
        | false =>
          refine .spawn (fr.finish undef) child w' (seen P fr.fn es) (h.finish undef) (ho.congr (finish_kind _)) fun Y => ?_
          rw [hb, if_neg (by simp)]
          simp only [GStep.after, Array.append_empty]
      | defer d =>
        refine .go ({ fr with defers := d :: fr.defers }.finish undef) top w' (seen P fr.fn es) ((h.defer (ds := d :: fr.defers) fun x hx => ?_).finish undef) htop (Ord.congr (fr := fr) (finish_kind (fr := { fr with defers := d :: fr.defers }) undef) ho) fun Y => ?_
        · rcases List.mem_cons.1 hx with rfl | hx
          · exact hkd
          · exact h.defers x hx
        · rw [hstep]
          simp only [stepG.apply, hr, if_true, hk, Bool.false_eq_true, if_false, GStep.after, G, Array.append_empty]
      | _ => exact hkd.elim
    | halt x w' =>
      cases x with
      | panic v =>
        refine .go (fr.raise [{ v, recovered := false }]) top w' (seen P fr.fn es) (h.raise _) htop (ho.congr (raise_kind _)) fun Y => ?_
        rw [hstep]
        simp only [stepG.apply, hr, if_true, hk, Bool.false_eq_true, if_false, GStep.after, G, Array.append_empty]
      | goexit =>
        refine .go (fr.raise [goexitEntry]) top w' (seen P fr.fn es) (h.raise _) htop (ho.congr (raise_kind _)) fun Y => ?_
        rw [hstep]
        simp only [stepG.apply, hr, if_true, hk, Bool.false_eq_true, if_false, GStep.after, G, Array.append_empty]
      | blocked =>
        refine .blocked w' (seen P fr.fn #[]) fun Y => ?_
        rw [hstep]
        simp only [stepG.apply, hr, if_true, hk, Bool.false_eq_true, if_false, GStep.after, G, Array.append_empty]
      | waiting =>
        refine .lost (.inl ⟨_, w', seen P fr.fn #[], ?_, .waits (fr := fr) (cs := top ++ [Sink P, Bed P])⟩)
        rw [hstep]
        simp only [stepG.apply, hr, if_true, hk, Bool.false_eq_true, if_false, GStep.after, G, Array.append_empty]
      | exit c =>
        refine .lost ?_
        rw [hstep]
        simp only [stepG.apply, hr, if_true]
        exact (lost_ended (P := P) (by intro h; exact h)).after
      | fatal m =>
        refine .lost ?_
        rw [hstep]
        simp only [stepG.apply, hr, if_true]
        exact (lost_fatal _ _ _ _).after
      | throw m =>
        refine .lost ?_
        rw [hstep]
        simp only [stepG.apply, hr, if_true]
        exact (lost_throw _ _ _).after
      | stuck m =>
        refine .lost ?_
        rw [hstep]
        simp only [stepG.apply, hr, if_true]
        exact (lost_ended (P := P) (by intro h; exact h)).after
      | unsupported u =>
        refine .lost ?_
        rw [hstep]
        cases u with
        | initOrder g =>
          simp only [stepG.apply, hr, if_true]
          exact (lost_early hF _ _ _ _).after
        | _ =>
          simp only [stepG.apply, hr, if_true]
          exact (lost_ended (P := P) (by intro h; exact h)).after
theorem fit_noCatch (h : FitF P F fr) : fr.catches P = false := by
  obtain ⟨fn, hf⟩ := h.fn
  unfold Frame.catches
  rw [hf]
theorem callDeferred_lens (hF : Fit P F) (h : FitF P F fr) {d : Deferred} {ds : List Deferred} (hds : fr.defers = d :: ds) (htop : ∀ f ∈ top, FitF P F f) (ho : Ord fr top)
    (hstep : ∀ Y, stepG P true (G fr (top ++ Y)) w = callDeferred P { fr with defers := ds } (top ++ Y) none d w) : Lens P F fr top w := by
  obtain ⟨f, c, hd, hf⟩ := h.defers d (by rw [hds]; simp)
  obtain ⟨tgt, aas⟩ := d
  simp only at hd
  subst hd
  have hs : Kd P F (Go.invoke (.fn (.func f) c) aas) := Kd.invoke hF ⟨f, c, rfl, hf⟩ _
  have hfr : FitF P F { fr with defers := ds } := h.defer fun x hx => h.defers x (by rw [hds]; exact List.mem_cons_of_mem _ hx)
  have hback : { fr with defers := { target := .fn (.func f) c, args := aas } :: ds } = fr := by rw [← hds]
  have hord : Ord { fr with defers := ds } top := Ord.congr (fr := fr) (by rfl) ho
  cases hr : (Go.invoke (.fn (.func f) c) aas).runT P w #[] with
  | mk r es =>
    have hrun : (Go.invoke (.fn (.func f) c) aas).run P w = r := by rw [← Sem.runT_fst P _ w #[], hr]
    cases r with
    | ok a w' =>
      have hkd := hs w a w' hrun
      cases a with
      | enter f' args =>
        refine .go (Frame.enter P f' args .deferred) ({ fr with defers := ds } :: top) w' (seen P fr.fn es) (.enter hF hkd args (.inr rfl)) (fun x hx => ?_) hord fun Y => ?_
        · rcases List.mem_cons.1 hx with rfl | hx
          · exact hfr
          · exact htop x hx
        · rw [hstep]
          simp only [callDeferred, Bool.false_and, Bool.false_eq_true, if_false, hr, GStep.after, G, Array.append_empty, List.cons_append]
      | value v =>
        refine .go { fr with defers := ds } top w' (seen P fr.fn es) hfr htop hord fun Y => ?_
        rw [hstep]
        simp only [callDeferred, Bool.false_and, Bool.false_eq_true, if_false, hr, GStep.after, G, Array.append_empty]
      | skip =>
        refine .go { fr with defers := ds } top w' (seen P fr.fn es) hfr htop hord fun Y => ?_
        rw [hstep]
        simp only [callDeferred, Bool.false_and, Bool.false_eq_true, if_false, hr, GStep.after, G, Array.append_empty]
      | spawn _ =>
        refine .go { fr with defers := ds } top w' (seen P fr.fn es) hfr htop hord fun Y => ?_
        rw [hstep]
        simp only [callDeferred, Bool.false_and, Bool.false_eq_true, if_false, hr, GStep.after, G, Array.append_empty]
      | defer _ =>
        refine .go { fr with defers := ds } top w' (seen P fr.fn es) hfr htop hord fun Y => ?_
        rw [hstep]
        simp only [callDeferred, Bool.false_and, Bool.false_eq_true, if_false, hr, GStep.after, G, Array.append_empty]
      | _ => exact hkd.elim
    | halt x w' =>
      cases x with
      | panic v =>
        refine .go ({ fr with defers := ds }.raise [{ v, recovered := false }]) top w' (seen P fr.fn es) (hfr.raise _) htop (hord.congr (raise_kind _)) fun Y => ?_
        rw [hstep]
        simp only [callDeferred, Bool.false_and, Bool.false_eq_true, if_false, hr, GStep.after, G, Array.append_empty]
      | goexit =>
        refine .go ({ fr with defers := ds }.raise [goexitEntry]) top w' (seen P fr.fn es) (hfr.raise _) htop (hord.congr (raise_kind _)) fun Y => ?_
        rw [hstep]
        simp only [callDeferred, Bool.false_and, Bool.false_eq_true, if_false, hr, GStep.after, G, Array.append_empty]
      | blocked =>
        refine .blocked w' (seen P fr.fn #[]) fun Y => ?_
        rw [hstep]
        simp only [callDeferred, Bool.false_and, Bool.false_eq_true, if_false, hr, GStep.after, G, Array.append_empty, hback]
      | waiting =>
        refine .lost (.inl ⟨_, w', seen P fr.fn #[], ?_, .waits (fr := fr) (cs := top ++ [Sink P, Bed P])⟩)
        rw [hstep]
        simp only [callDeferred, Bool.false_and, Bool.false_eq_true, if_false, hr, GStep.after, G, Array.append_empty, hback]
      | fatal m =>
        refine .lost ?_
        rw [hstep]
        simp only [callDeferred, Bool.false_and, Bool.false_eq_true, if_false, hr]
        exact (lost_fatal _ _ _ _).after
      | throw m =>
        refine .lost ?_
        rw [hstep]
        simp only [callDeferred, Bool.false_and, Bool.false_eq_true, if_false, hr]
        exact (lost_throw _ _ _).after
      | _ =>
        refine .lost ?_
        rw [hstep]
        simp only [callDeferred, Bool.false_and, Bool.false_eq_true, if_false, hr]
        exact (lost_ended (P := P) (by intro h; exact h)).after
theorem unwind_lens (hF : Fit P F) (h : FitF P F fr) (htop : ∀ f ∈ top, FitF P F f) (ho : Ord fr top) (hm : fr.mode ≠ .run) : Lens P F fr top w := by
  have hstep : ∀ Y, stepG P true (G fr (top ++ Y)) w = unwind P true fr (top ++ Y) none w := by
    intro Y
    show stepG P true (G fr (top ++ Y)) w = _
    unfold stepG
    simp only [G]
  cases hds : fr.defers with
  | cons d ds =>
    refine callDeferred_lens hF h hds htop ho fun Y => ?_
    obtain ⟨f, c, hd, _⟩ := h.defers d (by rw [hds]; simp)
    rw [hstep]
    obtain ⟨t, aas⟩ := d
    simp only at hd
    subst hd
    unfold unwind
    simp only [hds]
  | nil =>
    obtain ⟨fn, hf⟩ := h.fn
    cases hmo : fr.mode with
    | run => exact absurd hmo hm
    | panicking ch =>
      have hu : ∀ cs, unwind P true fr cs none w = match cs with
          | caller :: rest => .go (G (caller.raise ch) rest) w #[]
          | [] => unwind P true fr [] none w := by
        intro cs
        cases cs with
        | nil => rfl
        | cons c cs => simp [unwind, hds, hmo, fit_noCatch h, G]
      cases top with
      | nil =>
        refine .lost (.inl ⟨_, w, #[], ?_, .sink ch⟩)
        rw [hstep, List.nil_append, hu]
      | cons c top =>
        refine .go (c.raise ch) top w #[] ((htop c (by simp)).raise ch) (fun f hf => htop f (by simp [hf])) (Ord.congr (raise_kind ch) (show Ord c top from ho)) fun Y => ?_
        rw [hstep, List.cons_append, hu]
    | returning =>
      cases hr : (results fn fr.tmps).runT P w #[] with
      | mk r es =>
        cases r with
        | halt x w' =>
          refine .lost ?_
          rw [hstep]
          cases x <;> (simp only [unwind, hds, hmo, hf, hr]; exact (lost_ended (P := P) (by intro h; exact h)).after)
        | ok v w' =>
          have hu : ∀ cs, unwind P true fr cs none w = GStep.after (seen P fr.fn es) (doReturn P true fr cs none v w') := fun cs => by simp only [unwind, hds, hmo, hf, hr]
          cases top with
          | nil =>
            refine .ret v w' (seen P fr.fn es) rfl fun c Z => ?_
            have := hstep (c :: Z)
            rw [List.nil_append] at this
            rw [this, hu]
            have hk : fr.kind = .normal := ho
            simp [doReturn, hk, GStep.after, G]
          | cons c top =>
            rcases h.kind with hk | hk
            · refine .go (c.finish v) top w' (seen P fr.fn es) ((htop c (by simp)).finish v) (fun f hf => htop f (by simp [hf])) (Ord.congr (finish_kind v) (show Ord c top from ho)) fun Y => ?_
              rw [hstep, hu]
              simp [doReturn, hk, GStep.after, G]
            · have hc := htop c (by simp)
              have hstep' : ∃ m, ∀ Y, stepG P true (G fr (c :: top ++ Y)) w = .go (G { c with mode := m } (top ++ Y)) w' (seen P fr.fn es) := by
                have key : ∃ m, ∀ cs, doReturn P true fr (c :: cs) none v w' = .go (G { c with mode := m } cs) w' #[] := by
                  cases hcm : c.mode with
                  | panicking ch =>
                    cases ch with
                    | nil => exact ⟨c.mode, fun cs => by simp [doReturn, hk, hcm, G]; rw [← hcm]⟩
                    | cons e older =>
                      obtain ⟨ev, er, eg⟩ := e
                      cases er with
                      | false => exact ⟨c.mode, fun cs => by simp [doReturn, hk, hcm, G]; rw [← hcm]⟩
                      | true =>
                        cases hdw : older.dropWhile (!·.goexit) with
                        | nil => exact ⟨.returning, fun cs => by simp [doReturn, hk, hcm, hdw, G]⟩
                        | cons a b => exact ⟨.panicking (a :: b), fun cs => by simp [doReturn, hk, hcm, hdw, G]⟩
                  | _ => exact ⟨c.mode, fun cs => by simp [doReturn, hk, hcm, G]; rw [← hcm]⟩
                obtain ⟨m, hm⟩ := key
                refine ⟨m, fun Y => ?_⟩
                rw [hstep, hu]
                simp only [List.cons_append, hm, GStep.after, Array.append_empty]
              obtain ⟨m, hm⟩ := hstep'
              exact .go { c with mode := m } top w' (seen P fr.fn es) (hc.mode m) (fun f hf => htop f (by simp [hf])) (Ord.congr (fr := c) (by rfl) (show Ord c top from ho)) hm
/-- A refusal is no clean end. -/
theorem refuse_fell {P : Program} {fr : Frame} {why : String} {k : List Item} (hm : fr.mode = .run) (ht : fr.todo = .code (.refuse why) :: k) : ∃ o, (∀ (main : Bool) (cs : List Frame) (w : World), stepG P main (G fr cs) w = .ended o w #[]) ∧ ¬ Done? o := by
  apply Exists.intro
  refine ⟨fun main cs w => ?_, ?_⟩
  · simp only [G, stepG, hm, stepG.exec, ht]
    rfl
  · exact fun h => h
/-- ████ -/
theorem lens (hF : Fit P F) (h : FitF P F fr) (htop : ∀ f ∈ top, FitF P F f) (ho : Ord fr top) (w : World) : Lens P F fr top w := by
  by_cases hm : fr.mode = .run
  · cases hc : Tw.ctl fr with
    | some fr' => exact .go fr' top w #[] (h.ctl hc).1 htop (ho.congr (h.ctl hc).2) fun Y => ctl_step hm h.round hc
    | none =>
      have hr := h.round
      cases htodo : fr.todo with
      | nil => simp [Tw.ctl, htodo] at hc
      | cons it k =>
        have h0 := h.items it (by rw [htodo]; exact List.mem_cons_self ..)
        cases it with
        | code c =>
          cases c with
          | cond c a b =>
            have he : ∀ t, fr.eval c ≠ .bool t := fun t e => by simp [Tw.ctl, htodo, e] at hc
            refine .lost (.inr ⟨.stuck "cond: bool expected" (fr.pos P), w, #[], ?_, fun h => h⟩)
            simp only [G, stepG, hm, stepG.exec, htodo]
          | exit id =>
            have he : exitTo id k = none := by
              cases h : exitTo id k with
              | none => rfl
              | some k' => simp [Tw.ctl, htodo, h] at hc
            refine .lost (.inr ⟨.stuck "exit, goto: no such block or label" (fr.pos P), w, #[], ?_, fun h => h⟩)
            simp [G, stepG, hm, stepG.exec, htodo, he, hr]
          | refuse why =>
            obtain ⟨o, ho, hn⟩ := refuse_fell (P := P) hm htodo
            exact .lost (.inr ⟨o, w, #[], ho _ _ _, hn⟩)
          | region id ops d =>
            cases d with
            | false => simp [Tw.ctl, htodo] at hc
            | true =>
              cases hcz : (Go.choose (.order fr.fn id)).run P w with
              | ok t w' =>
                refine .go { fr with todo := .inRegion ops (Region.schedule (P.follows .mixedOrders) ops t) :: k } top w' #[] ⟨fun x hx => ?_, h.round, h.kind, h.defers, h.fn⟩ htop (Ord.congr (fr := fr) (by rfl) ho) fun Y => ?_
                · simp only [List.mem_cons] at hx
                  rcases hx with rfl | hx
                  · exact h0
                  · exact h.items x (by rw [htodo]; exact List.mem_cons_of_mem _ hx)
                · simp only [G, stepG, hm, stepG.exec, htodo, hcz, Bool.not_true, Bool.false_eq_true, if_false]
              | halt x w' =>
                refine .lost (.inr ⟨.stuck "order" (fr.pos P), w', #[], ?_, fun h => h⟩)
                simp only [G, stepG, hm, stepG.exec, htodo, hcz, Bool.not_true, Bool.false_eq_true, if_false]
          | skip => simp [Tw.ctl, htodo] at hc
          | ret => simp [Tw.ctl, htodo] at hc
          | seq a b => simp [Tw.ctl, htodo] at hc
          | block i c => simp [Tw.ctl, htodo] at hc
          | loop c => simp [Tw.ctl, htodo] at hc
          | _ => cases h0
        | inRegion ops l =>
          cases l with
          | nil => simp [Tw.ctl, htodo] at hc
          | cons i rest =>
            have hwant : ((ops[i]?).map (Region.wanted · (yielded ops fr.tmps))).getD false = true := by
              cases h : ((ops[i]?).map (Region.wanted · (yielded ops fr.tmps))).getD false with
              | true => rfl
              | false => simp [Tw.ctl, htodo, h] at hc
            cases hop : ops[i]? with
            | none => rw [hop] at hwant; cases hwant
            | some o =>
              have hoo : opFit F o.op = true := Array.all_eq_true_iff_forall_mem.1 h0 o (Array.mem_of_getElem? hop)
              refine apply_lens hF h htodo (opFit_kd hF fr.eval (fun f => rfl) o hoo) htop ho fun Y => ?_
              rw [hop] at hwant
              simp only [G, stepG, hm, stepG.exec, htodo, stepG.oper, Frame.oper?, hop, hr, hwant, if_true]
        | inBlock i => simp [Tw.ctl, htodo] at hc
        | inLoop c => simp [Tw.ctl, htodo] at hc
        | _ => cases h0
  · exact unwind_lens hF h htop ho hm
end
end Go.Tw
end
