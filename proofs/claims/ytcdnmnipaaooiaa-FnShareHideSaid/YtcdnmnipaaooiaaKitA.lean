import Derived.Conc.Events
import GoSem.Dispatch
import Derived.Conc.Own
import Derived.Conc.Listed
-- Written by a program of this session (wip/tools/pack.py): texts of this seat laid one behind the other, without what the claim does not reach
section
namespace Go.Tw
/-- What lies in the true world where the lone one has a dead block: neither a number nor a view. -/
def Dull : Obj → Prop
  | .number .. | .view .. => False
  | _ => True
/-- What may lie anywhere in the lone world. -/
def Okay : Obj → Prop
  | .loop _ => False
  | .view a _ => a.spot.isSome = true
  | _ => True
/-- The heaps: but for the blocks of S, which cannot be read in the first. -/
structure HRel (S : Nat → Prop) (wp w : World) : Prop where
  size : wp.heap.size = w.heap.size
  os : wp.os = w.os
  output : wp.output = w.output
  same : ∀ b, ¬ S b → wp.heap[b]? = w.heap[b]?
  dead : ∀ b, S b → (wp.heap[b]? = some (Obj.map #[] 0) ∧ ∃ o, w.heap[b]? = some o ∧ Dull o) ∨ ∃ u a a', wp.heap[b]? = some (Obj.view a u) ∧ w.heap[b]? = some (Obj.view a' u)
  okay : ∀ (b : Nat) (o : Obj), wp.heap[b]? = some o → Okay o
/-- The tapes: the answers that the first still takes, up to its place E, are the second's next ones. -/
def Agree (E : Nat) (wp w : World) : Prop := ∀ i q, wp.drawn + i < E → w.tape (w.drawn + i) q = wp.tape (wp.drawn + i) q
/-- What a plain operation leaves. -/
structure Kept (S : Nat → Prop) (wp w wp' w' : World) : Prop where
  rel : HRel S wp' w'
  keep : ∀ b, S b → w'.heap[b]? = w.heap[b]?
  tapeP : wp'.tape = wp.tape
  tape : w'.tape = w.tape
  count : w'.drawn + wp.drawn = w.drawn + wp'.drawn
  grow : w.heap.size ≤ w'.heap.size
def EvIn (S : Nat → Prop) (n : Nat) (e : Event) : Prop :=
  (∃ a wr, e = ⟨.cell a, wr, false⟩ ∧ ¬ S a.block ∧ a.block < n) ∨ (∃ r s, e = ⟨.obj r, false, s⟩ ∧ r < n) ∨ e = ⟨.mark .noRoom, false, true⟩
def BadHalt : Halt → Prop
  | .panic _ | .stuck _ | .unsupported _ => True
  | _ => False
def SameAs {α : Type} (P : Program) (S : Nat → Prop) (s : Sem α) (wp : World) (a : α) (wp' : World) : Prop :=
  ∀ E w, HRel S wp w → Agree E wp w → wp'.drawn ≤ E → ∃ w', (∀ es, ∃ new, s.runT P w es = (.ok a w', es ++ new) ∧ ∀ e ∈ new, EvIn S w'.heap.size e) ∧ Kept S wp w wp' w' ∧ Agree E wp' w'
def Sim (Pp P : Program) {α : Type} (s : Sem α) : Prop :=
  ∀ (S : Nat → Prop) (wp : World), (∃ w, HRel S wp w) →
    (∃ a wp', s.run Pp wp = .ok a wp' ∧ wp.drawn ≤ wp'.drawn ∧ SameAs P S s wp a wp') ∨
    (∃ h wp', s.run Pp wp = .halt h wp' ∧ BadHalt h)
section
variable {Pp P : Program} {α β : Type} {S : Nat → Prop}
theorem Kept.refl {wp w : World} (h : HRel S wp w) : Kept S wp w wp w := ⟨h, fun _ _ => rfl, rfl, rfl, by omega, Nat.le_refl _⟩
theorem Kept.trans {wp w wp' w' wp'' w'' : World} (h : Kept S wp w wp' w') (h' : Kept S wp' w' wp'' w'') : Kept S wp w wp'' w'' :=
  ⟨h'.rel, fun b hb => (h'.keep b hb).trans (h.keep b hb), h'.tapeP.trans h.tapeP, h'.tape.trans h.tape, by have := h.count; have := h'.count; omega, Nat.le_trans h.grow h'.grow⟩
theorem EvIn.mono {n m : Nat} (h : n ≤ m) {e : Event} (he : EvIn S n e) : EvIn S m e := by
  rcases he with ⟨a, wr, rfl, h1, h2⟩ | ⟨r, s, rfl, h1⟩ | rfl
  · exact .inl ⟨a, wr, rfl, h1, by omega⟩
  · exact .inr (.inl ⟨r, s, rfl, by omega⟩)
  · exact .inr (.inr rfl)
/-- The second world with the first's tape: to have one at hand. -/
theorem HRel.tuned {wp w : World} (h : HRel S wp w) : HRel S wp { w with tape := wp.tape, drawn := wp.drawn } := ⟨h.size, h.os, h.output, h.same, h.dead, h.okay⟩
theorem HRel.untuned {wp w : World} {t : Nat → Question → Nat} {d : Nat} (h : HRel S wp w) : HRel S { wp with tape := t, drawn := d } w := ⟨h.size, h.os, h.output, h.same, h.dead, h.okay⟩
theorem SameAs.rel {s : Sem α} {wp wp' : World} {a : α} (h : SameAs P S s wp a wp') (hw : ∃ w, HRel S wp w) : ∃ w', HRel S wp' w' := by
  obtain ⟨w0, h0⟩ := hw
  obtain ⟨w', _, hk, _⟩ := h wp'.drawn _ h0.tuned (fun _ _ _ => rfl) (Nat.le_refl _)
  exact ⟨w', hk.rel⟩
theorem Sim.pure (a : α) : Sim Pp P (Pure.pure a : Sem α) := fun S wp _ =>
  .inl ⟨a, wp, rfl, Nat.le_refl _, fun E w h hA _ => ⟨w, fun es => ⟨#[], by show (Result.ok a w, es) = _; simp, by simp⟩, .refl h, hA⟩⟩
theorem Sim.halt {h : Halt} (hb : BadHalt h) : Sim Pp P (Sem.halt h : Sem α) := fun _ wp _ => .inr ⟨h, wp, rfl, hb⟩
theorem Sim.stuck (s : String) : Sim Pp P (Go.stuck s : Sem α) := Sim.halt trivial
theorem Sim.unsupported (u : Unsupported) : Sim Pp P (Go.unsupported u : Sem α) := Sim.halt trivial
theorem Sim.goPanic (v : Value) : Sim Pp P (Go.goPanic v : Sem α) := Sim.halt trivial
theorem run_bind_ok {p : Program} {s : Sem α} {f : α → Sem β} {w w' : World} {a : α} (h : s.run p w = .ok a w') : (s.bind f).run p w = (f a).run p w' := by
  rw [Sem.run_bind', h]; rfl
theorem run_bind_halt {p : Program} {s : Sem α} {f : α → Sem β} {w w' : World} {x : Halt} (h : s.run p w = .halt x w') : (s.bind f).run p w = .halt x w' := by
  rw [Sem.run_bind', h]; rfl
theorem SameAs.bind {s : Sem α} {f : α → Sem β} {wp wp' wp'' : World} {a : α} {b : β} (h : SameAs P S s wp a wp') (h' : SameAs P S (f a) wp' b wp'') (hd : wp'.drawn ≤ wp''.drawn) : SameAs P S (s.bind f) wp b wp'' := by
  intro E w hR hA hE
  obtain ⟨w', h1, h2, h3⟩ := h E w hR hA (Nat.le_trans hd hE)
  obtain ⟨w'', h4, h5, h6⟩ := h' E w' h2.rel h3 hE
  refine ⟨w'', fun es => ?_, h2.trans h5, h6⟩
  obtain ⟨n1, e1, v1⟩ := h1 es
  obtain ⟨n2, e2, v2⟩ := h4 (es ++ n1)
  refine ⟨n1 ++ n2, by rw [Sem.runT_bind', e1]; simp only; rw [e2, Array.append_assoc], fun e he => ?_⟩
  rcases Array.mem_append.1 he with x | x
  · exact (v1 e x).mono h5.grow
  · exact v2 e x
theorem Sim.bind' {s : Sem α} {f : α → Sem β} (hs : Sim Pp P s) (hf : ∀ a, Sim Pp P (f a)) : Sim Pp P (s.bind f) := by
  intro S wp hw
  rcases hs S wp hw with ⟨a, wp', hr, hd, hF⟩ | ⟨h, wp', hr, hb⟩
  · rcases hf a S wp' (hF.rel hw) with ⟨b, wp'', hr', hd', hF'⟩ | ⟨h, wp'', hr', hb⟩
    · exact .inl ⟨b, wp'', (run_bind_ok hr).trans hr', Nat.le_trans hd hd', hF.bind hF' hd'⟩
    · exact .inr ⟨h, wp'', (run_bind_ok hr).trans hr', hb⟩
  · exact .inr ⟨h, wp', run_bind_halt hr, hb⟩
theorem Sim.bind {s : Sem α} {f : α → Sem β} (hs : Sim Pp P s) (hf : ∀ a, Sim Pp P (f a)) : Sim Pp P (s >>= f) := Sim.bind' hs hf
theorem Sim.map {s : Sem α} (f : α → β) (hs : Sim Pp P s) : Sim Pp P (f <$> s) := Sim.bind' hs fun a => Sim.pure (f a)
/-- What the program is asked for is the same in both. -/
theorem Sim.program {k : Program → Sem α} (e : k Pp = k P) (h : Sim Pp P (k P)) : Sim Pp P (Sem.program k) := by
  intro S wp hw
  rcases h S wp hw with ⟨a, wp', hr, hd, hF⟩ | ⟨x, wp', hr, hb⟩
  · exact .inl ⟨a, wp', by rw [Sem.run, e]; exact hr, hd, fun E w hR hA hE => by
      obtain ⟨w', h1, h2⟩ := hF E w hR hA hE
      exact ⟨w', fun es => by rw [Sem.runT]; exact h1 es, h2⟩⟩
  · exact .inr ⟨x, wp', by rw [Sem.run, e]; exact hr, hb⟩
theorem Sim.ask {f : Program → Sem α} (e : f Pp = f P) (h : Sim Pp P (f P)) : Sim Pp P (Go.program >>= f) := by
  show Sim Pp P ((Sem.program Sem.pure).bind f)
  exact Sim.program (k := fun p => (Sem.pure p).bind f) e h
theorem cell_rel {wp w : World} (h : HRel S wp w) {a : Addr} {v : Value} (hc : wp.cell? a = some v) : ¬ S a.block ∧ a.block < w.heap.size ∧ wp.heap[a.block]? = w.heap[a.block]? := by
  have hn : ¬ S a.block := by
    intro hs
    rcases h.dead _ hs with ⟨he, _⟩ | ⟨u, x, x', he, _⟩ <;> simp [World.cell?, he] at hc
  refine ⟨hn, ?_, h.same _ hn⟩
  rw [← h.size]
  cases hh : wp.heap[a.block]? with
  | none => simp [World.cell?, hh] at hc
  | some o => exact (Array.getElem?_eq_some_iff.1 hh).1
theorem noCell_bad (w : World) (a : Addr) (s : String) : BadHalt (w.noCell a s) := by
  unfold World.noCell; split <;> exact trivial
theorem seen_spot (p : Program) (w : World) (a : Addr) (u : TypeId) (k : Addr) (m : Bool) (h : a.spot.isSome = true) : ∃ s, w.seen p a u k m = .error s := by
  unfold World.seen
  exact ⟨_, by simp [h]; rfl⟩
theorem farLoad_bad {wp w : World} (h : HRel S wp w) (p : Program) (a : Addr) (m : Bool) : ∃ x, wp.farLoad p a m = .error x ∧ BadHalt x := by
  unfold World.farLoad
  cases hh : wp.heap[a.block]? with
  | none => exact ⟨_, rfl, noCell_bad _ _ _⟩
  | some o =>
    have ho := h.okay _ _ hh
    cases o with
    | view at_ u =>
      obtain ⟨s, hs⟩ := seen_spot p wp at_ u a m ho
      refine ⟨.unsupported (.unsafePointer s), ?_, trivial⟩
      simp only [World.viewLoad, hs]
      rfl
    | _ => exact ⟨_, rfl, noCell_bad _ _ _⟩
theorem farStore_bad {wp w : World} (h : HRel S wp w) (p : Program) (a : Addr) (v : Value) (m : Bool) : ∃ x, wp.farStore p a v m = .error x ∧ BadHalt x := by
  unfold World.farStore
  cases hh : wp.heap[a.block]? with
  | none => exact ⟨_, rfl, noCell_bad _ _ _⟩
  | some o =>
    have ho := h.okay _ _ hh
    cases o with
    | view at_ u =>
      obtain ⟨s, hs⟩ := seen_spot p wp at_ u a m ho
      simp only [World.viewStore, hs]
      split
      · rename_i r hr
        exfalso
        revert hr
        split <;> intro hr <;> cases hr
      · exact ⟨_, rfl, trivial⟩
    | _ => exact ⟨_, rfl, noCell_bad _ _ _⟩
theorem mode_pa : (Mode.plain == Mode.atomic) = false := rfl
theorem Sim.load (a : Addr) : Sim Pp P (Go.load a) := by
  intro S wp ⟨w0, h0⟩
  cases hc : wp.cell? a with
  | some v =>
    obtain ⟨h1, h2, _⟩ := cell_rel h0 hc
    refine .inl ⟨v, wp, by simp [Go.load, Sem.run, hc], Nat.le_refl _, fun E w hR hA _ => ⟨w, fun es => ⟨#[⟨.cell a, false, false⟩], ?_, fun e he => ?_⟩, .refl hR, hA⟩⟩
    · have hc' : w.cell? a = some v := by
        have := (cell_rel hR hc).2.2
        rw [← hc]; simp [World.cell?, this]
      show Sem.runT P (.load .plain a .pure) w es = _
      simp [Sem.runT, hc', mode_pa, -Sem.runT_eq]
    · simp at he; subst he; exact .inl ⟨a, false, rfl, h1, (cell_rel hR hc).2.1⟩
  | none =>
    obtain ⟨x, hx, hb⟩ := farLoad_bad h0 Pp a false
    exact .inr ⟨x, wp, by simp [Go.load, Sem.run, hc, mode_pa, hx], hb⟩
def putCell (a : Addr) (v : Value) : Obj → Obj
  | .cells c elem frozen => .cells (if a.spot.isSome then c else c.setIfInBounds a.off v) elem frozen
  | o => o
theorem setCell_heap (w : World) (a : Addr) (v : Value) (b : Nat) : (w.setCell a v).heap[b]? = if a.block = b then (w.heap[b]?).map (putCell a v) else w.heap[b]? := by
  simp only [World.setCell, Array.getElem?_modify]
  rfl
theorem okay_set (a : Addr) (v : Value) {o : Obj} (h : Okay o) : Okay (putCell a v o) := by
  cases o <;> exact h
theorem Sim.store (a : Addr) (v : Value) : Sim Pp P (Go.store a v) := by
  intro S wp ⟨w0, h0⟩
  by_cases hv : (∃ x, v = .agg x) ∨ ∃ x, v = .tuple x
  · refine .inr ⟨.stuck "store: not the value of one cell", wp, ?_, trivial⟩
    rcases hv with ⟨x, rfl⟩ | ⟨x, rfl⟩ <;> rfl
  have keyR : ∀ (p : Program) (w : World), Sem.run p (Go.store a v) w = match w.cell? a with
      | some _ => if w.frozen? a then .halt (.unsupported (.unsafePointer "a write to bytes that a string shares")) w else .ok () (w.setCell a v)
      | none => match w.farStore p a v false with
        | .ok (w, _) => .ok () w
        | .error h => .halt h w := by
    intro p w
    cases v <;> first | (exact absurd (.inl ⟨_, rfl⟩) hv) | (exact absurd (.inr ⟨_, rfl⟩) hv) | rfl
  have key : ∀ (p : Program) (w : World) (es : Array Event) (u : Value), w.cell? a = some u → w.frozen? a = false → Sem.runT p (Go.store a v) w es = (.ok () (w.setCell a v), es.push ⟨.cell a, true, false⟩) := by
    intro p w es u h1 h2
    have : Sem.runT p (Go.store a v) w es = match w.cell? a with
      | some _ => if w.frozen? a then (.halt (.unsupported (.unsafePointer "a write to bytes that a string shares")) w, es) else (.ok () (w.setCell a v), es.push ⟨.cell a, true, false⟩)
      | none => match w.farStore p a v false with
        | .ok (w, touched) => (.ok () w, es ++ touched.toArray.map (⟨.cell ·, true, false⟩))
        | .error h => (.halt h w, es) := by
      cases v <;> first | (exact absurd (.inl ⟨_, rfl⟩) hv) | (exact absurd (.inr ⟨_, rfl⟩) hv) | rfl
    rw [this]; simp [h1, h2]
  cases hc : wp.cell? a with
  | none =>
    obtain ⟨x, hx, hb⟩ := farStore_bad h0 Pp a v false
    exact .inr ⟨x, wp, by rw [keyR]; simp [hc, hx], hb⟩
  | some u =>
    by_cases hf : wp.frozen? a = true
    · exact .inr ⟨.unsupported (.unsafePointer "a write to bytes that a string shares"), wp, by rw [keyR]; simp [hc, hf], trivial⟩
    refine .inl ⟨(), wp.setCell a v, by rw [keyR]; simp [hc, hf], Nat.le_refl _, fun E w hR hA _ => ?_⟩
    obtain ⟨h1, h2, hb⟩ := cell_rel hR hc
    have hc' : w.cell? a = some u := by rw [← hc]; simp [World.cell?, hb]
    have hf' : w.frozen? a = false := by simpa [World.frozen?, hb] using hf
    refine ⟨w.setCell a v, fun es => ⟨#[⟨.cell a, true, false⟩], by rw [key P w es u hc' hf']; simp, fun e he => ?_⟩, ⟨⟨by simpa [World.setCell] using hR.size, hR.os, hR.output, fun b hb' => ?_, fun b hb' => ?_, fun b o ho => ?_⟩, fun b hb' => ?_, rfl, rfl, by show w.drawn + wp.drawn = w.drawn + wp.drawn; rfl, by simp [World.setCell]⟩, hA⟩
    · simp at he; subst he; exact .inl ⟨a, true, rfl, h1, by simpa [World.setCell] using h2⟩
    · rw [setCell_heap, setCell_heap, hR.same b hb']
    · have hne : a.block ≠ b := fun e => h1 (by rw [e]; exact hb')
      rw [setCell_heap, setCell_heap, if_neg hne, if_neg hne]
      exact hR.dead b hb'
    · rw [setCell_heap] at ho
      by_cases e : a.block = b
      · rw [if_pos e] at ho
        cases hh : wp.heap[b]? with
        | none => rw [hh] at ho; cases ho
        | some o' =>
          rw [hh] at ho
          simp only [Option.map_some, Option.some.injEq] at ho
          subst ho
          exact okay_set a v (hR.okay b o' hh)
      · rw [if_neg e] at ho; exact hR.okay b o ho
    · rw [setCell_heap, if_neg (fun e => h1 (by rw [e]; exact hb'))]
theorem dead_lt {wp w : World} (h : HRel S wp w) {b : Nat} (hb : S b) : b < w.heap.size := by
  rcases h.dead b hb with ⟨_, o, ho, _⟩ | ⟨u, x, x', _, ho⟩ <;> exact (Array.getElem?_eq_some_iff.1 ho).1
theorem Sim.newObj {o : Obj} (ho : Okay o) : Sim Pp P (Go.newObj o) := by
  intro S wp _
  refine .inl ⟨wp.heap.size, { wp with heap := wp.heap.push o }, rfl, Nat.le_refl _, fun E w hR hA _ => ?_⟩
  refine ⟨{ w with heap := w.heap.push o }, fun es => ⟨#[], by show (Result.ok w.heap.size _, es) = _; simp [hR.size], by simp⟩, ⟨⟨by simp [hR.size], hR.os, hR.output, fun b hb => ?_, fun b hb => ?_, fun b x hx => ?_⟩, fun b hb => ?_, rfl, rfl, rfl, by simp⟩, hA⟩
  · simp only [Array.getElem?_push, hR.size, hR.same b hb]
  · have := dead_lt hR hb
    simp only [Array.getElem?_push]
    rw [if_neg (by rw [hR.size]; omega), if_neg (by omega)]
    exact hR.dead b hb
  · simp only [Array.getElem?_push] at hx
    split at hx
    · cases hx; exact ho
    · exact hR.okay b x hx
  · have := dead_lt hR hb
    simp only [Array.getElem?_push]
    rw [if_neg (by omega)]
theorem Sim.choose (q : Question) : Sim Pp P (Go.choose q) := by
  intro S wp _
  by_cases hq : q.forced = true
  · refine .inl ⟨0, wp, by show Sem.run _ (.choose q .pure) _ = _; simp [Sem.run, hq], Nat.le_refl _, fun E w hR hA _ => ⟨w, fun es => ⟨#[], ?_, by simp⟩, .refl hR, hA⟩⟩
    show Sem.runT _ (.choose q .pure) _ _ = _
    simp [Sem.runT, hq, -Sem.runT_eq]
  · refine .inl ⟨q.cut (wp.tape wp.drawn q), { wp with drawn := wp.drawn + 1 }, by show Sem.run _ (.choose q .pure) _ = _; simp [Sem.run, hq], Nat.le_succ _, fun E w hR hA hE => ?_⟩
    have h0' := hA 0 q (by simp only at hE; omega)
    refine ⟨{ w with drawn := w.drawn + 1 }, fun es => ⟨#[], ?_, by simp⟩, ⟨⟨hR.size, hR.os, hR.output, hR.same, hR.dead, hR.okay⟩, fun _ _ => rfl, rfl, rfl, by show w.drawn + 1 + wp.drawn = w.drawn + (wp.drawn + 1); omega, Nat.le_refl _⟩, fun i q' hi => ?_⟩
    · show Sem.runT _ (.choose q .pure) _ _ = _
      simp only [Nat.add_zero] at h0'
      simp [Sem.runT, hq, h0', -Sem.runT_eq]
    · have := hA (i + 1) q' (by simp only at hi; omega)
      simpa [Nat.add_assoc, Nat.add_comm 1 i] using this
theorem Sim.room : Sim Pp P (Go.mark .noRoom) := by
  intro S wp _
  refine .inl ⟨(), wp, rfl, Nat.le_refl _, fun E w hR hA _ => ⟨w, fun es => ⟨#[⟨.mark .noRoom, false, true⟩], by show (Result.ok () w, _) = _; simp, fun e he => ?_⟩, .refl hR, hA⟩⟩
  simp at he; subst he; exact .inr (.inr rfl)
theorem Sim.askRoom (n : Nat) : Sim Pp P (Go.askRoom n) := by
  unfold Go.askRoom
  split
  · exact Sim.room
  · exact Sim.pure ()
/-- What never comes out well asks for nothing. -/
def Falls (Pp : Program) {α : Type} (s : Sem α) : Prop := ∀ wp, ∃ h wp', s.run Pp wp = .halt h wp' ∧ BadHalt h
theorem Falls.sim {s : Sem α} (h : Falls Pp s) : Sim Pp P s := fun _ wp _ => .inr (h wp)
theorem Falls.stuck (s : String) : Falls Pp (Go.stuck s : Sem α) := fun wp => ⟨_, wp, rfl, trivial⟩
theorem Falls.unsupported (u : Unsupported) : Falls Pp (Go.unsupported u : Sem α) := fun wp => ⟨_, wp, rfl, trivial⟩
/-- A row's shape, where the way on is for a row alone. -/
theorem Sim.shape {f : Option (TypeId × Nat) → Sem α} (r : Nat) (hn : Falls Pp (f none)) (hs : ∀ x, Sim Pp P (f (some x))) : Sim Pp P (Go.shape r >>= f) := by
  intro S wp hw
  show (∃ a wp', Sem.run Pp ((Sem.shape r .pure).bind f) wp = _ ∧ _) ∨ _
  have er : Sem.run Pp ((Sem.shape r .pure).bind f) wp = (f (wp.shape? r)).run Pp wp := rfl
  cases hsh : wp.shape? r with
  | none =>
    obtain ⟨h, wp', h1, h2⟩ := hn wp
    exact .inr ⟨h, wp', by show Sem.run Pp ((Sem.shape r .pure).bind f) wp = _; rw [er, hsh]; exact h1, h2⟩
  | some x =>
    rcases hs x S wp hw with ⟨a, wp', hr, hd, hF⟩ | ⟨h, wp', h1, h2⟩
    · refine .inl ⟨a, wp', by rw [er, hsh]; exact hr, hd, fun E w hR hA hE => ?_⟩
      obtain ⟨w', h1, h2⟩ := hF E w hR hA hE
      refine ⟨w', fun es => ?_, h2⟩
      have hnS : ¬ S r := by
        intro hb
        rcases hR.dead r hb with ⟨he, _⟩ | ⟨u, y, y', he, _⟩ <;> simp [World.shape?, he] at hsh
      have e : w.shape? r = some x := by rw [← hsh]; simp [World.shape?, hR.same r hnS]
      have er' : Sem.runT P (Go.shape r >>= f) w es = (f (w.shape? r)).runT P w es := rfl
      rw [er', e]
      exact h1 es
    · exact .inr ⟨h, wp', by show Sem.run Pp ((Sem.shape r .pure).bind f) wp = _; rw [er, hsh]; exact h1, h2⟩
theorem runT_getObj {p : Program} {w : World} {r : Nat} {o : Obj} (h : w.heap[r]? = some o) (hc : ∀ c e f, o ≠ .cells c e f) (es : Array Event) : Sem.runT p (Go.getObj r) w es = (.ok o w, es.push ⟨.obj r, false, o.isChan⟩) := by
  show Sem.runT p (.getObj r .pure) w es = _
  unfold Sem.runT
  rw [h]
  cases o <;> first | rfl | exact absurd rfl (hc _ _ _)
theorem run_getObj {p : Program} {w : World} {r : Nat} {o : Obj} (h : w.heap[r]? = some o) (hc : ∀ c e f, o ≠ .cells c e f) : Sem.run p (Go.getObj r) w = .ok o w := by
  rw [← Sem.runT_fst p _ w #[], runT_getObj h hc]
theorem run_getObj_none {p : Program} {w : World} {r : Nat} (h : w.heap[r]? = none) : Sem.run p (Go.getObj r) w = .halt (.stuck "getObj: no such block") w := by
  show Sem.run p (.getObj r .pure) w = _
  unfold Sem.run; rw [h]
theorem run_getObj_cells {p : Program} {w : World} {r : Nat} {c : Array Value} {e : TypeId} {f : Nat × Nat} (h : w.heap[r]? = some (.cells c e f)) : Sem.run p (Go.getObj r) w = .halt (.stuck "getObj: a row of cells") w := by
  show Sem.run p (.getObj r .pure) w = _
  unfold Sem.run; rw [h]
/-- What 'numberAt' and 'viewAt' look at. -/
def peek {β : Type} (pick : Obj → Option β) (r : Nat) : Sem (Option β) := do
  if (← Go.shape r).isSome then return none
  pure (pick (← Go.getObj r))
def isNum : Obj → Option (Addr × Bool)
  | .number a lost => some (a, lost)
  | _ => none
def isView : Obj → Option (Addr × TypeId)
  | .view a t => some (a, t)
  | _ => none
def rowOf : Obj → Option (TypeId × Nat)
  | .cells c e _ => some (e, c.size)
  | _ => none
theorem numberAt_peek (r : Nat) : Go.numberAt r = peek isNum r := by
  unfold Go.numberAt peek
  congr 1
  funext x
  split
  · rfl
  · congr 1
    funext o
    cases o <;> rfl
theorem viewAt_peek (r : Nat) : Go.viewAt r = peek isView r := by
  unfold Go.viewAt peek
  congr 1
  funext x
  split
  · rfl
  · congr 1
    funext o
    cases o <;> rfl
theorem shape_of_obj {w : World} {r : Nat} {o : Obj} (h : w.heap[r]? = some o) : w.shape? r = rowOf o := by
  unfold World.shape?; simp only [h]; cases o <;> rfl
theorem runT_peek {p : Program} (pick : Obj → Option β) (r : Nat) {w : World} {o : Obj} (h : w.heap[r]? = some o) (hp : ∀ c e f, o = .cells c e f → pick o = none) (es : Array Event) :
    ∃ new, Sem.runT p (peek pick r) w es = (.ok (pick o) w, es ++ new) ∧ ∀ e ∈ new, ∃ s, e = ⟨.obj r, false, s⟩ := by
  have e1 : Sem.runT p (peek pick r) w es = Sem.runT p (if (w.shape? r).isSome then Pure.pure none else (Go.getObj r >>= fun o => Pure.pure (pick o))) w es := rfl
  rw [e1, shape_of_obj h]
  by_cases hc : ∃ c e f, o = .cells c e f
  · obtain ⟨c, e, f, rfl⟩ := hc
    exact ⟨#[], by rw [hp c e f rfl]; show (Result.ok none w, es) = _; simp, by simp⟩
  · have hn : rowOf o = none := by
      cases o <;> first | rfl | exact absurd ⟨_, _, _, rfl⟩ hc
    rw [hn]
    refine ⟨#[⟨.obj r, false, o.isChan⟩], ?_, fun e he => ⟨o.isChan, by simpa using he⟩⟩
    show Sem.runT p ((Go.getObj r).bind fun o => Pure.pure (pick o)) w es = _
    rw [Sem.runT_bind', runT_getObj h (fun c e f hh => hc ⟨c, e, f, hh⟩)]
    show (Result.ok (pick o) w, _) = _
    simp
theorem run_peek_none {p : Program} (pick : Obj → Option β) (r : Nat) {w : World} (h : w.heap[r]? = none) : Sem.run p (peek pick r) w = .halt (.stuck "getObj: no such block") w := by
  have e1 : Sem.run p (peek pick r) w = Sem.run p (if (w.shape? r).isSome then Pure.pure none else (Go.getObj r >>= fun o => Pure.pure (pick o))) w := rfl
  have : w.shape? r = none := by simp [World.shape?, h]
  rw [e1, this]
  exact run_bind_halt (run_getObj_none h)
theorem Sim.numberAt (r : Nat) : Sim Pp P (Go.numberAt r) := by
  rw [numberAt_peek]
  intro S wp hw
  cases hh : wp.heap[r]? with
  | none => exact .inr ⟨_, wp, run_peek_none _ r hh, trivial⟩
  | some o =>
    obtain ⟨n0, e0, _⟩ := runT_peek (p := Pp) isNum r hh (by rintro c e f rfl; rfl) #[]
    refine .inl ⟨_, wp, by rw [← Sem.runT_fst Pp _ wp #[], e0], Nat.le_refl _, fun E w hR hA _ => ⟨w, fun es => ?_, .refl hR, hA⟩⟩
    by_cases hb : S r
    · obtain ⟨o', ho', hp⟩ : ∃ o', w.heap[r]? = some o' ∧ isNum o' = isNum o := by
        rcases hR.dead r hb with ⟨he, o', ho', hd⟩ | ⟨u, y, y', he, ho'⟩
        · rw [hh] at he; cases he
          exact ⟨o', ho', by cases o' <;> first | rfl | exact hd.elim⟩
        · rw [hh] at he; cases he
          exact ⟨_, ho', rfl⟩
      obtain ⟨n1, e1, v1⟩ := runT_peek (p := P) isNum r ho' (by rintro c e f rfl; rfl) es
      refine ⟨n1, by rw [e1, hp], fun e he => ?_⟩
      obtain ⟨s, rfl⟩ := v1 e he
      exact .inr (.inl ⟨r, s, rfl, (Array.getElem?_eq_some_iff.1 ho').1⟩)
    · have ho' : w.heap[r]? = some o := by rw [← hR.same r hb]; exact hh
      obtain ⟨n1, e1, v1⟩ := runT_peek (p := P) isNum r ho' (by rintro c e f rfl; rfl) es
      refine ⟨n1, e1, fun e he => ?_⟩
      obtain ⟨s, rfl⟩ := v1 e he
      exact .inr (.inl ⟨r, s, rfl, (Array.getElem?_eq_some_iff.1 ho').1⟩)
/-- 'viewAt', where only this is asked: is it one? -/
theorem Sim.viewIs {g : Bool → Sem α} (r : Nat) (hg : ∀ b, Sim Pp P (g b)) : Sim Pp P (Go.viewAt r >>= fun x => g x.isSome) := by
  have h1 : Sim Pp P ((fun x : Option (Addr × TypeId) => x.isSome) <$> Go.viewAt r) := by
    rw [viewAt_peek]
    intro S wp hw
    have key : ∀ (p : Program) (w : World) (o : Obj), w.heap[r]? = some o → ∀ es, ∃ new, Sem.runT p ((fun x : Option (Addr × TypeId) => x.isSome) <$> peek isView r) w es = (.ok (isView o).isSome w, es ++ new) ∧ ∀ e ∈ new, ∃ s, e = ⟨.obj r, false, s⟩ := by
      intro p w o ho es
      obtain ⟨n1, e1, v1⟩ := runT_peek (p := p) isView r ho (by rintro c e f rfl; rfl) es
      refine ⟨n1, ?_, v1⟩
      show Sem.runT p ((peek isView r).bind fun x => Pure.pure x.isSome) w es = _
      rw [Sem.runT_bind', e1]
      rfl
    cases hh : wp.heap[r]? with
    | none => exact .inr ⟨_, wp, run_bind_halt (run_peek_none _ r hh), trivial⟩
    | some o =>
      obtain ⟨n0, e0, _⟩ := key Pp wp o hh #[]
      refine .inl ⟨_, wp, by rw [← Sem.runT_fst Pp _ wp #[], e0], Nat.le_refl _, fun E w hR hA _ => ⟨w, fun es => ?_, .refl hR, hA⟩⟩
      obtain ⟨o', ho', hp⟩ : ∃ o', w.heap[r]? = some o' ∧ (isView o').isSome = (isView o).isSome := by
        by_cases hb : S r
        · rcases hR.dead r hb with ⟨he, o', ho', hd⟩ | ⟨u, y, y', he, ho'⟩
          · rw [hh] at he; cases he
            exact ⟨o', ho', by cases o' <;> first | rfl | exact hd.elim⟩
          · rw [hh] at he; cases he
            exact ⟨_, ho', rfl⟩
        · exact ⟨o, by rw [← hR.same r hb]; exact hh, rfl⟩
      obtain ⟨n1, e1, v1⟩ := key P w o' ho' es
      refine ⟨n1, by rw [e1, hp], fun e he => ?_⟩
      obtain ⟨s, rfl⟩ := v1 e he
      exact .inr (.inl ⟨r, s, rfl, (Array.getElem?_eq_some_iff.1 ho').1⟩)
  have e : (Go.viewAt r >>= fun x => g x.isSome) = (((fun x : Option (Addr × TypeId) => x.isSome) <$> Go.viewAt r) >>= g) := by
    rw [viewAt_peek]
    show Sem.bind _ _ = Sem.bind (Sem.bind _ _) _
    generalize peek isView r = s
    induction s <;> first | rfl | (simp only [Sem.bind]; congr 1; funext x; rename_i ih; exact ih x) | (simp only [Sem.bind]; congr 1)
  rw [e]
  exact Sim.bind h1 hg
/-- Where no loop can lie nothing is yielded. -/
theorem Sim.getLoop (l : Nat) : Sim Pp P (Go.Instr.getLoop l) := by
  intro S wp ⟨w0, h0⟩
  right
  show ∃ h wp', Sem.run Pp ((Go.getObj l).bind _) wp = _ ∧ _
  cases hh : wp.heap[l]? with
  | none => exact ⟨_, wp, run_bind_halt (run_getObj_none hh), trivial⟩
  | some o =>
    have ho := h0.okay l o hh
    by_cases hc : ∃ c e f, o = .cells c e f
    · obtain ⟨c, e, f, rfl⟩ := hc
      exact ⟨_, wp, run_bind_halt (run_getObj_cells hh), trivial⟩
    · rw [run_bind_ok (run_getObj hh (fun c e f x => hc ⟨c, e, f, x⟩))]
      cases o <;> first | exact ho.elim | exact ⟨_, wp, rfl, trivial⟩
end
end Go.Tw
end

section
namespace Go.Tw
/-- The program with other functions. -/
abbrev alt (P : Program) (fs : Array Func) : Program := { P with funcs := fs }
section
variable {P : Program} {fs : Array Func} {α β : Type}
theorem Sim.typeInfo (t : TypeId) : (Sim (alt P fs) P) (Go.typeInfo t) := Sim.ask rfl (by split <;> first | exact Sim.pure _ | exact Sim.stuck _)
theorem Sim.underlying (t : TypeId) : (Sim (alt P fs) P) (Go.underlying t) := Sim.ask rfl (by split <;> first | exact Sim.pure _ | exact Sim.stuck _)
theorem Sim.zeroValue (t : TypeId) : (Sim (alt P fs) P) (Go.zeroValue t) := Sim.bind (Sim.typeInfo t) fun _ => (by split <;> first | exact Sim.pure _ | exact Sim.unsupported _)
theorem Sim.sizeOf (t : TypeId) : (Sim (alt P fs) P) (Go.sizeOf t) := Sim.bind (Sim.typeInfo t) fun _ => Sim.pure _
theorem Sim.isAgg (t : TypeId) : (Sim (alt P fs) P) (Go.isAgg t) := Sim.bind (Sim.underlying t) fun _ => (by split <;> exact Sim.pure _)
theorem Sim.elemOf (t : TypeId) : (Sim (alt P fs) P) (Go.elemOf t) := Sim.bind (Sim.underlying t) fun _ => (by split <;> first | exact Sim.pure _ | exact Sim.stuck _)
theorem Sim.loadCellsFrom (a : Addr) : ∀ (n i : Nat) (acc : Array Value), (Sim (alt P fs) P) (Go.loadCellsFrom a i n acc)
  | 0, _, _ => Sim.pure _
  | n + 1, i, _ => Sim.bind (Sim.load _) fun _ => Sim.loadCellsFrom a n (i + 1) _
theorem Sim.loadCells (a : Addr) (n : Nat) : (Sim (alt P fs) P) (Go.loadCells a n) := Sim.loadCellsFrom a n 0 #[]
theorem Sim.storeCells (a : Addr) : ∀ (vs : List Value) (i : Nat), (Sim (alt P fs) P) (Go.storeCells a vs i)
  | [], _ => Sim.pure _
  | _ :: rest, i => Sim.bind (Sim.store _ _) fun _ => Sim.storeCells a rest (i + 1)
theorem Sim.loadVar (t : TypeId) (a : Addr) : (Sim (alt P fs) P) (Go.loadVar t a) := by
  refine Sim.bind (Sim.isAgg t) fun b => ?_
  split
  · exact Sim.bind (Sim.sizeOf t) fun n => Sim.bind (Sim.loadCells a n) fun _ => Sim.pure _
  · exact Sim.load a
theorem Sim.storeVar (t : TypeId) (a : Addr) (v : Value) : (Sim (alt P fs) P) (Go.storeVar t a v) := by
  refine Sim.bind (Sim.sizeOf t) fun n => ?_
  split
  · exact Sim.bind (Sim.stuck _) fun _ => Sim.storeCells _ _ _
  · exact Sim.storeCells _ _ _
theorem Sim.newRow (e : TypeId) (c : Array Value) : (Sim (alt P fs) P) (Go.newRow e c) := Sim.bind (Sim.newObj trivial) fun _ => Sim.pure _
theorem Sim.newVar (t : TypeId) (v : Value) : (Sim (alt P fs) P) (Go.newVar t v) := Sim.newRow t v.cells
theorem Sim.part (t : TypeId) (cs : Array Value) (off : Nat) : (Sim (alt P fs) P) (Go.part t cs off) := by
  refine Sim.bind (Sim.isAgg t) fun b => ?_
  split
  · exact Sim.bind (Sim.sizeOf t) fun n => Sim.pure _
  · split <;> first | exact Sim.pure _ | exact Sim.stuck _
theorem Sim.runtimePanic (e : RuntimeError) : (Sim (alt P fs) P) (Go.runtimePanic e : Sem α) := by
  refine Sim.ask rfl ?_
  cases e <;> simp only <;> first
    | exact Sim.goPanic _
    | exact Sim.bind (Sim.elemOf _) fun _ => Sim.bind (Sim.newVar _ _) fun _ => Sim.goPanic _
theorem Sim.boundsPanic (k : IntKind) (x y : Int) (c : BoundsCode) : (Sim (alt P fs) P) (Go.boundsPanic k x y c : Sem α) := by
  unfold Go.boundsPanic
  dsimp only
  split
  · exact Sim.bind (Sim.map _ (Sim.choose _)) fun _ => Sim.runtimePanic _
  · exact Sim.bind (Sim.pure _) fun _ => Sim.runtimePanic _
theorem Sim.asIntOf (v : Value) : (Sim (alt P fs) P) (Go.asIntOf v) := by unfold Go.asIntOf; split <;> first | exact Sim.pure _ | exact Sim.unsupported _ | exact Sim.stuck _
theorem Sim.asInt (v : Value) : (Sim (alt P fs) P) (Go.asInt v) := Sim.bind (Sim.asIntOf v) fun _ => Sim.pure _
theorem Sim.asBool (v : Value) : (Sim (alt P fs) P) (Go.asBool v) := by unfold Go.asBool; split <;> first | exact Sim.pure _ | exact Sim.stuck _
theorem Sim.asAddr (v : Value) : (Sim (alt P fs) P) (Go.asAddr v) := by unfold Go.asAddr; split <;> first | exact Sim.pure _ | exact Sim.runtimePanic _ | exact Sim.stuck _
theorem Sim.sureAddr (v : Value) : (Sim (alt P fs) P) (Instr.sureAddr v) := by unfold Instr.sureAddr; split <;> first | exact Sim.pure _ | exact Sim.stuck _
theorem Sim.loadAt (t : TypeId) (a : Value) : (Sim (alt P fs) P) (Instr.loadAt t a) := Sim.bind (Sim.sureAddr a) fun _ => Sim.loadVar t _
theorem Sim.storeAt (t : TypeId) (a v : Value) : (Sim (alt P fs) P) (Instr.storeAt t a v) := Sim.bind (Sim.sureAddr a) fun _ => Sim.storeVar t _ v
theorem Sim.alloc (e : TypeId) (h : Bool) (old : Value) : (Sim (alt P fs) P) (Instr.alloc e h old) := by
  refine Sim.bind (Sim.zeroValue e) fun z => ?_
  split
  · exact Sim.bind (Sim.storeVar _ _ _) fun _ => Sim.pure _
  · exact Sim.bind (Sim.newVar _ _) fun _ => Sim.pure _
theorem Sim.box (e : TypeId) (v : Value) : (Sim (alt P fs) P) (Instr.box e v) := Sim.bind (Sim.newVar _ _) fun _ => Sim.pure _
theorem Sim.makeMapNone (t : TypeId) : (Sim (alt P fs) P) (Instr.makeMap t none) := by
  unfold Instr.makeMap
  exact Sim.bind (Sim.newObj (o := .map #[] 0) trivial) fun _ => Sim.pure _
theorem Sim.makeInterface (t : TypeId) (x : Value) : (Sim (alt P fs) P) (Instr.makeInterface t x) := Sim.bind (Sim.underlying t) fun _ => (by split <;> first | exact Sim.pure _ | exact Sim.stuck _)
theorem Sim.extract (t : Value) (i : Nat) : (Sim (alt P fs) P) (Instr.extract t i) := by
  unfold Instr.extract
  split
  · split <;> first | exact Sim.pure _ | exact Sim.stuck _
  · exact Sim.stuck _
theorem Sim.makeFunc (f : Fn) (a b : Array Value) : (Sim (alt P fs) P) (Instr.makeFunc f a b) := Sim.pure _
/-- A row of asks. -/
theorem Sim.listMapM {f : α → Sem β} (hf : ∀ a, (Sim (alt P fs) P) (f a)) : ∀ l : List α, (Sim (alt P fs) P) (l.mapM f)
  | [] => Sim.pure _
  | a :: l => by
    rw [List.mapM_cons]
    exact Sim.bind (hf a) fun _ => Sim.bind (Sim.listMapM hf l) fun _ => Sim.pure _
theorem Sim.arrayMapM {f : α → Sem β} (hf : ∀ a, (Sim (alt P fs) P) (f a)) (l : Array α) : (Sim (alt P fs) P) (l.mapM f) := by
  obtain ⟨l⟩ := l
  rw [List.mapM_toArray]
  exact Sim.map _ (Sim.listMapM hf l)
theorem Sim.noView (a : Addr) : (Sim (alt P fs) P) (Go.noView a) := by
  unfold Go.noView
  exact Sim.viewIs (g := fun b => if b then Go.unsupported (.unsafePointer "memory seen as another type") else Pure.pure ()) a.block (fun b => by cases b <;> first | exact Sim.pure _ | exact Sim.unsupported _)
theorem byteOfCell_alt : ∀ (d t off : Nat), byteOfCell (alt P fs) d t off = byteOfCell P d t off
  | 0, _, _ => rfl
  | d + 1, t, off => by
    unfold byteOfCell
    have e : (alt P fs).underlying t = P.underlying t := rfl
    rw [e]
    cases P.underlying t with
    | none => rfl
    | some x =>
      cases x with
      | struct fields => simp only [byteOfCell_alt d]; rfl
      | array n e => simp only [byteOfCell_alt d]; rfl
      | _ => rfl
theorem cellOfByte_alt : ∀ (d t b : Nat), cellOfByte (alt P fs) d t b = cellOfByte P d t b
  | 0, _, _ => rfl
  | d + 1, t, b => by
    unfold cellOfByte
    have e : (alt P fs).underlying t = P.underlying t := rfl
    rw [e]
    cases P.underlying t with
    | none => rfl
    | some x =>
      cases x with
      | struct fields => simp only [cellOfByte_alt d]; rfl
      | array n e => simp only [cellOfByte_alt d]; rfl
      | _ => rfl
theorem cellAtBytes_alt (d e count off : Nat) (bytes : Int) : cellAtBytes (alt P fs) d e count off bytes = cellAtBytes P d e count off bytes := by
  unfold cellAtBytes
  simp only [byteOfCell_alt, cellOfByte_alt]
  rfl
theorem Sim.byteOf (a : Addr) : (Sim (alt P fs) P) (Go.byteOf a) := by
  unfold Go.byteOf
  cases a.spot with
  | some s => exact Sim.pure _
  | none =>
    dsimp only
    refine Sim.ask (by simp only [byteOfCell_alt]; rfl) ?_
    refine Sim.bind (Sim.noView a) fun _ => Sim.shape _ (Falls.stuck _) fun x => ?_
    dsimp only
    split
    · exact Sim.pure _
    · split <;> first | exact Sim.pure _ | exact Sim.stuck _
theorem Sim.partAt (a : Addr) (c b : Nat) : (Sim (alt P fs) P) (Go.partAt a c b) := Sim.bind (Sim.byteOf a) fun _ => Sim.bind (Sim.byteOf _) fun _ => Sim.pure _
theorem Sim.fieldPlace (a : Addr) (f : Field) : (Sim (alt P fs) P) (Go.fieldPlace a f) := by
  refine Sim.bind (Sim.sizeOf _) fun n => ?_
  split
  · exact Sim.partAt _ _ _
  · exact Sim.pure _
theorem Sim.behindNumber (n : Addr) : (Sim (alt P fs) P) (Go.behindNumber n) := Sim.bind (Sim.numberAt _) fun _ => Sim.pure _
theorem Sim.asNumber (a : Addr) (l : Bool) : (Sim (alt P fs) P) (Go.asNumber a l) := Sim.bind (Sim.newObj (o := .number a l) trivial) fun _ => Sim.pure _
end
end Go.Tw
end

section
namespace Go.Tw
open Go.Op
section
variable {P : Program} {fs : Array Func} {α β : Type}
theorem Sim.floatArith (op : BinOp) (k : FloatKind) (x y : Nat) : (Sim (alt P fs) P) (Op.floatArith op k x y) := by
  have key : ∀ r : Option Nat, (Sim (alt P fs) P) (match r with
      | some r => (Pure.pure (Value.float k r) : Sem Value)
      | none => do Pure.pure (Value.float k (← Go.choose (.nanBits k x y)))) := fun r => by
    cases r
    · exact Sim.bind (Sim.choose _) fun _ => Sim.pure _
    · exact Sim.pure _
  unfold Op.floatArith
  dsimp only
  cases op <;> first | exact Sim.bind (Sim.pure _) key | exact Sim.bind (Sim.stuck _) key
theorem Sim.floatCmp (op : BinOp) (k : FloatKind) (x y : Nat) : (Sim (alt P fs) P) (Op.floatCmp op k x y) := by
  unfold Op.floatCmp
  cases op <;> first | exact Sim.pure _ | exact Sim.stuck _
theorem Sim.floatToFloat (k : FloatKind) (x : Nat) (k' : FloatKind) : (Sim (alt P fs) P) (Conv.floatToFloat k x k') := by
  unfold Conv.floatToFloat
  repeat' first | exact Sim.pure _ | exact Sim.stuck _ | exact Sim.choose _ | refine Sim.bind ?_ fun _ => ?_ | split | dsimp only
theorem Sim.cxArith (op : BinOp) (k : FloatKind) (x y : Nat) : (Sim (alt P fs) P) (Op.Complex.arith op k x y) := by
  refine Sim.bind (Sim.floatArith _ _ _ _) fun r => ?_
  split <;> first | exact Sim.pure _ | exact Sim.stuck _
theorem Sim.cxCmp (op : BinOp) (k : FloatKind) (x y : Nat) : (Sim (alt P fs) P) (Op.Complex.cmp op k x y) := Sim.bind (Sim.floatCmp _ _ _ _) fun _ => Sim.asBool _
theorem Sim.cxConv (k : FloatKind) (x : Nat) (k' : FloatKind) : (Sim (alt P fs) P) (Op.Complex.conv k x k') := by
  unfold Op.Complex.conv
  split
  · exact Sim.pure _
  · refine Sim.bind (Sim.floatToFloat _ _ _) fun r => ?_
    split <;> first | exact Sim.pure _ | exact Sim.stuck _
theorem Sim.cxProduct (a b c d : Nat) : (Sim (alt P fs) P) (Op.Complex.product a b c d) := by
  unfold Op.Complex.product Op.Complex.mul Op.Complex.sub Op.Complex.add
  repeat' first | exact Sim.pure _ | exact Sim.cxArith _ _ _ _ | refine Sim.bind ?_ fun _ => ?_
theorem Sim.cxCorrected (s a b c d : Nat) : (Sim (alt P fs) P) (Op.Complex.corrected s a b c d) := by
  unfold Op.Complex.corrected Op.Complex.mul Op.Complex.sub Op.Complex.add
  repeat' first | exact Sim.pure _ | exact Sim.cxArith _ _ _ _ | refine Sim.bind ?_ fun _ => ?_
theorem Sim.cxQuotient (a b c d : Nat) : (Sim (alt P fs) P) (Op.Complex.quotient a b c d) := by
  unfold Op.Complex.quotient Op.Complex.mul Op.Complex.sub Op.Complex.add Op.Complex.quo
  dsimp only
  repeat' first | (with_reducible exact Sim.pure _) | (with_reducible exact Sim.cxArith _ _ _ _) | (with_reducible exact Sim.cxCmp _ _ _ _) | (with_reducible exact Sim.cxCorrected _ _ _ _ _) | (with_reducible refine Sim.bind ?_ fun _ => ?_) | split
theorem Sim.complexOp (op : BinOp) (k : FloatKind) (a b c d : Nat) : (Sim (alt P fs) P) (Op.complexOp op k a b c d) := by
  unfold Op.complexOp
  dsimp only
  repeat' first | (with_reducible exact Sim.pure _) | (with_reducible exact Sim.stuck _) | (with_reducible exact Sim.cxArith _ _ _ _) | (with_reducible exact Sim.cxCmp _ _ _ _) | (with_reducible exact Sim.cxConv _ _ _) | (with_reducible exact Sim.cxProduct _ _ _ _) | (with_reducible exact Sim.cxQuotient _ _ _ _) | (with_reducible refine Sim.bind ?_ fun _ => ?_) | split
theorem Sim.stringOp (op : BinOp) (x y : ByteArray) : (Sim (alt P fs) P) (Op.stringOp op x y) := by
  unfold Op.stringOp
  repeat' first | exact Sim.pure _ | exact Sim.stuck _ | exact Sim.unsupported _ | split | dsimp only
theorem Sim.shift (op : BinOp) (k : IntKind) (x : Int) (k' : IntKind) (y : Int) : (Sim (alt P fs) P) (Op.shift op k x k' y) := by
  unfold Op.shift
  repeat' first | exact Sim.pure _ | exact Sim.stuck _ | exact Sim.runtimePanic _ | split | dsimp only
theorem Sim.intArith (op : BinOp) (k : IntKind) (x y : Int) : (Sim (alt P fs) P) (Op.intArith op k x y) := by
  unfold Op.intArith; split <;> first | exact Sim.pure _ | exact Sim.stuck _
theorem Sim.intDiv (op : BinOp) (k : IntKind) (x y : Int) : (Sim (alt P fs) P) (Op.intDiv op k x y) := by
  unfold Op.intDiv
  repeat' first | exact Sim.pure _ | exact Sim.stuck _ | exact Sim.runtimePanic _ | split
theorem Sim.intBits (op : BinOp) (k : IntKind) (x y : Int) : (Sim (alt P fs) P) (Op.intBits op k x y) := by
  unfold Op.intBits
  dsimp only
  split <;> first | exact Sim.pure _ | exact Sim.stuck _
theorem Sim.intCmp (op : BinOp) (x y : Int) : (Sim (alt P fs) P) (Op.intCmp op x y) := by
  unfold Op.intCmp; split <;> first | exact Sim.pure _ | exact Sim.stuck _
/-- Where the type's make is known. -/
theorem Sim.underlyingOf {t : TypeId} {d : TypeDesc} {f : TypeDesc → Sem α} (hu : P.underlying t = some d) (h : (Sim (alt P fs) P) (f d)) : (Sim (alt P fs) P) (Go.underlying t >>= f) := by
  have e : (Go.underlying t >>= f) = (Go.program >>= fun p => (match p.underlying t with | some d => Pure.pure d | none => Go.stuck "no such type" : Sem TypeDesc) >>= f) := rfl
  rw [e]
  refine Sim.ask rfl ?_
  rw [hu]
  exact h
theorem Sim.unsupportedThen (u : Unsupported) (f : α → Sem β) : (Sim (alt P fs) P) ((Go.unsupported u : Sem α) >>= f) := fun _ wp _ => .inr ⟨.unsupported u, wp, rfl, trivial⟩
theorem Sim.unsafeAdd (a : Array TypeId) (t : TypeId) (x y : Value) : (Sim (alt P fs) P) (Builtin.unsafeAdd_ a t #[x, y]) := by
  cases x with
  | pointer ptr =>
    refine Sim.bind (Sim.asInt y) fun n => ?_
    dsimp only
    split
    · cases ptr with
      | none => exact Sim.unsupportedThen _ _
      | some ad => exact Sim.viewIs (g := fun b => if b then (Go.unsupported (.unsafePointer "Add: at a place where no cell lies") >>= fun _ => Pure.pure (Value.pointer (some ad))) else Pure.pure (Value.pointer (some ad))) ad.block (fun b => by cases b <;> first | exact Sim.pure _ | exact Sim.bind (Sim.unsupported _) fun _ => Sim.pure _)
    · split
      · exact Sim.unsupportedThen _ _
      · cases ptr with
        | none => exact Sim.unsupported _
        | some a =>
          refine Sim.shape _ (Falls.unsupported _) fun x => ?_
          dsimp only
          refine Sim.ask (by simp only [cellAtBytes_alt]; rfl) ?_
          split <;> first | exact Sim.pure _ | exact Sim.unsupported _
  | _ => exact Sim.stuck _
theorem Sim.movedNumber {t : TypeId} (x y : Value) : (Sim (alt P fs) P) (Go.movedNumber t x y) := by
  unfold Go.movedNumber
  dsimp only
  refine Sim.bind (Sim.underlying t) fun d => ?_
  repeat' first
    | (with_reducible exact Sim.unsupportedThen _ _)
    | (with_reducible exact Sim.unsafeAdd _ _ _ _)
    | (with_reducible exact Sim.asNumber _ _)
    | (with_reducible exact Sim.pure _)
    | (with_reducible refine Sim.bind (Sim.behindNumber _) fun _ => ?_)
    | (with_reducible refine Sim.bind (Sim.unsafeAdd _ _ _ _) fun _ => ?_)
    | split
    | dsimp only
theorem Sim.movedPointer {t : TypeId} (x y : Value) : (Sim (alt P fs) P) (Go.movedPointer t x y) := by
  unfold Go.movedPointer
  dsimp only
  split
  · refine Sim.bind (Sim.numberAt _) fun z => ?_
    split
    · exact Sim.unsupportedThen _ _
    · exact Sim.unsafeAdd _ _ _ _
  · exact Sim.unsafeAdd _ _ _ _
theorem Sim.twoPlaces (a b : Addr) : (Sim (alt P fs) P) (Op.twoPlaces a b) := by
  unfold Op.twoPlaces
  dsimp only
  refine Sim.ask rfl ?_
  split
  · exact Sim.unsupportedThen _ _
  · exact Sim.bind (Sim.byteOf _) fun _ => Sim.bind (Sim.byteOf _) fun _ => Sim.pure _
theorem Sim.addrSub (k : IntKind) (a b : Addr) : (Sim (alt P fs) P) (Op.addrSub k a b) := Sim.bind (Sim.twoPlaces a b) fun _ => Sim.pure _
theorem Sim.addrCmp (op : BinOp) (a b : Addr) : (Sim (alt P fs) P) (Op.addrCmp op a b) := by
  refine Sim.bind (Sim.twoPlaces a b) fun _ => ?_
  dsimp only
  split <;> first | exact Sim.pure _ | exact Sim.unsupported _
theorem Sim.addrMod (k : IntKind) (a : Addr) (n : Int) : (Sim (alt P fs) P) (Op.addrMod k a n) := by
  unfold Op.addrMod
  refine Sim.shape _ (Falls.unsupported _) fun x => ?_
  dsimp only
  refine Sim.bind (Sim.typeInfo _) fun i => ?_
  split
  · exact Sim.unsupportedThen _ _
  · exact Sim.bind (Sim.byteOf _) fun _ => Sim.pure _
/-- The types whose values are compared here. -/
def PlainType (P : Program) (t : TypeId) : Prop := (∃ k, P.underlying t = some (.int k)) ∨ P.underlying t = some .bool
theorem Sim.equalIn {t : TypeId} (ht : PlainType P t) (d : Nat) (x y : Value) : (Sim (alt P fs) P) (Op.equalIn d t x y) := by
  cases d with
  | zero => exact Sim.unsupported _
  | succ d =>
    unfold Op.equalIn
    rcases ht with ⟨k, hk⟩ | hk
    · refine Sim.underlyingOf hk ?_
      dsimp only
      split <;> first
        | exact Sim.stuck _
        | exact Sim.pure _
        | exact Sim.unsupported _
        | (rename_i h; cases h; done)
        | (split <;> first | exact Sim.pure _ | exact Sim.stuck _; done)
        | skip
      rename_i a b h _
      refine Sim.bind (Sim.behindNumber _) fun _ => Sim.bind (Sim.behindNumber _) fun _ => ?_
      refine Sim.ask rfl ?_
      split
      · exact Sim.bind (Sim.byteOf _) fun _ => Sim.bind (Sim.byteOf _) fun _ => Sim.pure _
      · refine Sim.bind (Sim.typeInfo _) fun i => ?_
        split
        · split <;> first | exact Sim.pure _ | exact Sim.unsupported _
        · exact Sim.unsupported _
    · refine Sim.underlyingOf hk ?_
      dsimp only
      split <;> first
        | exact Sim.stuck _
        | exact Sim.pure _
        | exact Sim.unsupported _
        | (rename_i h; cases h; done)
        | skip
theorem Sim.eqGuardIn {t : TypeId} (ht : PlainType P t) (d : Nat) (x y : Value) : (Sim (alt P fs) P) (Op.eqGuardIn d t x y) := by
  cases d with
  | zero => exact Sim.unsupported _
  | succ d =>
    unfold Op.eqGuardIn
    rcases ht with ⟨k, hk⟩ | hk
    · refine Sim.underlyingOf hk ?_
      dsimp only
      exact Sim.pure _
    · refine Sim.underlyingOf hk ?_
      dsimp only
      exact Sim.pure _
theorem Sim.eqGuard {t : TypeId} (ht : PlainType P t) (op : BinOp) (x y : Operand) (a b : Value) : (Sim (alt P fs) P) (Go.eqGuard op t x y a b) := by
  have h3 : ∀ (s : Sem Unit), (Sim (alt P fs) P) s → ∀ c : Bool, (Sim (alt P fs) P) (if c = true then Pure.pure () else s) := fun s hs c => by cases c; exact hs; exact Sim.pure _
  have last : ∀ u : Unsupported, (Sim (alt P fs) P) (do if ← Op.eqGuardIn Op.maxDepth t a b then Go.unsupported u) := fun u => by
    refine Sim.bind (Sim.eqGuardIn ht _ _ _) fun c => ?_
    split <;> first | exact Sim.pure _ | exact Sim.unsupported _
  unfold Go.eqGuard
  refine h3 _ ?_ _
  split
  · exact h3 _ (last _) _
  · refine Sim.ask ?_ ?_
    · have e : ∀ d t, (alt P fs).eqGuardType d t = P.eqGuardType d t := by
        intro d
        induction d with
        | zero => intro t; rfl
        | succ d ih =>
          intro t
          unfold Program.eqGuardType
          have e : (alt P fs).underlying t = P.underlying t := rfl
          rw [e]
          cases P.underlying t with
          | none => rfl
          | some x => cases x <;> simp only [ih]
      simp only [e]
    · refine Sim.ask rfl ?_
      exact h3 _ (last _) _
  · exact Sim.pure _
theorem Sim.equal {t : TypeId} (ht : PlainType P t) (x y : Value) : (Sim (alt P fs) P) (Op.equal t x y) := Sim.equalIn ht _ x y
theorem Sim.binOp {t : TypeId} (ht : PlainType P t) (op : BinOp) (x y : Value) : (Sim (alt P fs) P) (Go.binOp op t x y) := by
  unfold Go.binOp
  split <;> first
    | exact Sim.shift _ _ _ _ _
    | exact Sim.stringOp _ _ _
    | exact Sim.bind (Sim.equal ht _ _) fun _ => Sim.pure _
    | exact Sim.movedNumber _ _
    | exact Sim.unsupported _
    | exact Sim.stuck _
    | exact Sim.bind (Sim.behindNumber _) fun _ => Sim.bind (Sim.behindNumber _) fun _ => Sim.addrSub _ _ _
    | exact Sim.bind (Sim.behindNumber _) fun _ => Sim.bind (Sim.behindNumber _) fun _ => Sim.addrCmp _ _ _
    | exact Sim.bind (Sim.behindNumber _) fun _ => Sim.addrMod _ _ _
    | (split
       · exact Sim.stuck _
       · first
         | exact Sim.complexOp _ _ _ _ _ _
         | (split <;> first | exact Sim.intArith _ _ _ _ | exact Sim.intDiv _ _ _ _ | exact Sim.intBits _ _ _ _ | exact Sim.intCmp _ _ _ | exact Sim.floatArith _ _ _ _ | exact Sim.floatCmp _ _ _ _)
       done)
    | (refine Sim.bind (Sim.underlying _) fun _ => ?_
       split <;> first | exact Sim.movedPointer _ _ | exact Sim.movedNumber _ _
       done)
    | skip
theorem Sim.unary (op : UnOp) (x : Value) : (Sim (alt P fs) P) (Op.unary op x) := by
  unfold Op.unary
  split <;> first | exact Sim.intArith _ _ _ _ | exact Sim.intBits _ _ _ _ | exact Sim.pure _ | exact Sim.unsupported _ | exact Sim.stuck _
theorem Sim.floatToInt (s : FloatKind) (b : Nat) (k : IntKind) : (Sim (alt P fs) P) (Conv.floatToInt s b k) := by
  unfold Conv.floatToInt
  dsimp only
  split
  · split
    · exact Sim.pure _
    · exact Sim.bind (Sim.choose _) fun _ => Sim.pure _
  · exact Sim.bind (Sim.choose _) fun _ => Sim.pure _
/-- From a kind of whole numbers to another. -/
theorem Sim.convert {s d : TypeId} {k k' : IntKind} (hs : P.underlying s = some (.int k)) (hd : P.underlying d = some (.int k')) (x : Value) : (Sim (alt P fs) P) (Go.convert s d x) := by
  unfold Go.convert
  refine Sim.underlyingOf hs (Sim.underlyingOf hd ?_)
  split <;> first
    | exact Sim.pure _
    | exact Sim.floatToInt _ _ _
    | exact Sim.unsupported _
    | exact nomatch (‹TypeDesc.int k = TypeDesc.slice _›)
    | exact nomatch (‹TypeDesc.int k = TypeDesc.unsafePointer›)
    | exact nomatch (‹TypeDesc.int k' = TypeDesc.unsafePointer›)
    | (rename_i h _; cases h; done)
    | (rename_i h; cases h; done)
    | skip
end
end Go.Tw
end

section
namespace Go.Tw
open Go.Op
section
variable {P : Program} {fs : Array Func} {α β : Type}
theorem Sim.followBlind : ∀ (l : List FieldStep) (t : TypeId) (x : Option Value), (Sim (alt P fs) P) (Go.followBlind l t x)
  | [], _, _ => Sim.pure _
  | s :: rest, t, x => by
    unfold Go.followBlind
    refine Sim.bind (Sim.underlying _) fun d => ?_
    split
    · split
      · split <;> first
          | exact Sim.pure _
          | exact Sim.followBlind rest _ _
          | exact Sim.stuck _
          | exact Sim.bind (Sim.part _ _ _) fun _ => Sim.followBlind rest _ _
      · exact Sim.stuck _
    · exact Sim.stuck _
theorem Sim.nilAhead : ∀ (n : Nat) (t : TypeId) (v : Value) (name : String), (Sim (alt P fs) P) (Go.nilAhead n t v name)
  | 0, _, _, _ => Sim.pure _
  | n + 1, t, v, name => by
    unfold Go.nilAhead
    refine Sim.bind (Sim.typeInfo _) fun i => ?_
    split
    · refine Sim.bind (Sim.followBlind _ _ _) fun r => ?_
      split
      · exact Sim.pure _
      · split <;> first
          | exact Sim.nilAhead n _ _ _
          | exact Sim.pure _
          | exact Sim.stuck _
          | (refine Sim.bind (Sim.underlying _) fun _ => ?_
             split <;> exact Sim.pure _
             done)
    · exact Sim.stuck _
theorem Sim.placeGet (t : TypeId) (x : Go.Place) : (Sim (alt P fs) P) (x.get t) := by cases x; exact Sim.pure _; exact Sim.loadVar _ _
theorem Sim.follow : ∀ (l : List FieldStep) (t : TypeId) (x : Go.Place), (Sim (alt P fs) P) (Go.follow l t x)
  | [], _, _ => Sim.pure _
  | s :: rest, t, x => by
    unfold Go.follow
    refine Sim.bind (Sim.underlying _) fun d => ?_
    split
    · split
      · split
        · exact Sim.bind (Sim.placeGet _ _) fun _ => Sim.bind (Sim.asAddr _) fun _ => Sim.bind (Sim.fieldPlace _ _) fun _ => Sim.follow rest _ _
        · split <;> first
            | exact Sim.bind (Sim.fieldPlace _ _) fun _ => Sim.follow rest _ _
            | exact Sim.bind (Sim.part _ _ _) fun _ => Sim.follow rest _ _
            | exact Sim.stuck _
      · exact Sim.stuck _
    · exact Sim.stuck _
theorem Sim.wrapNilChk (t : TypeId) (p : Value) (s m : ByteArray) : (Sim (alt P fs) P) (Builtin.ssaWrapNilChk_ #[t] t #[p, .string s, .string m]) := by
  cases p with
  | pointer a =>
    cases a with
    | some a => exact Sim.pure _
    | none =>
      refine Sim.bind (Sim.choose _) fun _ => ?_
      dsimp only
      split
      · refine Sim.bind (Sim.runtimePanic _) fun _ => ?_
        refine Sim.bind (Sim.underlying _) fun _ => ?_
        split
        · refine Sim.bind (Sim.typeInfo _) fun _ => ?_
          split
          · split
            · (try dsimp only)
              split <;> first | exact Sim.runtimePanic _ | exact Sim.unsupported _
            · exact Sim.stuck _
          · exact Sim.stuck _
        · exact Sim.stuck _
      · refine Sim.bind (Sim.underlying _) fun _ => ?_
        split
        · refine Sim.bind (Sim.typeInfo _) fun _ => ?_
          split
          · split
            · (try dsimp only)
              split <;> first | exact Sim.runtimePanic _ | exact Sim.unsupported _
            · exact Sim.stuck _
          · exact Sim.stuck _
        · exact Sim.stuck _
  | _ => exact Sim.stuck _
theorem Sim.receiverAt (t : TypeId) (x : Go.Place) (p : Bool) (w : Option String) : (Sim (alt P fs) P) (Go.receiverAt t x p w) := by
  unfold Go.receiverAt
  refine Sim.bind (Sim.underlying _) fun d => ?_
  split
  · exact Sim.placeGet _ _
  · refine Sim.bind (Sim.placeGet _ _) fun v => ?_
    cases w with
    | none => exact Sim.bind (Sim.pure _) fun _ => Sim.bind (Sim.asAddr _) fun _ => Sim.loadVar _ _
    | some name => exact Sim.bind (Sim.wrapNilChk _ _ _ _) fun _ => Sim.bind (Sim.asAddr _) fun _ => Sim.loadVar _ _
  · exact Sim.pure _
  · exact Sim.stuck _
  · exact Sim.placeGet _ _
theorem Sim.receiverVia (t : TypeId) (v : Value) (path : Array FieldStep) (p : Bool) : (Sim (alt P fs) P) (Go.receiverVia t v path p) :=
  Sim.bind (Sim.follow _ _ _) fun _ => Sim.receiverAt _ _ _ _
theorem Sim.method : ∀ (n : Nat) (t : TypeId) (v : Value) (name : String), (Sim (alt P fs) P) (Go.method n t v name)
  | 0, _, _, _ => Sim.unsupported _
  | n + 1, t, v, name => by
    unfold Go.method
    refine Sim.bind (Sim.typeInfo _) fun i => ?_
    split
    · refine Sim.bind (Sim.follow _ _ _) fun r => ?_
      dsimp only
      split
      · refine Sim.bind (Sim.placeGet _ _) fun y => ?_
        split <;> first | exact Sim.method n _ _ _ | exact Sim.runtimePanic _ | exact Sim.stuck _
      · exact Sim.bind (Sim.receiverAt _ _ _ _) fun _ => Sim.pure _
    · exact Sim.stuck _
theorem Sim.fieldAt (s : TypeId) (a : Value) (f : Nat) : (Sim (alt P fs) P) (Instr.fieldAt s a f) := by
  refine Sim.bind (Sim.underlying _) fun d => ?_
  split
  · split
    · exact Sim.bind (Sim.sureAddr _) fun _ => Sim.bind (Sim.fieldPlace _ _) fun _ => Sim.pure _
    · exact Sim.stuck _
  · exact Sim.stuck _
theorem Sim.indexAt (t : TypeId) (x ix : Value) : (Sim (alt P fs) P) (Instr.indexAt t x ix) := by
  unfold Instr.indexAt
  refine Sim.bind (Sim.asIntOf _) fun ki => ?_
  dsimp only
  refine Sim.bind (Sim.underlying _) fun d => ?_
  split
  · refine Sim.bind (Sim.sureAddr _) fun _ => Sim.bind (Sim.pure _) fun r => ?_
    obtain ⟨base, len, elem⟩ := r
    refine Sim.bind (Sim.underlying _) fun d => ?_
    repeat' first | (with_reducible exact Sim.unsupported _) | (with_reducible exact Sim.boundsPanic _ _ _ _) | (with_reducible exact Sim.bind (Sim.sizeOf _) fun _ => Sim.pure _) | split | dsimp only
  · refine Sim.bind (Sim.pure _) fun r => ?_
    obtain ⟨base, len, elem⟩ := r
    refine Sim.bind (Sim.underlying _) fun d => ?_
    repeat' first | (with_reducible exact Sim.unsupported _) | (with_reducible exact Sim.boundsPanic _ _ _ _) | (with_reducible exact Sim.bind (Sim.sizeOf _) fun _ => Sim.pure _) | split | dsimp only
  · refine Sim.bind (Sim.stuck _) fun r => ?_
    obtain ⟨base, len, elem⟩ := r
    refine Sim.bind (Sim.underlying _) fun d => ?_
    repeat' first | (with_reducible exact Sim.unsupported _) | (with_reducible exact Sim.boundsPanic _ _ _ _) | (with_reducible exact Sim.bind (Sim.sizeOf _) fun _ => Sim.pure _) | split | dsimp only
theorem Sim.sliceBound (x : Value) (y : Nat) (c : BoundsCode) : (Sim (alt P fs) P) (Instr.sliceBound x y c) := by
  refine Sim.bind (Sim.asIntOf _) fun ki => ?_
  dsimp only
  split
  · exact Sim.pure _
  · exact Sim.boundsPanic _ _ _ _
theorem Sim.sliceBounds (b : Bool) (len cap : Nat) (lo hi mx : Option Value) : (Sim (alt P fs) P) (Instr.sliceBounds b len cap lo hi mx) := by
  unfold Instr.sliceBounds
  dsimp only
  cases mx <;> cases hi <;> cases lo <;> dsimp only <;>
    repeat' first | (with_reducible exact Sim.pure _) | (with_reducible exact Sim.stuck _) | (with_reducible exact Sim.sliceBound _ _ _) | (with_reducible refine Sim.bind ?_ fun _ => ?_)
theorem Sim.slice (t : TypeId) (x : Value) (lo hi mx : Option Value) : (Sim (alt P fs) P) (Instr.slice t x lo hi mx) := by
  unfold Instr.slice
  refine Sim.bind (Sim.underlying _) fun d => ?_
  split
  · dsimp only
    split
    · exact Sim.bind (Sim.stuck _) fun _ => Sim.bind (Sim.sliceBounds _ _ _ _ _ _) fun _ => Sim.pure _
    · exact Sim.bind (Sim.sliceBounds _ _ _ _ _ _) fun _ => Sim.pure _
  · exact Sim.bind (Sim.sliceBounds _ _ _ _ _ _) fun _ => Sim.bind (Sim.sizeOf _) fun _ => Sim.pure _
  · refine Sim.bind (Sim.asAddr _) fun _ => Sim.bind (Sim.underlying _) fun _ => ?_
    split
    · exact Sim.bind (Sim.sliceBounds _ _ _ _ _ _) fun _ => Sim.bind (Sim.sizeOf _) fun _ => Sim.pure _
    · exact Sim.stuck _
  · exact Sim.stuck _
theorem Sim.sliceAt (t : TypeId) (x : Value) (lo hi mx : Option Value) : (Sim (alt P fs) P) (Instr.sliceAt t x lo hi mx) := by
  unfold Instr.sliceAt
  refine Sim.bind (Sim.underlying _) fun d => ?_
  split
  · exact Sim.bind (Sim.sureAddr _) fun _ => Sim.bind (Sim.sliceBounds _ _ _ _ _ _) fun _ => Sim.bind (Sim.sizeOf _) fun _ => Sim.pure _
  · exact Sim.slice _ _ _ _ _
theorem Sim.makeSlice (t : TypeId) (l c : Value) : (Sim (alt P fs) P) (Instr.makeSlice t l c) := by
  unfold Instr.makeSlice
  refine Sim.bind (Sim.underlying _) fun d => ?_
  split
  · refine Sim.bind (Sim.asInt _) fun l => Sim.bind (Sim.asInt _) fun c => Sim.bind (Sim.typeInfo _) fun i => ?_
    dsimp only
    repeat' first
      | (with_reducible exact Sim.askRoom _)
      | (with_reducible exact Sim.sizeOf _)
      | (with_reducible exact Sim.pure _)
      | (with_reducible exact Sim.newRow _ _)
      | (with_reducible exact Sim.zeroValue _)
      | (with_reducible exact Sim.runtimePanic _)
      | (with_reducible exact Sim.choose _)
      | (with_reducible refine Sim.bind ?_ fun _ => ?_)
      | split
      | dsimp only
  · exact Sim.stuck _
end
end Go.Tw
end

section
namespace Go.Tw
open Go.Op
section
variable {P : Program} {fs : Array Func} {α β : Type}
theorem Sim.lenOf (x : Value) : (Sim (alt P fs) P) (Builtin.lenOf x) := by unfold Builtin.lenOf; split <;> first | exact Sim.pure _ | exact Sim.stuck _
theorem Sim.firstCells (size n : Nat) (x : Value) : (Sim (alt P fs) P) (Builtin.firstCells size n x) := by
  unfold Builtin.firstCells
  split <;> first | exact Sim.loadCells _ _ | exact Sim.pure _ | exact Sim.stuck _
/-- What asks of a row's shape and of nothing else comes to an answer, and turns nothing. -/
def Looks (Pp : Program) {α : Type} (s : Sem α) : Prop := ∀ wp, ∃ a, s.run Pp wp = .ok a wp
theorem Looks.pure {Pp : Program} (a : α) : Looks Pp (Pure.pure a : Sem α) := fun _ => ⟨a, rfl⟩
theorem Looks.shape {Pp : Program} (r : Nat) : Looks Pp (Go.shape r) := fun wp => ⟨wp.shape? r, rfl⟩
theorem Looks.frozen {Pp : Program} (a : Addr) : Looks Pp (Go.frozen a) := fun wp => ⟨wp.frozen? a, rfl⟩
theorem Looks.bind {Pp : Program} {s : Sem α} {f : α → Sem β} (hs : Looks Pp s) (hf : ∀ a, Looks Pp (f a)) : Looks Pp (s >>= f) := fun wp => by
  obtain ⟨a, ha⟩ := hs wp
  obtain ⟨b, hb⟩ := hf a wp
  exact ⟨b, (run_bind_ok ha).trans hb⟩
theorem Looks.holdsCells {Pp : Program} (a : Addr) (n : Nat) : Looks Pp (Builtin.holdsCells a n) := by
  refine Looks.bind (Looks.shape _) fun x => ?_
  split <;> exact Looks.pure _
theorem Looks.mayShare {Pp : Program} (size sLen n : Nat) (b : Option Addr) (x : Value) : Looks Pp (Builtin.mayShare size sLen n b x) := by
  unfold Builtin.mayShare
  have rest : ∀ c : Bool, Looks Pp (if (!c) = true then (Pure.pure true : Sem Bool) else match x with
      | .slice (some b') _ _ => do Pure.pure (!(← Builtin.holdsCells b' (n * size)) || b.any (·.block == b'.block))
      | _ => Pure.pure false) := fun c => by
    split
    · exact Looks.pure _
    · split
      · exact Looks.bind (Looks.holdsCells _ _) fun _ => Looks.pure _
      · exact Looks.pure _
  dsimp only
  split
  · exact Looks.bind (Looks.pure _) fun c => rest _
  · exact Looks.bind (Looks.holdsCells _ _) fun _ => Looks.bind (Looks.frozen _) fun _ => Looks.bind (Looks.pure _) fun c => rest _
theorem Falls.looked {Pp : Program} {s : Sem α} {f : α → Sem β} (hs : Looks Pp s) (hf : ∀ a, Falls Pp (f a)) : Falls Pp (s >>= f) := fun wp => by
  obtain ⟨a, ha⟩ := hs wp
  obtain ⟨h, wp', h1, h2⟩ := hf a wp
  exact ⟨h, wp', (run_bind_ok ha).trans h1, h2⟩
theorem Looks.room {Pp : Program} : Looks Pp (Go.mark .noRoom) := fun _ => ⟨(), rfl⟩
theorem Falls.then {Pp : Program} {s : Sem α} {f : α → Sem β} (hs : Falls Pp s) : Falls Pp (s >>= f) := fun wp => by
  obtain ⟨h, wp', h1, h2⟩ := hs wp
  exact ⟨h, wp', run_bind_halt h1, h2⟩
set_option maxHeartbeats 8000000 in
theorem Sim.append (ts : Array TypeId) (t : TypeId) (args : Array Value) : (Sim (alt P fs) P) (Builtin.append_ ts t args) := by
  have noRoom : ∀ (size sLen n : Nat) (b : Option Addr) (x : Value) (u : Unsupported), (Sim (alt P fs) P) (Builtin.mayShare size sLen n b x >>= fun c => if (!c) = true then (Go.mark .noRoom >>= fun _ => (Go.unsupported u : Sem Unit)) else Go.unsupported u) := fun size sLen n b x u => by
    refine Falls.sim (Falls.looked (Looks.mayShare _ _ _ _ _) fun c => ?_)
    split
    · exact Falls.looked Looks.room fun _ => Falls.unsupported _
    · exact Falls.unsupported _
  unfold Builtin.append_
  dsimp only
  repeat' first
    | (with_reducible exact Sim.pure _)
    | (with_reducible exact Sim.stuck _)
    | (with_reducible exact Sim.runtimePanic _)
    | (with_reducible exact Sim.choose _)
    | (with_reducible exact Sim.askRoom _)
    | (with_reducible exact noRoom _ _ _ _ _ _)
    | (with_reducible exact Sim.firstCells _ _ _)
    | (with_reducible exact Sim.lenOf _)
    | (with_reducible exact Sim.asInt _)
    | (with_reducible exact Sim.zeroValue _)
    | (with_reducible exact Sim.typeInfo _)
    | (with_reducible exact Sim.sizeOf _)
    | (with_reducible exact Sim.underlying _)
    | (with_reducible exact Sim.newRow _ _)
    | (with_reducible exact Sim.storeCells _ _ _)
    | (with_reducible refine Sim.bind ?_ fun _ => ?_)
    | split
  all_goals (rename_i b; cases b)
  all_goals (simp only [Bool.false_eq_true, reduceIte, Bool.not_true, Bool.not_false])
  repeat' first
    | (with_reducible exact Sim.pure _)
    | (with_reducible exact Sim.stuck _)
    | (with_reducible exact Sim.runtimePanic _)
    | (with_reducible exact Sim.choose _)
    | (with_reducible exact Sim.askRoom _)
    | (with_reducible exact noRoom _ _ _ _ _ _)
    | (with_reducible exact Sim.firstCells _ _ _)
    | (with_reducible exact Sim.lenOf _)
    | (with_reducible exact Sim.asInt _)
    | (with_reducible exact Sim.zeroValue _)
    | (with_reducible exact Sim.typeInfo _)
    | (with_reducible exact Sim.sizeOf _)
    | (with_reducible exact Sim.underlying _)
    | (with_reducible exact Sim.newRow _ _)
    | (with_reducible exact Sim.storeCells _ _ _)
    | (with_reducible refine Sim.bind ?_ fun _ => ?_)
    | (with_reducible exact noRoom _ _ _ _ _ _)
    | (with_reducible exact Sim.firstCells _ _ _)
    | (with_reducible exact Sim.unsupportedThen _ _)
    | split
    | simp only [Bool.false_eq_true, if_false, if_true, reduceIte, Bool.not_true, Bool.not_false]
end
end Go.Tw
end

section
namespace Go.Tw
open Go.Op
/-- The operations that are meant. -/
def okOp (P : Program) : Op → Bool
  | .move _ | .assign _ | .pick .. | .alloc _ | .box .. | .build .. | .buildSlice .. | .load .. | .store .. | .unOp .. | .fieldAddr .. | .indexAddr .. | .makeSlice .. | .slice .. | .makeInterface .. | .extract .. | .nilCheck _ | .makeFunc .. => true
  | .makeMap _ r => r.isNone
  | .binOp op t _ y _ =>
    match P.underlying t with
    | some (.int _) | some .bool => true
    | some (.interface _) => (match y with | .const .nilIface => true | _ => false) && (match op with | .eql | .neq => true | _ => false)
    | _ => false
  | .convert s d _ =>
    match P.underlying s, P.underlying d with
    | some (.int _), some (.int _) => true
    | _, _ => false
  | .call c =>
    match c.callee with
    | .builtin .len =>
      match c.argTypes[0]? with
      | some t => (match P.underlying t with | some (.slice _) | some .string => true | _ => false)
      | none => true
    | .builtin .append => true
    | .builtin _ => false
    | _ => true
  | _ => false
def Plain (Pp : Program) (a : Next) : Prop := (∃ v, a = .value v) ∨ a = .skip ∨ ∃ f args, a = .enter f args ∧ ∃ fn : Func, Pp.funcs[f]? = some fn
/-- Such a function has a text. -/
def HasBody (P : Program) (f : Nat) : Prop := ∃ fn : Func, P.funcs[f]? = some fn ∧ fn.body.isNone = false ∧ (fn.name == "runtime.NumGoroutine") = false
def SimN (Pp P : Program) (s : Sem Next) : Prop :=
  ∀ (S : Nat → Prop) (wp : World), (∃ w, HRel S wp w) →
    (∃ a wp', s.run Pp wp = .ok a wp' ∧ wp.drawn ≤ wp'.drawn ∧ Plain Pp a ∧ (SameAs P S s wp a wp' ∨ ∃ f args, a = .enter f args ∧ ¬ HasBody P f)) ∨
    (∃ h wp', s.run Pp wp = .halt h wp' ∧ BadHalt h)
section
variable {P : Program} {fs : Array Func} {α β : Type}
theorem Sim.toN {s : Sem Next} (hs : (Sim (alt P fs) P) s) (hp : ∀ wp a wp', s.run (alt P fs) wp = .ok a wp' → Plain (alt P fs) a) : (SimN (alt P fs) P) s := by
  intro S wp hw
  rcases hs S wp hw with ⟨a, wp', h1, h2, h3⟩ | h
  · exact .inl ⟨a, wp', h1, h2, hp wp a wp' h1, .inl h3⟩
  · exact .inr h
theorem run_map_ok {p : Program} {s : Sem α} {f : α → β} {w w' : World} {b : β} (h : Sem.run p (s >>= fun a => Pure.pure (f a)) w = .ok b w') : ∃ a, b = f a := by
  change Sem.run p (s.bind fun a => Pure.pure (f a)) w = _ at h
  rw [Sem.run_bind'] at h
  cases hs : s.run p w with
  | ok a w1 => rw [hs] at h; injection h with h1 h2; exact ⟨a, h1.symm⟩
  | halt x w1 => rw [hs] at h; cases h
theorem Sim.value {s : Sem Value} (hs : (Sim (alt P fs) P) s) : (SimN (alt P fs) P) (s >>= fun v => Pure.pure (Next.value v)) :=
  Sim.toN (Sim.bind hs fun _ => Sim.pure _) fun _ _ _ h => let ⟨v, e⟩ := run_map_ok h; .inl ⟨v, e⟩
theorem Sim.skip {s : Sem Unit} (hs : (Sim (alt P fs) P) s) : (SimN (alt P fs) P) (s >>= fun _ => Pure.pure Next.skip) :=
  Sim.toN (Sim.bind hs fun _ => Sim.pure _) fun _ _ _ h => let ⟨_, e⟩ := run_map_ok h; .inr (.inl e)
theorem SimN.bind {s : Sem α} {f : α → Sem Next} (hs : (Sim (alt P fs) P) s) (hf : ∀ a, (SimN (alt P fs) P) (f a)) : (SimN (alt P fs) P) (s >>= f) := by
  intro S wp hw
  rcases hs S wp hw with ⟨a, wp', hr, hd, hF⟩ | ⟨h, wp', hr, hb⟩
  · rcases hf a S wp' (hF.rel hw) with ⟨b, wp'', hr', hd', hp, hF'⟩ | ⟨h, wp'', hr', hb⟩
    · exact .inl ⟨b, wp'', (run_bind_ok hr).trans hr', Nat.le_trans hd hd', hp, hF'.imp (fun h => hF.bind h hd') id⟩
    · exact .inr ⟨h, wp'', (run_bind_ok hr).trans hr', hb⟩
  · exact .inr ⟨h, wp', run_bind_halt hr, hb⟩
theorem SimN.pureValue (v : Value) : (SimN (alt P fs) P) (Pure.pure (.value v)) := Sim.toN (Sim.pure _) fun wp a wp' h => by cases h; exact .inl ⟨v, rfl⟩
theorem SimN.stuck (s : String) : (SimN (alt P fs) P) (Go.stuck s) := fun _ wp _ => .inr ⟨_, wp, rfl, trivial⟩
theorem noOk_bind {p : Program} {s : Sem α} {f : α → Sem β} (hf : ∀ a wp b wp', (f a).run p wp ≠ .ok b wp') (wp : World) (b : β) (wp' : World) : (s >>= f).run p wp ≠ .ok b wp' := by
  intro h
  change Sem.run p (s.bind f) wp = _ at h
  rw [Sem.run_bind'] at h
  cases hs : s.run p wp with
  | ok a w1 => rw [hs] at h; exact hf a w1 b wp' h
  | halt x w1 => rw [hs] at h; cases h
theorem noOk_panic {p : Program} (v : Value) (wp : World) (b : α) (wp' : World) : (Go.goPanic v : Sem α).run p wp ≠ .ok b wp' := fun h => by cases h
theorem SimN.runtimePanic (e : RuntimeError) : (SimN (alt P fs) P) (Go.runtimePanic e) := by
  refine Sim.toN (Sim.runtimePanic e) fun wp a wp' h => absurd h ?_
  unfold Go.runtimePanic
  refine noOk_bind (fun p wp b wp' => ?_) wp a wp'
  cases e <;> first
    | exact noOk_panic _ _ _ _
    | exact noOk_bind (fun _ => noOk_bind fun _ => noOk_panic _) _ _ _
theorem Sim.len (ts : Array TypeId) (t : TypeId) (args : Array Value) (h : ∀ u, ts[0]? = some u → (∃ e, P.underlying u = some (.slice e)) ∨ P.underlying u = some .string) : (Sim (alt P fs) P) (Builtin.len_ ts t args) := by
  unfold Builtin.len_
  split
  · rename_i u x heq
    have hu := h u (by simpa using (Prod.mk.inj heq).1)
    rcases hu with ⟨e, he⟩ | he
    · refine Sim.underlyingOf he ?_
      split <;> first
        | exact Sim.pure _
        | exact Sim.stuck _
        | exact nomatch ‹TypeDesc.slice e = _›
        | (rename_i h; cases h; done)
        | (rename_i h _; cases h; done)
    · refine Sim.underlyingOf he ?_
      split <;> first
        | exact Sim.pure _
        | exact Sim.stuck _
        | exact nomatch ‹TypeDesc.string = _›
        | (rename_i h; cases h; done)
        | (rename_i h _; cases h; done)
  · exact Sim.stuck _
theorem Sim.build (t : TypeId) (parts : Array (Nat × Value)) : (Sim (alt P fs) P) (Instr.build t parts) := by
  unfold Instr.build
  dsimp only
  refine Sim.bind (Sim.zeroValue _) fun z => Sim.bind (Sim.underlying _) fun d => ?_
  split
  · refine Sim.bind (Sim.arrayMapM (fun f => Sim.bind (Sim.sizeOf _) fun _ => Sim.pure _) _) fun pl => ?_
    split <;> first | exact Sim.pure _ | exact Sim.stuck _
  · refine Sim.bind (Sim.sizeOf _) fun n => ?_
    split <;> first | exact Sim.pure _ | exact Sim.stuck _
  · exact Sim.stuck _
theorem Sim.buildSlice (t : TypeId) (len : Nat) (parts : Array (Nat × Value)) : (Sim (alt P fs) P) (Instr.buildSlice t len parts) := by
  unfold Instr.buildSlice
  dsimp only
  repeat' first
    | (with_reducible exact Sim.pure _)
    | (with_reducible exact Sim.stuck _)
    | (with_reducible exact Sim.unsupportedThen _ _)
    | (with_reducible exact Sim.underlying _)
    | (with_reducible exact Sim.sizeOf _)
    | (with_reducible exact Sim.zeroValue _)
    | (with_reducible exact Sim.newRow _ _)
    | (with_reducible refine Sim.bind ?_ fun _ => ?_)
    | split
/-- Each function has a text here, and none is the count of goroutines. -/
def AllBodies (fs : Array Func) : Prop := ∀ (f : Nat) (fn : Func), fs[f]? = some fn → fn.body.isNone = false ∧ (fn.name == "runtime.NumGoroutine") = false
theorem callFunc_enter {p : Program} {f : FuncId} {fn : Func} (hf : p.funcs[f]? = some fn) (hb : fn.body.isNone = false) (hn : (fn.name == "runtime.NumGoroutine") = false) (args : Array Value) (w : World) (es : Array Event) :
    Sem.runT p (Go.callFunc f args) w es = (.ok (.enter f args) w, es) := by
  show Sem.runT p (Sem.bind (Sem.program Sem.pure) _) w es = _
  have e0 : Sem.runT p (Sem.program Sem.pure) w es = (.ok p w, es) := rfl
  rw [Sem.runT_bind', e0]
  simp only [hf, hn, hb, Bool.false_eq_true, if_false]
  rfl
theorem SimN.callFunc (hfs : AllBodies fs) (f : FuncId) (args : Array Value) : (SimN (alt P fs) P) (Go.callFunc f args) := by
  intro S wp hw
  cases hf : fs[f]? with
  | none =>
    refine .inr ⟨.stuck "call: no such function", wp, ?_, trivial⟩
    show Sem.run (alt P fs) (Sem.bind (Sem.program Sem.pure) _) wp = _
    rw [run_bind_ok (w' := wp) (a := alt P fs) rfl]
    simp only [hf]
    rfl
  | some fn =>
    obtain ⟨hb, hn⟩ := hfs f fn hf
    refine .inl ⟨.enter f args, wp, by rw [← Sem.runT_fst (alt P fs) _ wp #[], callFunc_enter (p := alt P fs) hf hb hn], Nat.le_refl _, .inr (.inr ⟨f, args, rfl, fn, hf⟩), ?_⟩
    by_cases hP : HasBody P f
    · left
      intro E w hR hA _
      refine ⟨w, fun es => ⟨#[], ?_, by simp⟩, .refl hR, hA⟩
      obtain ⟨fn', hP, hb', hn'⟩ := hP
      rw [callFunc_enter hP hb' hn']; simp
    · exact .inr ⟨f, args, rfl, hP⟩
/-- What the program is asked for is the same in both. -/
theorem SimN.ask {f : Program → Sem Next} (e : f (alt P fs) = f P) (h : (SimN (alt P fs) P) (f P)) : (SimN (alt P fs) P) (Go.program >>= f) := by
  intro S wp hw
  rcases h S wp hw with ⟨a, wp', hr, hd, hp, hF⟩ | ⟨x, wp', hr, hb⟩
  · refine .inl ⟨a, wp', ?_, hd, hp, hF.imp (fun hF E w hR hA hE => ?_) id⟩
    · show Sem.run (alt P fs) (f (alt P fs)) wp = _
      rw [e]; exact hr
    · obtain ⟨w', h1, h2⟩ := hF E w hR hA hE
      exact ⟨w', h1, h2⟩
  · refine .inr ⟨x, wp', ?_, hb⟩
    show Sem.run (alt P fs) (f (alt P fs)) wp = _
    rw [e]; exact hr
theorem SimN.callMethod (hfs : AllBodies fs) (r : Value) (name : String) (args : Array Value) : (SimN (alt P fs) P) (Go.callMethod r name args) := by
  unfold Go.callMethod
  split
  · exact SimN.ask rfl (SimN.bind (Sim.method _ _ _ _) fun x => SimN.callFunc hfs _ _)
  · exact SimN.runtimePanic _
  · exact SimN.stuck _
theorem SimN.invoke (hfs : AllBodies fs) (t : Target) (ht : (∃ f c, t = .fn f c) ∨ t = .nil) (args : Array Value) : (SimN (alt P fs) P) (Go.invoke t args) := by
  rcases ht with ⟨f, c, rfl⟩ | rfl
  · cases f with
    | func f => exact SimN.callFunc hfs _ _
    | method name =>
      unfold Go.invoke
      dsimp only
      split
      · exact SimN.callMethod hfs _ _ _
      · exact SimN.stuck _
    | methodOf t name =>
      unfold Go.invoke
      dsimp only
      split
      · exact SimN.bind (Sim.underlying _) fun d => SimN.callMethod hfs _ _ _
      · exact SimN.stuck _
    | via t path f p =>
      unfold Go.invoke
      dsimp only
      split
      · exact SimN.bind (Sim.receiverVia _ _ _ _) fun x => SimN.callFunc hfs _ _
      · exact SimN.stuck _
    | yield l =>
      show (SimN (alt P fs) P) (Instr.yield l args)
      unfold Instr.yield
      intro S wp hw
      right
      rcases Sim.getLoop (Pp := alt P fs) (P := P) l S wp hw with ⟨a, wp', h1, _⟩ | ⟨h, wp', h1, h2⟩
      · exfalso
        -- no loop lies in the lone world
        obtain ⟨w0, h0⟩ := hw
        change Sem.run (alt P fs) ((Go.getObj l).bind _) wp = _ at h1
        cases hh : wp.heap[l]? with
        | none => rw [run_bind_halt (run_getObj_none hh)] at h1; cases h1
        | some o =>
          have ho := h0.okay l o hh
          by_cases hc : ∃ c e f, o = .cells c e f
          · obtain ⟨c, e, f, rfl⟩ := hc
            rw [run_bind_halt (run_getObj_cells hh)] at h1; cases h1
          · rw [run_bind_ok (run_getObj hh (fun c e f x => hc ⟨c, e, f, x⟩))] at h1
            cases o <;> first | exact ho.elim | cases h1
      · exact ⟨h, wp', run_bind_halt h1, h2⟩
  · unfold Go.invoke
    exact SimN.runtimePanic _
theorem Sim.ofValue (f : Value) (args : Array Value) : (Sim (alt P fs) P) (Deferred.ofValue f args) := by
  unfold Deferred.ofValue; split <;> first | exact Sim.pure _ | exact Sim.stuck _
theorem run_ofValue {p : Program} {f : Value} {args : Array Value} {wp wp' : World} {d : Deferred} (h : (Deferred.ofValue f args).run p wp = .ok d wp') : (∃ g c, d.target = .fn g c) ∨ d.target = .nil := by
  unfold Deferred.ofValue at h
  split at h
  · cases h; exact .inl ⟨_, _, rfl⟩
  · cases h; exact .inr rfl
  · cases h
/-- A way on that is asked for what the first has yielded alone. -/
theorem SimN.bindIf {s : Sem α} {f : α → Sem Next} (hs : (Sim (alt P fs) P) s) (Q : α → Prop) (hq : ∀ wp a wp', s.run (alt P fs) wp = .ok a wp' → Q a) (hf : ∀ a, Q a → (SimN (alt P fs) P) (f a)) : (SimN (alt P fs) P) (s >>= f) := by
  intro S wp hw
  rcases hs S wp hw with ⟨a, wp', hr, hd, hF⟩ | ⟨h, wp', hr, hb⟩
  · rcases hf a (hq wp a wp' hr) S wp' (hF.rel hw) with ⟨b, wp'', hr', hd', hp, hF'⟩ | ⟨h, wp'', hr', hb⟩
    · exact .inl ⟨b, wp'', (run_bind_ok hr).trans hr', Nat.le_trans hd hd', hp, hF'.imp (fun h => hF.bind h hd') id⟩
    · exact .inr ⟨h, wp'', (run_bind_ok hr).trans hr', hb⟩
  · exact .inr ⟨h, wp', run_bind_halt hr, hb⟩
/-- A comparison with nil. -/
theorem Sim.eqNil {t : TypeId} {ms : Array (String × TypeId)} (hu : P.underlying t = some (.interface ms)) (op : BinOp) (hop : op = .eql ∨ op = .neq) (x : Operand) (a : Value) :
    (Sim (alt P fs) P) (do Go.eqGuard op t x (.const .nilIface) a .nilIface; Go.binOp op t a .nilIface) := by
  have g : (Sim (alt P fs) P) (Go.eqGuard op t x (.const .nilIface) a .nilIface) := by
    unfold Go.eqGuard
    rcases hop with rfl | rfl
    · cases a <;> first | exact Sim.pure _ | (simp only [Bool.or_true, Bool.not_true, Bool.false_eq_true, if_false, if_true]; exact Sim.pure _)
    · cases a <;> first | exact Sim.pure _ | (simp only [Bool.or_true, Bool.not_true, Bool.false_eq_true, if_false, if_true]; exact Sim.pure _)
  have eq : (Sim (alt P fs) P) (Op.equal t a .nilIface) := by
    show (Sim (alt P fs) P) (Op.equalIn 10000 t a .nilIface)
    unfold Op.equalIn
    refine Sim.underlyingOf hu ?_
    cases a <;> first | exact Sim.pure _ | exact Sim.stuck _ | (rename_i z; cases z <;> first | exact Sim.pure _ | exact Sim.stuck _)
  refine Sim.bind g fun _ => ?_
  rcases hop with rfl | rfl
  · cases a <;> exact Sim.bind eq fun _ => Sim.pure _
  · cases a <;> exact Sim.bind eq fun _ => Sim.pure _
set_option maxHeartbeats 1000000 in
/-- ████ EACH PLAIN OPERATION DOES IN THE TRUE WORLD WHAT IT DOES IN THE LONE ONE. ████ -/
theorem simOp (hfs : AllBodies fs) (ρ : Operand → Value) (hc : ∀ v, ρ (.const v) = v) (o : Oper) (ho : okOp P o.op = true) : (SimN (alt P fs) P) (Go.execOp ρ o) := by
  unfold Go.execOp
  cases hop : o.op with
  | move x => exact SimN.pureValue _
  | assign x => exact SimN.pureValue _
  | pick c a b => exact SimN.bind (Sim.asBool (ρ c)) fun _ => SimN.pureValue _
  | alloc e => exact Sim.value (Sim.alloc _ _ _)
  | box e x => exact Sim.value (Sim.box _ _)
  | build t ps => exact Sim.value (Sim.build _ _)
  | buildSlice t n ps => exact Sim.value (Sim.buildSlice _ _ _)
  | load t a => exact Sim.value (Sim.loadAt _ _)
  | store t a x => exact Sim.skip (Sim.storeAt _ _ _)
  | unOp u t x => exact Sim.value (Sim.unary _ _)
  | fieldAddr s x f => exact Sim.value (Sim.fieldAt _ _ _)
  | indexAddr t x i => exact Sim.value (Sim.indexAt _ _ _)
  | makeSlice t l c => exact Sim.value (Sim.makeSlice _ _ _)
  | slice t x lo hi mx => exact Sim.value (Sim.sliceAt _ _ _ _ _)
  | makeInterface t x => exact Sim.value (Sim.makeInterface _ _)
  | extract t i => exact Sim.value (Sim.extract _ _)
  | makeFunc f a b => exact Sim.value (Sim.makeFunc _ _ _)
  | makeMap t r =>
    rw [hop] at ho
    cases r with
    | none => exact Sim.value (Sim.makeMapNone _)
    | some r => cases ho
  | binOp op t x y z =>
    rw [hop] at ho
    simp only [okOp] at ho
    cases hu : P.underlying t with
    | none => rw [hu] at ho; cases ho
    | some d =>
      rw [hu] at ho
      cases d with
      | int k => exact Sim.value (Sim.bind (Sim.eqGuard (.inl ⟨k, hu⟩) _ _ _ _ _) fun _ => Sim.binOp (.inl ⟨k, hu⟩) _ _ _)
      | bool => exact Sim.value (Sim.bind (Sim.eqGuard (.inr hu) _ _ _ _ _) fun _ => Sim.binOp (.inr hu) _ _ _)
      | interface ms =>
        simp only [Bool.and_eq_true] at ho
        obtain ⟨h1, h2⟩ := ho
        have hy : y = .const .nilIface := by
          revert h1
          cases y <;> simp
          rename_i v
          cases v <;> simp
        have hop' : op = .eql ∨ op = .neq := by
          revert h2
          cases op <;> simp
        subst hy
        dsimp only
        rw [hc]
        exact Sim.value (Sim.eqNil hu op hop' x _)
      | _ => cases ho
  | convert s d x =>
    rw [hop] at ho
    simp only [okOp] at ho
    cases hs : P.underlying s with
    | none => rw [hs] at ho; cases ho
    | some a =>
      cases hd : P.underlying d with
      | none => rw [hs, hd] at ho; cases a <;> cases ho
      | some b =>
        rw [hs, hd] at ho
        cases a <;> first | (cases ho; done) | skip
        cases b <;> first | (cases ho; done) | skip
        exact Sim.value (Sim.convert hs hd _)
  | nilCheck x =>
    dsimp only
    split
    · exact SimN.runtimePanic _
    · exact SimN.runtimePanic _
    · exact SimN.runtimePanic _
    · split
      · exact SimN.runtimePanic _
      · refine SimN.ask rfl (SimN.bind (Sim.nilAhead _ _ _ _) fun r => ?_)
        split
        · exact fun _ wp _ => .inr ⟨_, wp, rfl, trivial⟩
        · exact SimN.pureValue _
      · exact SimN.pureValue _
    · exact SimN.pureValue _
  | call c =>
    rw [hop] at ho
    dsimp only
    unfold Go.resolve
    cases hcal : c.callee with
    | value f =>
      refine SimN.bindIf (Sim.ofValue _ _) (fun d => (∃ g c, d.target = .fn g c) ∨ d.target = .nil) (fun wp a wp' h => run_ofValue h) fun d hd => SimN.invoke hfs _ hd _
    | invoke r name => exact SimN.invoke hfs (.fn (.method name) #[]) (.inl ⟨_, _, rfl⟩) _
    | builtin b =>
      simp only [okOp, hcal] at ho
      cases b <;> first | (cases ho; done) | skip
      · exact Sim.value (Sim.append _ _ _)
      · refine Sim.value (Sim.len _ _ _ fun u hu => ?_)
        rw [hu] at ho
        simp only at ho
        cases hd : P.underlying u with
        | none => rw [hd] at ho; cases ho
        | some d =>
          rw [hd] at ho
          cases d <;> first | (cases ho; done) | exact .inl ⟨_, rfl⟩ | exact .inr rfl
  | _ => rw [hop] at ho; cases ho
end
end Go.Tw
end

section
namespace Go.Tw
open Go.Conc (G)
def codeOk (P : Program) : Code → Bool
  | .skip | .ret | .exit _ | .refuse _ => true
  | .seq a b | .cond _ a b => codeOk P a && codeOk P b
  | .block _ c | .loop c => codeOk P c
  | .region _ ops _ => ops.all fun o => okOp P o.op
  | _ => false
def itemOk (P : Program) : Item → Bool
  | .code c | .inLoop c => codeOk P c
  | .inBlock _ => true
  | .inRegion ops _ => ops.all fun o => okOp P o.op
  | _ => false
structure Tame (P : Program) (fs : Array Func) (fr : Frame) : Prop where
  items : ∀ it ∈ fr.todo, itemOk P it = true
  round : fr.roundOf = none
  defers : fr.defers = []
  kind : fr.kind = .normal
  fn : ∃ fn : Func, fs[fr.fn]? = some fn ∧ P.funcs[fr.fn]? = some fn
/-- What is asked of the two programs. -/
structure Pair (P : Program) (fs : Array Func) : Prop where
  bodies : AllBodies fs
  code : ∀ (f : Nat) (fn : Func) (c : Code), fs[f]? = some fn → fn.body = some c → codeOk P c = true
  ahead : P.follows .staticDataAhead = true
  noReady : ∀ g, (alt P fs).stepOf g = none
/-- A step of control alone. -/
def ctl (fr : Frame) : Option Frame :=
  match fr.todo with
  | [] => some { fr with mode := .returning }
  | .code .ret :: _ => some { fr with mode := .returning }
  | .code .skip :: k | .inBlock _ :: k => some { fr with todo := k }
  | .code (.seq a b) :: k => some { fr with todo := .code a :: .code b :: k }
  | .code (.cond c a b) :: k =>
    match fr.eval c with
    | .bool t => some { fr with todo := .code (if t then a else b) :: k }
    | _ => none
  | .code (.block id c) :: k => some { fr with todo := .code c :: .inBlock id :: k }
  | .code (.loop c) :: k | .inLoop c :: k => some { fr with todo := .code c :: .inLoop c :: k }
  | .code (.exit id) :: k => (exitTo id k).map fun k' => { fr with todo := k' }
  | .code (.region _ ops false) :: k => some { fr with todo := .inRegion ops (List.range ops.size) :: k }
  | .inRegion _ [] :: k => some { fr with todo := k }
  | .inRegion ops (i :: _) :: _ => if ((ops[i]?).map (Region.wanted · (yielded ops fr.tmps))).getD false then none else some (fr.finish undef)
  | _ => none
section
variable {p : Program} {main : Bool} {fr fr' : Frame} {cs : List Frame} {w w' : World}
theorem ctl_step (hm : fr.mode = .run) (hr : fr.roundOf = none) (h : ctl fr = some fr') : stepG p main (G fr cs) w = .go (G fr' cs) w #[] := by
  obtain ⟨fn, tmps, todo, defers, mode, kind, ro⟩ := fr
  simp only at hm hr
  subst hm hr
  unfold ctl at h
  simp only at h
  split at h
  all_goals (try simp only at *)
  all_goals (try subst_vars)
  · cases h; simp [G, stepG, stepG.exec]
  · cases h; simp [G, stepG, stepG.exec]
  · cases h; simp [G, stepG, stepG.exec]
  · cases h; simp [G, stepG, stepG.exec]
  · cases h; simp [G, stepG, stepG.exec]
  · split at h
    · rename_i ht; cases h; simp [G, stepG, stepG.exec, ht]
    · cases h
  · cases h; simp [G, stepG, stepG.exec]
  · cases h; simp [G, stepG, stepG.exec]
  · cases h; simp [G, stepG, stepG.exec]
  · obtain ⟨k', hk, rfl⟩ := Option.map_eq_some_iff.1 h
    simp [G, stepG, stepG.exec, hk]
  · cases h; simp [G, stepG, stepG.exec]
  · cases h; simp [G, stepG, stepG.exec]
  · split at h
    · cases h
    · rename_i hw; cases h; simp [G, stepG, stepG.exec, hw]
  · cases h
theorem exitTo_sub {id : Nat} : ∀ {k k' : List Item}, exitTo id k = some k' → ∀ it ∈ k', it ∈ k
  | [], _, h => by cases h
  | it :: k, k', h => by
    cases it with
    | inBlock i =>
      simp only [exitTo] at h
      split at h
      · cases h; exact fun x hx => List.mem_cons_of_mem _ hx
      · exact fun x hx => List.mem_cons_of_mem _ (exitTo_sub h x hx)
    | _ => exact fun x hx => List.mem_cons_of_mem _ (exitTo_sub (k := k) h x hx)
variable {P : Program} {fs : Array Func}
theorem Tame.finish (h : Tame P fs fr) (v : Value) : Tame P fs (fr.finish v) := by
  obtain ⟨fn, tmps, todo, defers, mode, kind, ro⟩ := fr
  have hi := h.items
  simp only at hi
  cases todo with
  | nil => exact h
  | cons it k =>
    have h0 := hi it (by simp)
    cases it with
    | inRegion ops l =>
      cases l with
      | nil => exact h
      | cons i rest =>
        refine ⟨fun x hx => ?_, h.round, h.defers, h.kind, h.fn⟩
        simp only [Frame.finish, List.mem_cons] at hx
        rcases hx with rfl | hx
        · exact h0
        · exact hi x (by simp [hx])
    | _ => first | exact h | (cases h0; done)
theorem Tame.ctl (h : Tame P fs fr) (hc : Tw.ctl fr = some fr') : Tame P fs fr' := by
  obtain ⟨fn, tmps, todo, defers, mode, kind, ro⟩ := fr
  have hi := h.items
  simp only at hi
  unfold Tw.ctl at hc
  simp only at hc
  split at hc
  · cases hc; exact ⟨hi, h.round, h.defers, h.kind, h.fn⟩
  · cases hc; exact ⟨hi, h.round, h.defers, h.kind, h.fn⟩
  · cases hc; exact ⟨fun x hx => hi x (by simp [hx]), h.round, h.defers, h.kind, h.fn⟩
  · cases hc; exact ⟨fun x hx => hi x (by simp [hx]), h.round, h.defers, h.kind, h.fn⟩
  · rename_i a b k
    have h0 := hi _ (List.mem_cons_self ..)
    simp only [itemOk, codeOk, Bool.and_eq_true] at h0
    cases hc
    refine ⟨fun x hx => ?_, h.round, h.defers, h.kind, h.fn⟩
    simp only [List.mem_cons] at hx
    rcases hx with rfl | rfl | hx
    · exact h0.1
    · exact h0.2
    · exact hi x (by simp [hx])
  · rename_i c a b k
    have h0 := hi _ (List.mem_cons_self ..)
    simp only [itemOk, codeOk, Bool.and_eq_true] at h0
    split at hc
    · cases hc
      refine ⟨fun x hx => ?_, h.round, h.defers, h.kind, h.fn⟩
      simp only [List.mem_cons] at hx
      rcases hx with rfl | hx
      · show codeOk P (if _ then a else b) = true
        split
        · exact h0.1
        · exact h0.2
      · exact hi x (by simp [hx])
    · cases hc
  · rename_i id c k
    have h0 := hi _ (List.mem_cons_self ..)
    cases hc
    refine ⟨fun x hx => ?_, h.round, h.defers, h.kind, h.fn⟩
    simp only [List.mem_cons] at hx
    rcases hx with rfl | rfl | hx
    · exact h0
    · rfl
    · exact hi x (by simp [hx])
  · rename_i c k
    have h0 := hi _ (List.mem_cons_self ..)
    cases hc
    refine ⟨fun x hx => ?_, h.round, h.defers, h.kind, h.fn⟩
    simp only [List.mem_cons] at hx
    rcases hx with rfl | rfl | hx
    · exact h0
    · exact h0
    · exact hi x (by simp [hx])
  · rename_i c k
    have h0 := hi _ (List.mem_cons_self ..)
    cases hc
    refine ⟨fun x hx => ?_, h.round, h.defers, h.kind, h.fn⟩
    simp only [List.mem_cons] at hx
    rcases hx with rfl | rfl | hx
    · exact h0
    · exact h0
    · exact hi x (by simp [hx])
  · rename_i id k
    obtain ⟨k', hk, rfl⟩ := Option.map_eq_some_iff.1 hc
    exact ⟨fun x hx => hi x (by simp [exitTo_sub hk x hx]), h.round, h.defers, h.kind, h.fn⟩
  · rename_i id ops k
    have h0 := hi _ (List.mem_cons_self ..)
    cases hc
    refine ⟨fun x hx => ?_, h.round, h.defers, h.kind, h.fn⟩
    simp only [List.mem_cons] at hx
    rcases hx with rfl | hx
    · exact h0
    · exact hi x (by simp [hx])
  · cases hc; exact ⟨fun x hx => hi x (by simp [hx]), h.round, h.defers, h.kind, h.fn⟩
  · split at hc
    · cases hc
    · cases hc; exact h.finish undef
  · cases hc
theorem apply_value {s : Sem Next} {v : Value} {es : Array Event} (hk : fr.kind = .normal) (h : s.runT p w #[] = (.ok (.value v) w', es)) :
    stepG.apply p true fr cs none s w = .go (G (fr.finish v) cs) w' (seen p fr.fn es) := by
  have hk' : (fr.kind == CallKind.early) = false := by rw [hk]; rfl
  simp only [stepG.apply, h, if_true, hk', Bool.false_eq_true, if_false, GStep.after, G, Array.append_empty]
theorem apply_skip {s : Sem Next} {es : Array Event} (hk : fr.kind = .normal) (h : s.runT p w #[] = (.ok .skip w', es)) :
    stepG.apply p true fr cs none s w = .go (G (fr.finish undef) cs) w' (seen p fr.fn es) := by
  have hk' : (fr.kind == CallKind.early) = false := by rw [hk]; rfl
  simp only [stepG.apply, h, if_true, hk', Bool.false_eq_true, if_false, GStep.after, G, Array.append_empty]
theorem apply_enter {s : Sem Next} {f : FuncId} {args : Array Value} {es : Array Event} {ops : Array Oper} {l : List Nat} {k : List Item} (ht : fr.todo = .inRegion ops l :: k) (hk : fr.kind = .normal) (h : s.runT p w #[] = (.ok (.enter f args) w', es)) :
    stepG.apply p true fr cs none s w = .go (G (Frame.enter p f args .normal) (fr :: cs)) w' (seen p fr.fn es) := by
  have hk' : (fr.kind == CallKind.early) = false := by rw [hk]; rfl
  simp only [stepG.apply, h, if_true, hk', Bool.false_eq_true, if_false, GStep.after, G, Array.append_empty, ht]
theorem apply_bad {s : Sem Next} {x : Halt} (ha : p.follows .staticDataAhead = true) (hn : ∀ g, p.stepOf g = none) (hb : BadHalt x) (h : s.run p w = .halt x w') :
    (∃ v es, stepG.apply p true fr cs none s w = .go (G (fr.raise [{ v, recovered := false }]) cs) w' es) ∨ ∃ o w₁ es, stepG.apply p true fr cs none s w = .ended o w₁ es := by
  have h' : (s.runT p w #[]).1 = .halt x w' := by rw [Sem.runT_fst]; exact h
  cases hr : s.runT p w #[] with
  | mk r es =>
    rw [hr] at h'
    simp only at h'
    subst h'
    cases x with
    | panic v =>
      left
      refine ⟨v, seen p fr.fn (if (fr.kind == CallKind.early) = true then #[] else es), ?_⟩
      simp only [stepG.apply, hr, if_true, GStep.after, G, Array.append_empty]
    | stuck m =>
      right
      exact ⟨_, _, _, by simp only [stepG.apply, hr, if_true, GStep.after]; rfl⟩
    | unsupported u =>
      right
      cases u with
      | initOrder k =>
        exact ⟨_, _, _, by
          simp only [stepG.apply, hr, if_true]
          simp only [early, ha, hn, GStep.after, Bool.not_true, Bool.false_eq_true, if_false]
          rfl⟩
      | _ =>
        exact ⟨_, _, _, by simp only [stepG.apply, hr, if_true, GStep.after]; rfl⟩
    | _ => exact hb.elim
theorem Sim.results (fn : Func) (tmps : Array Value) : Sim (alt P fs) P (Go.results fn tmps) := by
  unfold Go.results
  refine Sim.bind (Sim.arrayMapM (fun r => ?_) _) fun vs => Sim.pure _
  cases r with
  | tmp t => exact Sim.pure _
  | cell a t => exact Sim.bind (Sim.asAddr _) fun _ => Sim.loadVar _ _
/-- The frame behind a step, in the lone world and in the true one: the same, or the entry of a function whose text is another. -/
inductive Next1 (P : Program) (fs : Array Func) (fr : Frame) (top : List Frame) : Frame → Frame → List Frame → Prop
  | same {f : Frame} {top' : List Frame} : Tame P fs f → f.mode = .run ∨ f.mode = .returning → Next1 P fs fr top f f top'
  | enter (f : FuncId) (args : Array Value) : P.funcs[f]? ≠ fs[f]? → HasBody P f → fr.mode = .run → Next1 P fs fr top (Frame.enter (alt P fs) f args .normal) (Frame.enter P f args .normal) (fr :: top)
/-- Suspended frames. -/
def Rest (P : Program) (fs : Array Func) (top : List Frame) : Prop := ∀ f ∈ top, Tame P fs f ∧ f.mode = .run
theorem ctl_mode (hc : Tw.ctl fr = some fr') (hm : fr.mode = .run) : fr'.mode = .run ∨ fr'.mode = .returning := by
  unfold Tw.ctl at hc
  split at hc
  all_goals first
    | (cases hc; exact .inl hm; done)
    | (cases hc; exact .inr rfl; done)
    | (cases hc; done)
    | skip
  · split at hc
    · cases hc; exact .inl hm
    · cases hc
  · obtain ⟨k', _, rfl⟩ := Option.map_eq_some_iff.1 hc
    exact .inl hm
  · split at hc
    · cases hc
    · cases hc
      left
      unfold Frame.finish
      split <;> exact hm
theorem finish_mode (v : Value) (hm : fr.mode = .run) : (fr.finish v).mode = .run := by
  unfold Frame.finish
  split <;> exact hm
theorem enter_same {f : FuncId} (h : P.funcs[f]? = fs[f]?) (args : Array Value) : Frame.enter (alt P fs) f args .normal = Frame.enter P f args .normal := by
  unfold Frame.enter
  show _ = _
  have : (alt P fs).funcs[f]? = P.funcs[f]? := h.symm
  rw [this]
theorem tame_enter {f : FuncId} (hp : Pair P fs) {fn : Func} (h : P.funcs[f]? = fs[f]?) (hf : fs[f]? = some fn) (args : Array Value) : Tame P fs (Frame.enter P f args .normal) := by
  have hb := (hp.bodies f fn hf).1
  cases hc : fn.body with
  | none => rw [hc] at hb; cases hb
  | some c =>
    refine ⟨fun it hit => ?_, rfl, rfl, rfl, fn, hf, h.trans hf⟩
    have e : (Frame.enter P f args .normal).todo = [.code c] := by
      unfold Frame.enter
      rw [h, hf]
      simp [hc]
    rw [e] at hit
    simp only [List.mem_singleton] at hit
    subst hit
    exact hp.code f fn c hf hc
/-- At a refusal the run ends. -/
theorem refuse_ended {P : Program} {fr : Frame} {why : String} {k : List Item} (hm : fr.mode = .run) (ht : fr.todo = .code (.refuse why) :: k) : ∃ o, ∀ (main : Bool) (cs : List Frame) (w : World), stepG P main (G fr cs) w = .ended o w #[] :=
  ⟨_, fun main cs w => by simp only [G, stepG, hm, stepG.exec, ht]; rfl⟩
/-- ████ A STEP. ████ -/
theorem step_sim (hp : Pair P fs) (ht : Tame P fs fr) {top : List Frame} (htop : Rest P fs top) (hm : fr.mode = .run ∨ (fr.mode = .returning ∧ top ≠ [])) {S : Nat → Prop} {wp : World} (hw : ∃ w, HRel S wp w) (X : List Frame) :
    (∃ fr₁ fr₂ top' wp' es, stepG (alt P fs) true (G fr (top ++ X)) wp = .go (G fr₁ (top' ++ X)) wp' es ∧ Next1 P fs fr top fr₁ fr₂ top' ∧ Rest P fs top' ∧ wp.drawn ≤ wp'.drawn ∧ (∃ w', HRel S wp' w') ∧
      ∀ main E w Y, HRel S wp w → Agree E wp w → wp'.drawn ≤ E → ∃ w' es, stepG P main (G fr (top ++ Y)) w = .go (G fr₂ (top' ++ Y)) w' es ∧ Kept S wp w wp' w' ∧ Agree E wp' w' ∧ ∀ e ∈ es, EvIn S w'.heap.size e) ∨
    (∃ v wp' es, stepG (alt P fs) true (G fr (top ++ X)) wp = .go (G (fr.raise [v]) (top ++ X)) wp' es) ∨
    (∃ f args wp' es, stepG (alt P fs) true (G fr (top ++ X)) wp = .go (G (Frame.enter (alt P fs) f args .normal) (fr :: top ++ X)) wp' es ∧ (∃ fn, fs[f]? = some fn) ∧ ¬ HasBody P f) ∨
    ∃ o w₁ es, stepG (alt P fs) true (G fr (top ++ X)) wp = .ended o w₁ es := by
  rcases hm with hm | ⟨hm, hne⟩
  · cases hc : Tw.ctl fr with
    | some fr' =>
      exact .inl ⟨fr', fr', top, wp, #[], ctl_step hm ht.round hc, .same (ht.ctl hc) (ctl_mode hc hm), htop, Nat.le_refl _, hw, fun main E w Y hR hA _ => ⟨w, #[], ctl_step hm ht.round hc, .refl hR, hA, by simp⟩⟩
    | none =>
      -- a region's order is drawn; an operation; a dead end
      have hr := ht.round
      cases htodo : fr.todo with
      | nil => simp [Tw.ctl, htodo] at hc
      | cons it k =>
        have h0 := ht.items it (by rw [htodo]; exact List.mem_cons_self ..)
        have ended : ∀ (o : Outcome) (es₀ : Array Event), stepG (alt P fs) true (G fr (top ++ X)) wp = .ended o wp es₀ → ∃ o w₁ es, stepG (alt P fs) true (G fr (top ++ X)) wp = .ended o w₁ es := fun o es₀ h => ⟨o, wp, es₀, h⟩
        cases it with
        | code c =>
          cases c with
          | cond c a b =>
            have he : ∀ t, fr.eval c ≠ .bool t := fun t e => by simp [Tw.ctl, htodo, e] at hc
            right; right; right
            refine ended (.stuck "cond: bool expected" (fr.pos (alt P fs))) #[] ?_
            simp only [G, stepG, hm, stepG.exec, htodo]
          | exit id =>
            have he : exitTo id k = none := by
              cases h : exitTo id k with
              | none => rfl
              | some k' => simp [Tw.ctl, htodo, h] at hc
            right; right; right
            refine ended (.stuck "exit, goto: no such block or label" (fr.pos (alt P fs))) #[] ?_
            simp [G, stepG, hm, stepG.exec, htodo, he, hr]
          | refuse why =>
            right; right; right
            obtain ⟨o, ho⟩ := refuse_ended (P := alt P fs) hm htodo
            exact ended o #[] (ho _ _ _)
          | region id ops d =>
            cases d with
            | false => simp [Tw.ctl, htodo] at hc
            | true =>
              have hstep : ∀ (q : Program) (main : Bool) (Y : List Frame) (u u' : World) (t : Nat), (Go.choose (.order fr.fn id)).run q u = .ok t u' → stepG q main (G fr (top ++ Y)) u = .go (G { fr with todo := .inRegion ops (Region.schedule (q.follows .mixedOrders) ops t) :: k } (top ++ Y)) u' #[] := by
                intro q main Y u u' t h
                simp only [G, stepG, hm, stepG.exec, htodo, h, Bool.not_true, Bool.false_eq_true, if_false]
              have hres : Tame P fs { fr with todo := .inRegion ops (Region.schedule (P.follows .mixedOrders) ops ((Question.order fr.fn id).cut (wp.tape wp.drawn (.order fr.fn id)))) :: k } := by
                refine ⟨fun x hx => ?_, ht.round, ht.defers, ht.kind, ht.fn⟩
                simp only [List.mem_cons] at hx
                rcases hx with rfl | hx
                · exact h0
                · exact ht.items x (by rw [htodo]; exact List.mem_cons_of_mem _ hx)
              left
              refine ⟨_, _, top, { wp with drawn := wp.drawn + 1 }, #[], hstep (alt P fs) true X wp _ _ rfl, .same hres (.inl hm), htop, Nat.le_succ _, ?_, fun main E w Y hR hA hE => ?_⟩
              · obtain ⟨w0, h0⟩ := hw
                exact ⟨w0, h0.untuned⟩
              · have hq := hA 0 (.order fr.fn id) (by simp only at hE; omega)
                simp only [Nat.add_zero] at hq
                refine ⟨{ w with drawn := w.drawn + 1 }, #[], ?_, ⟨⟨hR.size, hR.os, hR.output, hR.same, hR.dead, hR.okay⟩, fun _ _ => rfl, rfl, rfl, by show w.drawn + 1 + wp.drawn = w.drawn + (wp.drawn + 1); omega, Nat.le_refl _⟩, fun i q' hi => ?_, by simp⟩
                · have := hstep P main Y w _ _ (rfl : (Go.choose (.order fr.fn id)).run P w = .ok _ _)
                  rw [this, hq]
                · have := hA (i + 1) q' (by simp only at hi; omega)
                  simpa [Nat.add_assoc, Nat.add_comm 1 i] using this
          | skip => simp [Tw.ctl, htodo] at hc
          | ret => simp [Tw.ctl, htodo] at hc
          | seq a b => simp [Tw.ctl, htodo] at hc
          | block i c => simp [Tw.ctl, htodo] at hc
          | loop c => simp [Tw.ctl, htodo] at hc
          | _ => cases h0
        | inRegion ops l =>
          cases l with
          | nil => simp [Tw.ctl, htodo] at hc
          | cons i rest =>
            have hwant : ((ops[i]?).map (Region.wanted · (yielded ops fr.tmps))).getD false = true := by
              cases h : ((ops[i]?).map (Region.wanted · (yielded ops fr.tmps))).getD false with
              | true => rfl
              | false => simp [Tw.ctl, htodo, h] at hc
            cases ho : ops[i]? with
            | none => rw [ho] at hwant; cases hwant
            | some o =>
              have hoo : okOp P o.op = true := by
                have := Array.all_eq_true_iff_forall_mem.1 h0 o (Array.mem_of_getElem? ho)
                exact this
              have hstep : ∀ (q : Program) (main : Bool) (Y : List Frame) (u : World), stepG q main (G fr (top ++ Y)) u = stepG.apply q true fr (top ++ Y) none (execOp fr.eval o) u := by
                intro q main Y u
                have hw' := hwant
                rw [ho] at hw'
                simp only [G, stepG, hm, stepG.exec, htodo, stepG.oper, Frame.oper?, ho, hr, hw', if_true]
              rcases simOp (P := P) hp.bodies fr.eval (fun v => rfl) o hoo S wp hw with ⟨a, wp', h1, h2, h3, h4⟩ | ⟨x, wp', h1, h2⟩
              · have hrun : ∀ es, (execOp fr.eval o).runT (alt P fs) wp #[] = (.ok a wp', es) ∨ (execOp fr.eval o).runT (alt P fs) wp #[] ≠ (.ok a wp', es) := fun es => Classical.em _
                have e1 : (execOp fr.eval o).runT (alt P fs) wp #[] = (.ok a wp', ((execOp fr.eval o).runT (alt P fs) wp #[]).2) := Prod.ext (by rw [Sem.runT_fst]; exact h1) rfl
                rcases h3 with ⟨v, rfl⟩ | rfl | ⟨f, args, rfl, hf⟩
                · rcases h4 with h4 | ⟨f, args, e, _⟩
                  · left
                    refine ⟨_, _, top, wp', _, (hstep (alt P fs) true X wp).trans (apply_value ht.kind e1), .same (ht.finish v) (.inl (finish_mode v hm)), htop, h2, h4.rel hw, fun main E w Y hR hA hE => ?_⟩
                    obtain ⟨w', h5, h6, h7⟩ := h4 E w hR hA hE
                    obtain ⟨new, e2, hev⟩ := h5 #[]
                    exact ⟨w', _, (hstep P main Y w).trans (apply_value ht.kind e2), h6, h7, fun e he => hev e (by simpa using Go.Conc.mem_seen he)⟩
                  · cases e
                · rcases h4 with h4 | ⟨f, args, e, _⟩
                  · left
                    refine ⟨_, _, top, wp', _, (hstep (alt P fs) true X wp).trans (apply_skip ht.kind e1), .same (ht.finish undef) (.inl (finish_mode undef hm)), htop, h2, h4.rel hw, fun main E w Y hR hA hE => ?_⟩
                    obtain ⟨w', h5, h6, h7⟩ := h4 E w hR hA hE
                    obtain ⟨new, e2, hev⟩ := h5 #[]
                    exact ⟨w', _, (hstep P main Y w).trans (apply_skip ht.kind e2), h6, h7, fun e he => hev e (by simpa using Go.Conc.mem_seen he)⟩
                  · cases e
                · have hgo := (hstep (alt P fs) true X wp).trans (apply_enter htodo ht.kind e1)
                  by_cases hB : HasBody P f
                  · left
                    have h4' := h4.resolve_right (fun ⟨f', args', e, hn⟩ => by cases e; exact hn hB)
                    refine ⟨_, Frame.enter P f args .normal, fr :: top, wp', _, hgo, ?_, fun g hg => ?_, h2, h4'.rel hw, fun main E w Y hR hA hE => ?_⟩
                    · by_cases hs : P.funcs[f]? = fs[f]?
                      · rw [enter_same hs]
                        obtain ⟨fn, hf, _⟩ := hB
                        exact .same (tame_enter hp hs (hs.symm.trans hf) args) (.inl rfl)
                      · exact .enter f args hs hB hm
                    · rcases List.mem_cons.1 hg with rfl | hg
                      · exact ⟨ht, hm⟩
                      · exact htop g hg
                    · obtain ⟨w', h5, h6, h7⟩ := h4' E w hR hA hE
                      obtain ⟨new, e2, hev⟩ := h5 #[]
                      exact ⟨w', _, (hstep P main Y w).trans (apply_enter htodo ht.kind e2), h6, h7, fun e he => hev e (by simpa using Go.Conc.mem_seen he)⟩
                  · right; right; left
                    exact ⟨f, args, wp', _, hgo, hf, hB⟩
              · rcases apply_bad (p := alt P fs) (fr := fr) (cs := top ++ X) (s := execOp fr.eval o) hp.ahead hp.noReady h2 h1 with ⟨v, es, h⟩ | h
                · right; left
                  exact ⟨_, wp', es, (hstep (alt P fs) true X wp).trans h⟩
                · right; right; right
                  obtain ⟨o', w₁, es, h⟩ := h
                  exact ⟨o', w₁, es, (hstep (alt P fs) true X wp).trans h⟩
        | inBlock i => simp [Tw.ctl, htodo] at hc
        | inLoop c => simp [Tw.ctl, htodo] at hc
        | _ => cases h0
  · cases top with
    | nil => exact absurd rfl hne
    | cons c top =>
      obtain ⟨fn, hf1, hf2⟩ := ht.fn
      have hstep : ∀ (q : Program) (main : Bool) (Y : List Frame) (u : World), q.funcs[fr.fn]? = some fn → stepG q main (G fr (c :: top ++ Y)) u = GStep.after (seen q fr.fn ((results fn fr.tmps).runT q u #[]).2) (match ((results fn fr.tmps).runT q u #[]).1 with
          | .ok v w => .go (G (c.finish v) (top ++ Y)) w
          | .halt (.stuck s) w => .ended (.stuck s (fr.pos q)) w
          | .halt _ w => .ended (.stuck "return: the result variables cannot be read" (fr.pos q)) w) := by
        intro q main Y u hq
        have hd := ht.defers
        have hk := ht.kind
        simp only [G, stepG, hm, unwind, hd, hq, List.cons_append]
        cases hr : (results fn fr.tmps).runT q u #[] with
        | mk r es =>
          cases r with
          | ok v w => simp [doReturn, hk]
          | halt x w => cases x <;> rfl
      rcases Sim.results (P := P) (fs := fs) fn fr.tmps S wp hw with ⟨v, wp', h1, h2, h3⟩ | ⟨x, wp', h1, h2⟩
      · left
        have e1 : ((results fn fr.tmps).runT (alt P fs) wp #[]).1 = .ok v wp' := by rw [Sem.runT_fst]; exact h1
        have hs := hstep (alt P fs) true X wp hf1
        rw [e1] at hs
        obtain ⟨hc1, hc2⟩ := htop c (by simp)
        refine ⟨c.finish v, c.finish v, top, wp', _, hs, .same (hc1.finish v) (.inl (finish_mode v hc2)), fun f hf => htop f (by simp [hf]), h2, h3.rel hw, fun main E w Y hR hA hE => ?_⟩
        obtain ⟨w', h4, h5, h6⟩ := h3 E w hR hA hE
        obtain ⟨new, e2, hev⟩ := h4 #[]
        have hs' := hstep P main Y w hf2
        rw [e2] at hs'
        refine ⟨w', _, hs', h5, h6, fun e he => hev e ?_⟩
        have := Go.Conc.mem_seen (by simpa using he)
        simpa using this
      · right; right; right
        have e1 : ((results fn fr.tmps).runT (alt P fs) wp #[]).1 = .halt x wp' := by rw [Sem.runT_fst]; exact h1
        have hs := hstep (alt P fs) true X wp hf1
        rw [e1] at hs
        cases x <;> exact ⟨_, _, _, hs⟩
end
end Go.Tw
end
