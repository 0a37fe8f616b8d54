import Derived.Test.YtcdnmnipaaooiaaKitD
import Derived.Test.YtcdnmnipaaooiaaKitB
import Derived.Conc.AppendWalk
-- Written by a program of this session (wip/tools/pack.py): texts of this seat laid one behind the other, without what the claim does not reach
section
namespace Go.Tw
open Go.Conc
section
variable {P : Program} {fs : Array Func} {Stop : Frame → List Frame → World → Prop}
/-- A run is a way down. -/
theorem downs_of_run (hS : StopOk fs Stop) : ∀ (n : Nat) (fr : Frame) (top : List Frame) (w : World) (fr' : Frame) (top' : List Frame) (w' : World), WA P fs Stop (fr, top, w) →
    runN (alt P fs) n (lone fr (top ++ [cat fs]) w) = .next (lone fr' (top' ++ [cat fs]) w') → Downs P fs Stop (fr, top, w) (fr', top', w') := by
  intro n
  induction n with
  | zero =>
    intro fr top w fr' top' w' _ h
    simp only [runN, Stepped.next.injEq] at h
    obtain ⟨rfl, h2, rfl⟩ := lone_inj h
    have := List.append_cancel_right h2
    subst this
    exact .refl _
  | succ n ih =>
    intro fr top w fr' top' w' hwa h
    by_cases hstop : Stop fr top { w with tape := w.tape }
    · exfalso
      obtain rfl := hS.top _ _ _ hstop
      obtain ⟨fn, hf⟩ := hS.fn _ _ _ hstop
      have hm := hS.mode _ _ _ hstop
      have hd := hS.defers _ _ _ hstop
      have hk := hS.kind _ _ _ hstop
      have hq : (alt P fs).funcs[fr.fn]? = some fn := hf
      have hstep : stepG (alt P fs) true (G fr ([] ++ [cat fs])) w = GStep.after (seen (alt P fs) fr.fn ((results fn fr.tmps).runT (alt P fs) w #[]).2) (match ((results fn fr.tmps).runT (alt P fs) w #[]).1 with
          | .ok v w => .go (G ((cat fs).finish v) []) w
          | .halt (.stuck s) w => .ended (.stuck s (fr.pos (alt P fs))) w
          | .halt _ w => .ended (.stuck "return: the result variables cannot be read" (fr.pos (alt P fs))) w) := by
        simp only [G, stepG, hm, unwind, hd, hq, List.nil_append]
        cases hr : (results fn fr.tmps).runT (alt P fs) w #[] with
        | mk r es =>
          cases r with
          | ok v w => simp [doReturn, hk]
          | halt x w => cases x <;> rfl
      cases hres : ((results fn fr.tmps).runT (alt P fs) w #[]).1 with
      | halt x w1 =>
        rw [hres] at hstep
        have : ∃ o w2 es, stepG (alt P fs) true (G fr ([] ++ [cat fs])) w = .ended o w2 es := by cases x <;> exact ⟨_, _, _, hstep⟩
        obtain ⟨o, w2, es, he⟩ := this
        simp only [runN, step_ended he] at h
        cases h
      | ok v w1 =>
        rw [hres] at hstep
        simp only [GStep.after] at hstep
        simp only [runN, step_go hstep] at h
        cases n with
        | zero =>
          simp only [runN, Stepped.next.injEq] at h
          obtain ⟨_, h2, _⟩ := lone_inj h
          cases top' <;> cases h2
        | succ n =>
          have he : ∃ o w2 es, stepG (alt P fs) true (G ((cat fs).finish v) []) w1 = .ended o w2 es := by
            refine ⟨.stuck ("no extern row " ++ "fmt's door") (((cat fs).finish v).pos (alt P fs)), w1, #[], ?_⟩
            have hn : Extern.next "fmt's door" = none := by unfold Extern.next; decide +kernel
            simp only [G, stepG, stepG.exec, cat, Frame.finish, hn, Option.elim]
          obtain ⟨o, w2, es, he⟩ := he
          simp only [runN, step_ended he] at h
          cases h
    · obtain ⟨s', ⟨es, hg⟩, hwa'⟩ := hwa.elim w.tape (fun _ _ _ => rfl) hstop
      have hg' : stepG (alt P fs) true (G fr (top ++ [cat fs])) w = .go (G s'.1 (s'.2.1 ++ [cat fs])) s'.2.2 es := hg
      simp only [runN, step_go hg'] at h
      exact .head ⟨w.tape, fun _ _ _ => rfl, hstop, es, hg⟩ (ih _ _ _ _ _ _ hwa' h)
/-- A contract, from the entry to behind the return. -/
theorem downs_of_calls (hS : StopOk fs Stop) {f : FuncId} {args : Array Value} {c : Frame} {rest : List Frame} {wp : World} (hwa : WA P fs Stop (Frame.enter (alt P fs) f args .normal, c :: rest, wp)) {Q : Value → World → Prop}
    (hC : Calls (alt P fs) f args wp fun e w' => ∃ v, e = .returned v ∧ Q v w') : ∃ v w', Q v w' ∧ Downs P fs Stop (Frame.enter (alt P fs) f args .normal, c :: rest, wp) (c.finish v, rest, w') := by
  obtain ⟨e, w', fr, ⟨v, rfl, hq⟩, ⟨n, hn⟩, _, hl⟩ := hC (c :: rest ++ [cat fs])
  refine ⟨v, w', hq, downs_of_run hS (n + 1) _ _ _ _ _ _ hwa ?_⟩
  rw [runN_add, hn]
  have := step_leave_returned (P := alt P fs) (c := c) (cs := rest ++ [cat fs]) hl
  simp only [runN, List.cons_append, this]
/-- A step of control alone. -/
theorem wa_ctl (hS : StopOk fs Stop) {fr fr' : Frame} {top : List Frame} {w : World} (h : WA P fs Stop (fr, top, w)) (hm : fr.mode = .run) (hr : fr.roundOf = none) (hc : ctl fr = some fr') : WA P fs Stop (fr', top, w) ∧ Down P fs Stop (fr, top, w) (fr', top, w) := by
  have hstop : ¬ Stop fr top { w with tape := w.tape } := fun hs => by rw [hS.mode _ _ _ hs] at hm; cases hm
  have hd : Down P fs Stop (fr, top, w) (fr', top, w) := ⟨w.tape, fun _ _ _ => rfl, hstop, #[], ctl_step hm hr hc⟩
  exact ⟨h.down hd, hd⟩
/-- An operation is not stuck, nor does it panic. -/
theorem wa_next (hp : Pair P fs) (hS : StopOk fs Stop) {fr : Frame} {top : List Frame} {w : World} (h : WA P fs Stop (fr, top, w)) (hm : fr.mode = .run) (hr : fr.roundOf = none) (hk : fr.kind = .normal) (hd : fr.defers = []) (hfn : ∃ fn : Func, fs[fr.fn]? = some fn) (hlow : Low fs top) (hok : OkWd w)
    {ops : Array Oper} {i : Nat} {rest : List Nat} {k : List Item} {o : Oper} (htodo : fr.todo = .inRegion ops (i :: rest) :: k) (ho : ops[i]? = some o) (hw : Region.wanted o (yielded ops fr.tmps) = true) (hop : okOp P o.op = true) :
    ∃ x w', (execOp fr.eval o).run (alt P fs) w = .ok x w' ∧ ((∃ v, x = .value v ∧ WA P fs Stop (fr.finish v, top, w') ∧ Down P fs Stop (fr, top, w) (fr.finish v, top, w')) ∨ (x = .skip ∧ WA P fs Stop (fr.finish undef, top, w') ∧ Down P fs Stop (fr, top, w) (fr.finish undef, top, w')) ∨ ∃ f args, x = .enter f args) := by
  have hstop : ¬ Stop fr top { w with tape := w.tape } := fun hs => by rw [hS.mode _ _ _ hs] at hm; cases hm
  have hstep : ∀ (u : World), stepG (alt P fs) true (G fr (top ++ [cat fs])) u = stepG.apply (alt P fs) true fr (top ++ [cat fs]) none (execOp fr.eval o) u := by
    intro u
    have hw' : (Option.map (fun x => Region.wanted x (yielded ops fr.tmps)) (some o)).getD false = true := hw
    simp only [G, stepG, hm, stepG.exec, htodo, stepG.oper, Frame.oper?, ho, hr, hw', if_true]
  obtain ⟨s', ⟨es, hg⟩, hwa'⟩ := h.elim w.tape (fun _ _ _ => rfl) hstop
  have hg' : stepG (alt P fs) true (G fr (top ++ [cat fs])) w = .go (G s'.1 (s'.2.1 ++ [cat fs])) s'.2.2 es := hg
  rcases simOp (P := P) hp.bodies fr.eval (fun v => rfl) o hop (fun _ => False) w ⟨_, hok.self⟩ with ⟨a, w', h1, h2, h3, h4⟩ | ⟨x, w', h1, h2⟩
  · have e1 : (execOp fr.eval o).runT (alt P fs) w #[] = (.ok a w', ((execOp fr.eval o).runT (alt P fs) w #[]).2) := Prod.ext (by rw [Sem.runT_fst]; exact h1) rfl
    refine ⟨a, w', h1, ?_⟩
    rcases h3 with ⟨v, rfl⟩ | rfl | ⟨f, args, rfl, hf⟩
    · have hgo := (hstep w).trans (apply_value (cs := top ++ [cat fs]) hk e1)
      have hD : Down P fs Stop (fr, top, w) (fr.finish v, top, w') := ⟨w.tape, fun _ _ _ => rfl, hstop, _, hgo⟩
      exact .inl ⟨v, rfl, h.down hD, hD⟩
    · have hgo := (hstep w).trans (apply_skip (cs := top ++ [cat fs]) hk e1)
      have hD : Down P fs Stop (fr, top, w) (fr.finish undef, top, w') := ⟨w.tape, fun _ _ _ => rfl, hstop, _, hgo⟩
      exact .inr (.inl ⟨rfl, h.down hD, hD⟩)
    · exact .inr (.inr ⟨f, args, rfl⟩)
  · exfalso
    rcases apply_bad (p := alt P fs) (fr := fr) (cs := top ++ [cat fs]) (s := execOp fr.eval o) hp.ahead hp.noReady h2 h1 with ⟨v, es', hb⟩ | ⟨o', w₁, es', hb⟩
    · have e := goes1_det (P := P) (fs := fs) (s := (fr, top, w)) (t := w.tape) ⟨es, hg⟩ ⟨es', ((hstep w).trans hb : _)⟩ (s'' := (fr.raise [{ v, recovered := false }], top, w'))
      subst e
      refine wa_pan (fun fr top w ch hs e => by rw [hS.mode _ _ _ hs] at e; cases e) top _ w' _ (by simp [Frame.raise, hm]; rfl) (by simp [Frame.raise, hm, hd]) ?_ hlow hwa'
      simpa [Frame.raise, hm] using hfn
    · rw [hstep, hb] at hg'
      cases hg'
end
end Go.Tw
end

section
set_option linter.unusedSimpArgs false
set_option linter.unusedVariables false
namespace Go.Proofs.Ytcdnmnipaaooiaa
open Go.Conc Go.RowKit Go.Conc.Lib Go.ConcR.Gen Go.Tw
noncomputable def gops0 : Array Oper := match Twin.good with | .seq (.region _ ops _) _ => ops | _ => #[]
noncomputable def gk0 : Code := match Twin.good with | .seq _ c => c | _ => .skip
noncomputable def gk1 : Code := match gk0 with | .seq _ (.seq _ c) => c | _ => .skip
noncomputable def gk2 : Code := match gk1 with | .seq _ (.seq _ c) => c | _ => .skip
noncomputable def gk3 : Code := match gk2 with | .seq _ (.seq _ c) => c | _ => .skip
noncomputable def gl5 (s l : Nat) : Array Oper := match Twin.goodL s l with | .seq _ (.seq _ (.region _ ops _)) => ops | _ => #[]
abbrev DT : World → World → Array Event → Prop := fun _ _ _ => True
/-- What is no slice has no length. -/
theorem len_slice {v : Value} {w w' : World} {x : Value} (h : (Builtin.len_ #[23] 0 #[v]).run Twin.prog w = .ok x w') : ∃ b n c, v = .slice b n c := by
  cases v with
  | slice b n c => exact ⟨b, n, c, rfl⟩
  | _ => simp [Builtin.len_, go_sem] at h
section
variable {F : Nat} {kk : List Item} {cs : List Frame} {w : World} {A B : Option Addr} {n c m d : Nat} {rest : List Value} {v0 v1 v2 v3 v4 v5 v6 v7 v8 v9 v10 v11 v12 v13 v14 v15 v16 v17 v18 v19 v20 v21 v22 v23 v24 v25 v26 v27 v28 v29 v30 : Value}
set_option maxRecDepth 100000 in
set_option maxHeartbeats 4000000 in
theorem ga0  :
    Goes Twin.prog true Eq DT (fun g w' => g = G ((base F).at ⟨(v0 :: v1 :: v2 :: v3 :: v4 :: v5 :: v6 :: v7 :: v8 :: v9 :: v10 :: v11 :: v12 :: v13 :: v14 :: v15 :: v16 :: v17 :: v18 :: v19 :: v20 :: v21 :: v22 :: v23 :: v24 :: v25 :: v26 :: v27 :: v28 :: v29 :: v30 :: rest).toArray, []⟩ (.inRegion gops0 [0, 1] :: .code gk0 :: kk)) cs ∧ w' = w) 3
      (G ((base F).at ⟨(v0 :: v1 :: v2 :: v3 :: v4 :: v5 :: v6 :: v7 :: v8 :: v9 :: v10 :: v11 :: v12 :: v13 :: v14 :: v15 :: v16 :: v17 :: v18 :: v19 :: v20 :: v21 :: v22 :: v23 :: v24 :: v25 :: v26 :: v27 :: v28 :: v29 :: v30 :: rest).toArray, []⟩ (.code Twin.good :: kk)) cs) w := by
  simp only [gops0, gk0, Twin.good]
  refine Goes.step rfl (fun _ h₁ => ?_); subst h₁
  rw [stepG_seq]; simp only [goes_go]; refine ⟨trivial, ?_⟩
  refine Goes.step rfl (fun _ h₁ => ?_); subst h₁
  rw [stepG_region]; simp only [goes_go, List.size_toArray, List.length_cons, List.length_nil, Nat.reduceAdd, Nat.zero_add, List.range, List.range.loop]; refine ⟨trivial, ?_⟩
  exact Goes.stop (fun _ e => by subst e; exact ⟨rfl, rfl⟩)
set_option maxRecDepth 100000 in
set_option maxHeartbeats 4000000 in
theorem ga1  :
    Goes Twin.prog true Eq DT (fun g w' => g = G ((base F).at ⟨(.slice A n c :: v1 :: .int .i64 (n : Nat) :: v3 :: v4 :: v5 :: v6 :: v7 :: v8 :: v9 :: v10 :: v11 :: v12 :: v13 :: v14 :: v15 :: v16 :: v17 :: v18 :: v19 :: v20 :: v21 :: v22 :: v23 :: v24 :: v25 :: v26 :: v27 :: v28 :: v29 :: v30 :: rest).toArray, []⟩ (.inRegion gops0 [1] :: .code gk0 :: kk)) cs ∧ w' = w) 2
      (G ((base F).at ⟨(.slice A n c :: v1 :: v2 :: v3 :: v4 :: v5 :: v6 :: v7 :: v8 :: v9 :: v10 :: v11 :: v12 :: v13 :: v14 :: v15 :: v16 :: v17 :: v18 :: v19 :: v20 :: v21 :: v22 :: v23 :: v24 :: v25 :: v26 :: v27 :: v28 :: v29 :: v30 :: rest).toArray, []⟩ (.inRegion gops0 [0, 1] :: .code gk0 :: kk)) cs) w := by
  simp only [gops0, gk0, Twin.good]
  refine Goes.step rfl (fun _ h₁ => ?_); subst h₁
  refine goes_oper_k rfl rfl (by k_ne) (fun K hK => ?_)
  go_simp
  refine hK _ _ ⟨trivial, ?_⟩
  clear hK K
  try w_num
  exact Goes.stop (fun _ e => by subst e; exact ⟨rfl, rfl⟩)
set_option maxRecDepth 100000 in
set_option maxHeartbeats 4000000 in
theorem ga2  :
    Goes Twin.prog true Eq DT (fun g w' => g = G ((base F).at ⟨(.slice A n c :: .slice B m d :: .int .i64 (n : Nat) :: .int .i64 (m : Nat) :: v4 :: v5 :: v6 :: v7 :: v8 :: v9 :: v10 :: v11 :: v12 :: v13 :: v14 :: v15 :: v16 :: v17 :: v18 :: v19 :: v20 :: v21 :: v22 :: v23 :: v24 :: v25 :: v26 :: v27 :: v28 :: v29 :: v30 :: rest).toArray, []⟩ (.inRegion gops0 [] :: .code gk0 :: kk)) cs ∧ w' = w) 2
      (G ((base F).at ⟨(.slice A n c :: .slice B m d :: .int .i64 (n : Nat) :: v3 :: v4 :: v5 :: v6 :: v7 :: v8 :: v9 :: v10 :: v11 :: v12 :: v13 :: v14 :: v15 :: v16 :: v17 :: v18 :: v19 :: v20 :: v21 :: v22 :: v23 :: v24 :: v25 :: v26 :: v27 :: v28 :: v29 :: v30 :: rest).toArray, []⟩ (.inRegion gops0 [1] :: .code gk0 :: kk)) cs) w := by
  simp only [gops0, gk0, Twin.good]
  refine Goes.step rfl (fun _ h₁ => ?_); subst h₁
  refine goes_oper_k rfl rfl (by k_ne) (fun K hK => ?_)
  go_simp
  refine hK _ _ ⟨trivial, ?_⟩
  clear hK K
  try w_num
  exact Goes.stop (fun _ e => by subst e; exact ⟨rfl, rfl⟩)
set_option maxRecDepth 100000 in
set_option maxHeartbeats 4000000 in
theorem ga3f (h : ¬ n ≤ 9223372036854775807) :
    Goes Twin.prog true Eq DT (fun g w' => g = G ((base F).at ⟨(.slice A n c :: .slice B m d :: .int .i64 (n : Nat) :: .int .i64 (m : Nat) :: v4 :: v5 :: v6 :: v7 :: v8 :: v9 :: .bool false :: v11 :: v12 :: v13 :: v14 :: v15 :: v16 :: v17 :: v18 :: v19 :: v20 :: v21 :: v22 :: v23 :: v24 :: v25 :: v26 :: v27 :: v28 :: v29 :: v30 :: rest).toArray, []⟩ (.code (.refuse "n") :: .code gk1 :: kk)) cs ∧ w' = w) 10
      (G ((base F).at ⟨(.slice A n c :: .slice B m d :: .int .i64 (n : Nat) :: .int .i64 (m : Nat) :: v4 :: v5 :: v6 :: v7 :: v8 :: v9 :: v10 :: v11 :: v12 :: v13 :: v14 :: v15 :: v16 :: v17 :: v18 :: v19 :: v20 :: v21 :: v22 :: v23 :: v24 :: v25 :: v26 :: v27 :: v28 :: v29 :: v30 :: rest).toArray, []⟩ (.inRegion gops0 [] :: .code gk0 :: kk)) cs) w := by
  simp only [gops0, gk0, gk1, Twin.good]
  have hf : ¬ (n : Int) ≤ 9223372036854775807 := by omega
  refine Goes.step rfl (fun _ h₁ => ?_); subst h₁
  rw [stepG_region_end]; simp only [goes_go]; refine ⟨trivial, ?_⟩
  refine Goes.step rfl (fun _ h₁ => ?_); subst h₁
  rw [stepG_seq]; simp only [goes_go]; refine ⟨trivial, ?_⟩
  refine Goes.step rfl (fun _ h₁ => ?_); subst h₁
  rw [stepG_region]; simp only [goes_go, List.size_toArray, List.length_cons, List.length_nil, Nat.reduceAdd, Nat.zero_add, List.range, List.range.loop]; refine ⟨trivial, ?_⟩
  refine Goes.step rfl (fun _ h₁ => ?_); subst h₁
  refine goes_oper_k rfl rfl (by k_ne) (fun K hK => ?_)
  go_simp
  refine hK _ _ ⟨trivial, ?_⟩
  clear hK K
  try w_num
  refine Goes.step rfl (fun _ h₁ => ?_); subst h₁
  rw [stepG_region_end]; simp only [goes_go]; refine ⟨trivial, ?_⟩
  refine Goes.step rfl (fun _ h₁ => ?_); subst h₁
  rw [stepG_seq]; simp only [goes_go]; refine ⟨trivial, ?_⟩
  refine Goes.step rfl (fun _ h₁ => ?_); subst h₁
  rw [stepG_cond (t := false) rfl]; simp only [goes_go, if_true, if_false, Bool.false_eq_true, ↓reduceIte]; refine ⟨trivial, ?_⟩
  exact Goes.stop (fun _ e => by subst e; exact ⟨rfl, rfl⟩)
set_option maxRecDepth 100000 in
set_option maxHeartbeats 4000000 in
theorem ga3 (h : n ≤ 9223372036854775807) :
    Goes Twin.prog true Eq DT (fun g w' => g = G ((base F).at ⟨(.slice A n c :: .slice B m d :: .int .i64 (n : Nat) :: .int .i64 (m : Nat) :: v4 :: v5 :: v6 :: v7 :: v8 :: v9 :: .bool true :: v11 :: v12 :: v13 :: v14 :: v15 :: v16 :: v17 :: v18 :: v19 :: v20 :: v21 :: v22 :: v23 :: v24 :: v25 :: v26 :: v27 :: v28 :: v29 :: v30 :: rest).toArray, []⟩ (.code gk1 :: kk)) cs ∧ w' = w) 10
      (G ((base F).at ⟨(.slice A n c :: .slice B m d :: .int .i64 (n : Nat) :: .int .i64 (m : Nat) :: v4 :: v5 :: v6 :: v7 :: v8 :: v9 :: v10 :: v11 :: v12 :: v13 :: v14 :: v15 :: v16 :: v17 :: v18 :: v19 :: v20 :: v21 :: v22 :: v23 :: v24 :: v25 :: v26 :: v27 :: v28 :: v29 :: v30 :: rest).toArray, []⟩ (.inRegion gops0 [] :: .code gk0 :: kk)) cs) w := by
  simp only [gops0, gk0, gk1, Twin.good]
  have hf : (n : Int) ≤ 9223372036854775807 := by omega
  refine Goes.step rfl (fun _ h₁ => ?_); subst h₁
  rw [stepG_region_end]; simp only [goes_go]; refine ⟨trivial, ?_⟩
  refine Goes.step rfl (fun _ h₁ => ?_); subst h₁
  rw [stepG_seq]; simp only [goes_go]; refine ⟨trivial, ?_⟩
  refine Goes.step rfl (fun _ h₁ => ?_); subst h₁
  rw [stepG_region]; simp only [goes_go, List.size_toArray, List.length_cons, List.length_nil, Nat.reduceAdd, Nat.zero_add, List.range, List.range.loop]; refine ⟨trivial, ?_⟩
  refine Goes.step rfl (fun _ h₁ => ?_); subst h₁
  refine goes_oper_k rfl rfl (by k_ne) (fun K hK => ?_)
  go_simp
  refine hK _ _ ⟨trivial, ?_⟩
  clear hK K
  try w_num
  refine Goes.step rfl (fun _ h₁ => ?_); subst h₁
  rw [stepG_region_end]; simp only [goes_go]; refine ⟨trivial, ?_⟩
  refine Goes.step rfl (fun _ h₁ => ?_); subst h₁
  rw [stepG_seq]; simp only [goes_go]; refine ⟨trivial, ?_⟩
  refine Goes.step rfl (fun _ h₁ => ?_); subst h₁
  rw [stepG_cond (t := true) rfl]; simp only [goes_go, if_true, if_false, Bool.false_eq_true, ↓reduceIte]; refine ⟨trivial, ?_⟩
  refine Goes.step rfl (fun _ h₁ => ?_); subst h₁
  rw [stepG_skip]; simp only [goes_go]; refine ⟨trivial, ?_⟩
  exact Goes.stop (fun _ e => by subst e; exact ⟨rfl, rfl⟩)
set_option maxRecDepth 100000 in
set_option maxHeartbeats 4000000 in
theorem ga4f (h : ¬ m ≤ 9223372036854775807) :
    Goes Twin.prog true Eq DT (fun g w' => g = G ((base F).at ⟨(.slice A n c :: .slice B m d :: .int .i64 (n : Nat) :: .int .i64 (m : Nat) :: v4 :: v5 :: v6 :: v7 :: v8 :: v9 :: .bool false :: v11 :: v12 :: v13 :: v14 :: v15 :: v16 :: v17 :: v18 :: v19 :: v20 :: v21 :: v22 :: v23 :: v24 :: v25 :: v26 :: v27 :: v28 :: v29 :: v30 :: rest).toArray, []⟩ (.code (.refuse "n") :: .code gk2 :: kk)) cs ∧ w' = w) 10
      (G ((base F).at ⟨(.slice A n c :: .slice B m d :: .int .i64 (n : Nat) :: .int .i64 (m : Nat) :: v4 :: v5 :: v6 :: v7 :: v8 :: v9 :: .bool true :: v11 :: v12 :: v13 :: v14 :: v15 :: v16 :: v17 :: v18 :: v19 :: v20 :: v21 :: v22 :: v23 :: v24 :: v25 :: v26 :: v27 :: v28 :: v29 :: v30 :: rest).toArray, []⟩ (.code gk1 :: kk)) cs) w := by
  simp only [gk0, gk1, gk2, Twin.good]
  have hf : ¬ (m : Int) ≤ 9223372036854775807 := by omega
  refine Goes.step rfl (fun _ h₁ => ?_); subst h₁
  rw [stepG_seq]; simp only [goes_go]; refine ⟨trivial, ?_⟩
  refine Goes.step rfl (fun _ h₁ => ?_); subst h₁
  rw [stepG_region]; simp only [goes_go, List.size_toArray, List.length_cons, List.length_nil, Nat.reduceAdd, Nat.zero_add, List.range, List.range.loop]; refine ⟨trivial, ?_⟩
  refine Goes.step rfl (fun _ h₁ => ?_); subst h₁
  refine goes_oper_k rfl rfl (by k_ne) (fun K hK => ?_)
  go_simp
  refine hK _ _ ⟨trivial, ?_⟩
  clear hK K
  try w_num
  refine Goes.step rfl (fun _ h₁ => ?_); subst h₁
  rw [stepG_region_end]; simp only [goes_go]; refine ⟨trivial, ?_⟩
  refine Goes.step rfl (fun _ h₁ => ?_); subst h₁
  rw [stepG_seq]; simp only [goes_go]; refine ⟨trivial, ?_⟩
  refine Goes.step rfl (fun _ h₁ => ?_); subst h₁
  rw [stepG_cond (t := false) rfl]; simp only [goes_go, if_true, if_false, Bool.false_eq_true, ↓reduceIte]; refine ⟨trivial, ?_⟩
  exact Goes.stop (fun _ e => by subst e; exact ⟨rfl, rfl⟩)
set_option maxRecDepth 100000 in
set_option maxHeartbeats 4000000 in
theorem ga4 (h : m ≤ 9223372036854775807) :
    Goes Twin.prog true Eq DT (fun g w' => g = G ((base F).at ⟨(.slice A n c :: .slice B m d :: .int .i64 (n : Nat) :: .int .i64 (m : Nat) :: v4 :: v5 :: v6 :: v7 :: v8 :: v9 :: .bool true :: .int .i64 (0 : Nat) :: v12 :: v13 :: v14 :: v15 :: v16 :: v17 :: v18 :: v19 :: v20 :: v21 :: v22 :: v23 :: v24 :: v25 :: v26 :: v27 :: v28 :: v29 :: v30 :: rest).toArray, []⟩ (.code (Twin.goodL 0 2) :: .inLoop (Twin.goodL 0 2) :: .inBlock 0 :: .code gk3 :: kk)) cs ∧ w' = w) 20
      (G ((base F).at ⟨(.slice A n c :: .slice B m d :: .int .i64 (n : Nat) :: .int .i64 (m : Nat) :: v4 :: v5 :: v6 :: v7 :: v8 :: v9 :: .bool true :: v11 :: v12 :: v13 :: v14 :: v15 :: v16 :: v17 :: v18 :: v19 :: v20 :: v21 :: v22 :: v23 :: v24 :: v25 :: v26 :: v27 :: v28 :: v29 :: v30 :: rest).toArray, []⟩ (.code gk1 :: kk)) cs) w := by
  simp only [gk0, gk1, gk2, gk3, Twin.good]
  have hf : (m : Int) ≤ 9223372036854775807 := by omega
  refine Goes.step rfl (fun _ h₁ => ?_); subst h₁
  rw [stepG_seq]; simp only [goes_go]; refine ⟨trivial, ?_⟩
  refine Goes.step rfl (fun _ h₁ => ?_); subst h₁
  rw [stepG_region]; simp only [goes_go, List.size_toArray, List.length_cons, List.length_nil, Nat.reduceAdd, Nat.zero_add, List.range, List.range.loop]; refine ⟨trivial, ?_⟩
  refine Goes.step rfl (fun _ h₁ => ?_); subst h₁
  refine goes_oper_k rfl rfl (by k_ne) (fun K hK => ?_)
  go_simp
  refine hK _ _ ⟨trivial, ?_⟩
  clear hK K
  try w_num
  refine Goes.step rfl (fun _ h₁ => ?_); subst h₁
  rw [stepG_region_end]; simp only [goes_go]; refine ⟨trivial, ?_⟩
  refine Goes.step rfl (fun _ h₁ => ?_); subst h₁
  rw [stepG_seq]; simp only [goes_go]; refine ⟨trivial, ?_⟩
  refine Goes.step rfl (fun _ h₁ => ?_); subst h₁
  rw [stepG_cond (t := true) rfl]; simp only [goes_go, if_true, if_false, Bool.false_eq_true, ↓reduceIte]; refine ⟨trivial, ?_⟩
  refine Goes.step rfl (fun _ h₁ => ?_); subst h₁
  rw [stepG_skip]; simp only [goes_go]; refine ⟨trivial, ?_⟩
  refine Goes.step rfl (fun _ h₁ => ?_); subst h₁
  rw [stepG_seq]; simp only [goes_go]; refine ⟨trivial, ?_⟩
  refine Goes.step rfl (fun _ h₁ => ?_); subst h₁
  rw [stepG_region]; simp only [goes_go, List.size_toArray, List.length_cons, List.length_nil, Nat.reduceAdd, Nat.zero_add, List.range, List.range.loop]; refine ⟨trivial, ?_⟩
  refine Goes.step rfl (fun _ h₁ => ?_); subst h₁
  refine goes_oper_k rfl rfl (by k_ne) (fun K hK => ?_)
  go_simp
  refine hK _ _ ⟨trivial, ?_⟩
  clear hK K
  try w_num
  refine Goes.step rfl (fun _ h₁ => ?_); subst h₁
  rw [stepG_region_end]; simp only [goes_go]; refine ⟨trivial, ?_⟩
  refine Goes.step rfl (fun _ h₁ => ?_); subst h₁
  rw [stepG_seq]; simp only [goes_go]; refine ⟨trivial, ?_⟩
  refine Goes.step rfl (fun _ h₁ => ?_); subst h₁
  rw [stepG_block]; simp only [goes_go]; refine ⟨trivial, ?_⟩
  refine Goes.step rfl (fun _ h₁ => ?_); subst h₁
  rw [stepG_loop]; simp only [goes_go]; refine ⟨trivial, ?_⟩
  exact Goes.stop (fun _ e => by subst e; exact ⟨rfl, rfl⟩)
set_option maxRecDepth 100000 in
set_option maxHeartbeats 4000000 in
theorem ga5  :
    Goes Twin.prog true Eq DT (fun g w' => g = G ((base F).at ⟨(.slice A n c :: .slice B m d :: .int .i64 (n : Nat) :: .int .i64 (m : Nat) :: v4 :: v5 :: v6 :: v7 :: v8 :: v9 :: v10 :: .int .i64 (0 : Nat) :: v12 :: v13 :: v14 :: v15 :: v16 :: v17 :: v18 :: v19 :: v20 :: v21 :: v22 :: v23 :: v24 :: v25 :: v26 :: v27 :: v28 :: v29 :: v30 :: rest).toArray, []⟩ (.code (Twin.goodL 1 3) :: .inLoop (Twin.goodL 1 3) :: .inBlock 0 :: kk)) cs ∧ w' = w) 20
      (G ((base F).at ⟨(.slice A n c :: .slice B m d :: .int .i64 (n : Nat) :: .int .i64 (m : Nat) :: v4 :: v5 :: v6 :: v7 :: v8 :: v9 :: v10 :: .int .i64 (n : Nat) :: v12 :: v13 :: v14 :: v15 :: v16 :: v17 :: v18 :: v19 :: v20 :: v21 :: v22 :: v23 :: v24 :: v25 :: v26 :: v27 :: v28 :: v29 :: v30 :: rest).toArray, []⟩ (.code gk3 :: kk)) cs) w := by
  simp only [gk0, gk1, gk2, gk3, Twin.good]
  refine Goes.step rfl (fun _ h₁ => ?_); subst h₁
  rw [stepG_seq]; simp only [goes_go]; refine ⟨trivial, ?_⟩
  refine Goes.step rfl (fun _ h₁ => ?_); subst h₁
  rw [stepG_region]; simp only [goes_go, List.size_toArray, List.length_cons, List.length_nil, Nat.reduceAdd, Nat.zero_add, List.range, List.range.loop]; refine ⟨trivial, ?_⟩
  refine Goes.step rfl (fun _ h₁ => ?_); subst h₁
  refine goes_oper_k rfl rfl (by k_ne) (fun K hK => ?_)
  go_simp
  refine hK _ _ ⟨trivial, ?_⟩
  clear hK K
  try w_num
  refine Goes.step rfl (fun _ h₁ => ?_); subst h₁
  rw [stepG_region_end]; simp only [goes_go]; refine ⟨trivial, ?_⟩
  refine Goes.step rfl (fun _ h₁ => ?_); subst h₁
  rw [stepG_block]; simp only [goes_go]; refine ⟨trivial, ?_⟩
  refine Goes.step rfl (fun _ h₁ => ?_); subst h₁
  rw [stepG_loop]; simp only [goes_go]; refine ⟨trivial, ?_⟩
  exact Goes.stop (fun _ e => by subst e; exact ⟨rfl, rfl⟩)
set_option maxRecDepth 100000 in
set_option maxHeartbeats 4000000 in
theorem gb0 {j : Nat} (hj : j < n) :
    Goes Twin.prog true Eq DT (fun g w' => g = G ((base F).at ⟨(.slice A n c :: .slice B m d :: .int .i64 (n : Nat) :: .int .i64 (m : Nat) :: v4 :: v5 :: v6 :: v7 :: v8 :: v9 :: .bool true :: .int .i64 (j : Nat) :: v12 :: v13 :: v14 :: v15 :: v16 :: v17 :: v18 :: v19 :: v20 :: v21 :: v22 :: v23 :: v24 :: v25 :: v26 :: v27 :: v28 :: v29 :: v30 :: rest).toArray, []⟩ (.inRegion (gl5 0 2) [0, 1, 2, 3] :: .inLoop (Twin.goodL 0 2) :: .inBlock 0 :: kk)) cs ∧ w' = w) 12
      (G ((base F).at ⟨(.slice A n c :: .slice B m d :: .int .i64 (n : Nat) :: .int .i64 (m : Nat) :: v4 :: v5 :: v6 :: v7 :: v8 :: v9 :: v10 :: .int .i64 (j : Nat) :: v12 :: v13 :: v14 :: v15 :: v16 :: v17 :: v18 :: v19 :: v20 :: v21 :: v22 :: v23 :: v24 :: v25 :: v26 :: v27 :: v28 :: v29 :: v30 :: rest).toArray, []⟩ (.code (Twin.goodL 0 2) :: .inLoop (Twin.goodL 0 2) :: .inBlock 0 :: kk)) cs) w := by
  simp only [gl5, Twin.goodL]
  have hf : (j : Int) < (n : Int) := by omega
  refine Goes.step rfl (fun _ h₁ => ?_); subst h₁
  rw [stepG_seq]; simp only [goes_go]; refine ⟨trivial, ?_⟩
  refine Goes.step rfl (fun _ h₁ => ?_); subst h₁
  rw [stepG_region]; simp only [goes_go, List.size_toArray, List.length_cons, List.length_nil, Nat.reduceAdd, Nat.zero_add, List.range, List.range.loop]; refine ⟨trivial, ?_⟩
  refine Goes.step rfl (fun _ h₁ => ?_); subst h₁
  refine goes_oper_k rfl rfl (by k_ne) (fun K hK => ?_)
  go_simp
  refine hK _ _ ⟨trivial, ?_⟩
  clear hK K
  try w_num
  refine Goes.step rfl (fun _ h₁ => ?_); subst h₁
  rw [stepG_region_end]; simp only [goes_go]; refine ⟨trivial, ?_⟩
  refine Goes.step rfl (fun _ h₁ => ?_); subst h₁
  rw [stepG_seq]; simp only [goes_go]; refine ⟨trivial, ?_⟩
  refine Goes.step rfl (fun _ h₁ => ?_); subst h₁
  rw [stepG_cond (t := true) rfl]; simp only [goes_go, if_true, if_false, Bool.false_eq_true, ↓reduceIte]; refine ⟨trivial, ?_⟩
  refine Goes.step rfl (fun _ h₁ => ?_); subst h₁
  rw [stepG_skip]; simp only [goes_go]; refine ⟨trivial, ?_⟩
  refine Goes.step rfl (fun _ h₁ => ?_); subst h₁
  rw [stepG_region]; simp only [goes_go, List.size_toArray, List.length_cons, List.length_nil, Nat.reduceAdd, Nat.zero_add, List.range, List.range.loop]; refine ⟨trivial, ?_⟩
  exact Goes.stop (fun _ e => by subst e; exact ⟨rfl, rfl⟩)
set_option maxRecDepth 100000 in
set_option maxHeartbeats 4000000 in
theorem gx0  :
    Goes Twin.prog true Eq DT (fun g w' => g = G ((base F).at ⟨(.slice A n c :: .slice B m d :: .int .i64 (n : Nat) :: .int .i64 (m : Nat) :: v4 :: v5 :: v6 :: v7 :: v8 :: v9 :: .bool false :: .int .i64 (n : Nat) :: v12 :: v13 :: v14 :: v15 :: v16 :: v17 :: v18 :: v19 :: v20 :: v21 :: v22 :: v23 :: v24 :: v25 :: v26 :: v27 :: v28 :: v29 :: v30 :: rest).toArray, []⟩ (kk)) cs ∧ w' = w) 12
      (G ((base F).at ⟨(.slice A n c :: .slice B m d :: .int .i64 (n : Nat) :: .int .i64 (m : Nat) :: v4 :: v5 :: v6 :: v7 :: v8 :: v9 :: v10 :: .int .i64 (n : Nat) :: v12 :: v13 :: v14 :: v15 :: v16 :: v17 :: v18 :: v19 :: v20 :: v21 :: v22 :: v23 :: v24 :: v25 :: v26 :: v27 :: v28 :: v29 :: v30 :: rest).toArray, []⟩ (.code (Twin.goodL 0 2) :: .inLoop (Twin.goodL 0 2) :: .inBlock 0 :: kk)) cs) w := by
  simp only [Twin.goodL]
  have hf : ¬ (n : Int) < (n : Int) := by omega
  refine Goes.step rfl (fun _ h₁ => ?_); subst h₁
  rw [stepG_seq]; simp only [goes_go]; refine ⟨trivial, ?_⟩
  refine Goes.step rfl (fun _ h₁ => ?_); subst h₁
  rw [stepG_region]; simp only [goes_go, List.size_toArray, List.length_cons, List.length_nil, Nat.reduceAdd, Nat.zero_add, List.range, List.range.loop]; refine ⟨trivial, ?_⟩
  refine Goes.step rfl (fun _ h₁ => ?_); subst h₁
  refine goes_oper_k rfl rfl (by k_ne) (fun K hK => ?_)
  go_simp
  refine hK _ _ ⟨trivial, ?_⟩
  clear hK K
  try w_num
  refine Goes.step rfl (fun _ h₁ => ?_); subst h₁
  rw [stepG_region_end]; simp only [goes_go]; refine ⟨trivial, ?_⟩
  refine Goes.step rfl (fun _ h₁ => ?_); subst h₁
  rw [stepG_seq]; simp only [goes_go]; refine ⟨trivial, ?_⟩
  refine Goes.step rfl (fun _ h₁ => ?_); subst h₁
  rw [stepG_cond (t := false) rfl]; simp only [goes_go, if_true, if_false, Bool.false_eq_true, ↓reduceIte]; refine ⟨trivial, ?_⟩
  refine Goes.step rfl (fun _ h₁ => ?_); subst h₁
  rw [stepG_exit (k' := kk) (by simp [exitTo])]; simp only [goes_go]; refine ⟨trivial, ?_⟩
  exact Goes.stop (fun _ e => by subst e; exact ⟨rfl, rfl⟩)
set_option maxRecDepth 100000 in
set_option maxHeartbeats 4000000 in
theorem gb1 {j : Nat} (hj : j < m) :
    Goes Twin.prog true Eq DT (fun g w' => g = G ((base F).at ⟨(.slice A n c :: .slice B m d :: .int .i64 (n : Nat) :: .int .i64 (m : Nat) :: v4 :: v5 :: v6 :: v7 :: v8 :: v9 :: .bool true :: .int .i64 (j : Nat) :: v12 :: v13 :: v14 :: v15 :: v16 :: v17 :: v18 :: v19 :: v20 :: v21 :: v22 :: v23 :: v24 :: v25 :: v26 :: v27 :: v28 :: v29 :: v30 :: rest).toArray, []⟩ (.inRegion (gl5 1 3) [0, 1, 2, 3] :: .inLoop (Twin.goodL 1 3) :: .inBlock 0 :: kk)) cs ∧ w' = w) 12
      (G ((base F).at ⟨(.slice A n c :: .slice B m d :: .int .i64 (n : Nat) :: .int .i64 (m : Nat) :: v4 :: v5 :: v6 :: v7 :: v8 :: v9 :: v10 :: .int .i64 (j : Nat) :: v12 :: v13 :: v14 :: v15 :: v16 :: v17 :: v18 :: v19 :: v20 :: v21 :: v22 :: v23 :: v24 :: v25 :: v26 :: v27 :: v28 :: v29 :: v30 :: rest).toArray, []⟩ (.code (Twin.goodL 1 3) :: .inLoop (Twin.goodL 1 3) :: .inBlock 0 :: kk)) cs) w := by
  simp only [gl5, Twin.goodL]
  have hf : (j : Int) < (m : Int) := by omega
  refine Goes.step rfl (fun _ h₁ => ?_); subst h₁
  rw [stepG_seq]; simp only [goes_go]; refine ⟨trivial, ?_⟩
  refine Goes.step rfl (fun _ h₁ => ?_); subst h₁
  rw [stepG_region]; simp only [goes_go, List.size_toArray, List.length_cons, List.length_nil, Nat.reduceAdd, Nat.zero_add, List.range, List.range.loop]; refine ⟨trivial, ?_⟩
  refine Goes.step rfl (fun _ h₁ => ?_); subst h₁
  refine goes_oper_k rfl rfl (by k_ne) (fun K hK => ?_)
  go_simp
  refine hK _ _ ⟨trivial, ?_⟩
  clear hK K
  try w_num
  refine Goes.step rfl (fun _ h₁ => ?_); subst h₁
  rw [stepG_region_end]; simp only [goes_go]; refine ⟨trivial, ?_⟩
  refine Goes.step rfl (fun _ h₁ => ?_); subst h₁
  rw [stepG_seq]; simp only [goes_go]; refine ⟨trivial, ?_⟩
  refine Goes.step rfl (fun _ h₁ => ?_); subst h₁
  rw [stepG_cond (t := true) rfl]; simp only [goes_go, if_true, if_false, Bool.false_eq_true, ↓reduceIte]; refine ⟨trivial, ?_⟩
  refine Goes.step rfl (fun _ h₁ => ?_); subst h₁
  rw [stepG_skip]; simp only [goes_go]; refine ⟨trivial, ?_⟩
  refine Goes.step rfl (fun _ h₁ => ?_); subst h₁
  rw [stepG_region]; simp only [goes_go, List.size_toArray, List.length_cons, List.length_nil, Nat.reduceAdd, Nat.zero_add, List.range, List.range.loop]; refine ⟨trivial, ?_⟩
  exact Goes.stop (fun _ e => by subst e; exact ⟨rfl, rfl⟩)
set_option maxRecDepth 100000 in
set_option maxHeartbeats 4000000 in
theorem gx1  :
    Goes Twin.prog true Eq DT (fun g w' => g = G ((base F).at ⟨(.slice A n c :: .slice B m d :: .int .i64 (n : Nat) :: .int .i64 (m : Nat) :: v4 :: v5 :: v6 :: v7 :: v8 :: v9 :: .bool false :: .int .i64 (m : Nat) :: v12 :: v13 :: v14 :: v15 :: v16 :: v17 :: v18 :: v19 :: v20 :: v21 :: v22 :: v23 :: v24 :: v25 :: v26 :: v27 :: v28 :: v29 :: v30 :: rest).toArray, []⟩ (kk)) cs ∧ w' = w) 12
      (G ((base F).at ⟨(.slice A n c :: .slice B m d :: .int .i64 (n : Nat) :: .int .i64 (m : Nat) :: v4 :: v5 :: v6 :: v7 :: v8 :: v9 :: v10 :: .int .i64 (m : Nat) :: v12 :: v13 :: v14 :: v15 :: v16 :: v17 :: v18 :: v19 :: v20 :: v21 :: v22 :: v23 :: v24 :: v25 :: v26 :: v27 :: v28 :: v29 :: v30 :: rest).toArray, []⟩ (.code (Twin.goodL 1 3) :: .inLoop (Twin.goodL 1 3) :: .inBlock 0 :: kk)) cs) w := by
  simp only [Twin.goodL]
  have hf : ¬ (m : Int) < (m : Int) := by omega
  refine Goes.step rfl (fun _ h₁ => ?_); subst h₁
  rw [stepG_seq]; simp only [goes_go]; refine ⟨trivial, ?_⟩
  refine Goes.step rfl (fun _ h₁ => ?_); subst h₁
  rw [stepG_region]; simp only [goes_go, List.size_toArray, List.length_cons, List.length_nil, Nat.reduceAdd, Nat.zero_add, List.range, List.range.loop]; refine ⟨trivial, ?_⟩
  refine Goes.step rfl (fun _ h₁ => ?_); subst h₁
  refine goes_oper_k rfl rfl (by k_ne) (fun K hK => ?_)
  go_simp
  refine hK _ _ ⟨trivial, ?_⟩
  clear hK K
  try w_num
  refine Goes.step rfl (fun _ h₁ => ?_); subst h₁
  rw [stepG_region_end]; simp only [goes_go]; refine ⟨trivial, ?_⟩
  refine Goes.step rfl (fun _ h₁ => ?_); subst h₁
  rw [stepG_seq]; simp only [goes_go]; refine ⟨trivial, ?_⟩
  refine Goes.step rfl (fun _ h₁ => ?_); subst h₁
  rw [stepG_cond (t := false) rfl]; simp only [goes_go, if_true, if_false, Bool.false_eq_true, ↓reduceIte]; refine ⟨trivial, ?_⟩
  refine Goes.step rfl (fun _ h₁ => ?_); subst h₁
  rw [stepG_exit (k' := kk) (by simp [exitTo])]; simp only [goes_go]; refine ⟨trivial, ?_⟩
  exact Goes.stop (fun _ e => by subst e; exact ⟨rfl, rfl⟩)
set_option maxRecDepth 100000 in
set_option maxHeartbeats 4000000 in
theorem gc0 {ad : Addr} {j : Nat} (hj : j < n) :
    Goes Twin.prog true Eq DT (fun g w' => g = G ((base F).at ⟨(.slice (some ad) n c :: .slice B m d :: .int .i64 (n : Nat) :: .int .i64 (m : Nat) :: v4 :: v5 :: v6 :: v7 :: v8 :: v9 :: .bool true :: .int .i64 (j : Nat) :: .pointer (some (ad.add j)) :: v13 :: v14 :: v15 :: v16 :: v17 :: v18 :: v19 :: v20 :: v21 :: v22 :: v23 :: v24 :: v25 :: v26 :: v27 :: v28 :: v29 :: v30 :: rest).toArray, []⟩ (.inRegion (gl5 0 2) [1, 2, 3] :: .inLoop (Twin.goodL 0 2) :: .inBlock 0 :: kk)) cs ∧ w' = w) 3
      (G ((base F).at ⟨(.slice (some ad) n c :: .slice B m d :: .int .i64 (n : Nat) :: .int .i64 (m : Nat) :: v4 :: v5 :: v6 :: v7 :: v8 :: v9 :: .bool true :: .int .i64 (j : Nat) :: v12 :: v13 :: v14 :: v15 :: v16 :: v17 :: v18 :: v19 :: v20 :: v21 :: v22 :: v23 :: v24 :: v25 :: v26 :: v27 :: v28 :: v29 :: v30 :: rest).toArray, []⟩ (.inRegion (gl5 0 2) [0, 1, 2, 3] :: .inLoop (Twin.goodL 0 2) :: .inBlock 0 :: kk)) cs) w := by
  simp only [gl5, Twin.goodL]
  have hf : ¬ n ≤ j := by omega
  have hf0 : (0 : Int) ≤ (j : Int) := by omega
  refine Goes.step rfl (fun _ h₁ => ?_); subst h₁
  refine goes_oper_k rfl rfl (by k_ne) (fun K hK => ?_)
  go_simp
  refine hK _ _ ⟨trivial, ?_⟩
  clear hK K
  try w_num
  exact Goes.stop (fun _ e => by subst e; exact ⟨rfl, rfl⟩)
set_option maxRecDepth 100000 in
set_option maxHeartbeats 4000000 in
theorem gd0 {ad : Addr} {j : Nat} {u : Value} (hc : w.cell? (ad.add j) = some u) :
    Goes Twin.prog true Eq DT (fun g w' => g = G ((base F).at ⟨(.slice (some ad) n c :: .slice B m d :: .int .i64 (n : Nat) :: .int .i64 (m : Nat) :: v4 :: v5 :: v6 :: v7 :: v8 :: v9 :: .bool true :: .int .i64 (j : Nat) :: .pointer (some (ad.add j)) :: u :: v14 :: v15 :: v16 :: v17 :: v18 :: v19 :: v20 :: v21 :: v22 :: v23 :: v24 :: v25 :: v26 :: v27 :: v28 :: v29 :: v30 :: rest).toArray, []⟩ (.inRegion (gl5 0 2) [2, 3] :: .inLoop (Twin.goodL 0 2) :: .inBlock 0 :: kk)) cs ∧ w' = w) 3
      (G ((base F).at ⟨(.slice (some ad) n c :: .slice B m d :: .int .i64 (n : Nat) :: .int .i64 (m : Nat) :: v4 :: v5 :: v6 :: v7 :: v8 :: v9 :: .bool true :: .int .i64 (j : Nat) :: .pointer (some (ad.add j)) :: v13 :: v14 :: v15 :: v16 :: v17 :: v18 :: v19 :: v20 :: v21 :: v22 :: v23 :: v24 :: v25 :: v26 :: v27 :: v28 :: v29 :: v30 :: rest).toArray, []⟩ (.inRegion (gl5 0 2) [1, 2, 3] :: .inLoop (Twin.goodL 0 2) :: .inBlock 0 :: kk)) cs) w := by
  simp only [gl5, Twin.goodL]
  refine Goes.step rfl (fun _ h₁ => ?_); subst h₁
  refine goes_oper_k rfl rfl (by k_ne) (fun K hK => ?_)
  go_simp
  try simp only [hc]
  go_simp
  refine hK _ _ ⟨trivial, ?_⟩
  clear hK K
  try w_num
  exact Goes.stop (fun _ e => by subst e; exact ⟨rfl, rfl⟩)
set_option maxRecDepth 100000 in
set_option maxHeartbeats 4000000 in
theorem ge0 {ad : Addr} {j : Nat} {x : Int} (hj : j < n) (hm : n ≤ 9223372036854775807) :
    Goes Twin.prog true Eq DT (fun g w' => g = G ((base F).at ⟨(.slice (some ad) n c :: .slice B m d :: .int .i64 (n : Nat) :: .int .i64 (m : Nat) :: v4 :: v5 :: v6 :: v7 :: v8 :: v9 :: .bool true :: .int .i64 ((j + 1 : Nat) : Int) :: .pointer (some (ad.add j)) :: .int .i64 x :: .bool (decide (x < 0)) :: v15 :: v16 :: v17 :: v18 :: v19 :: v20 :: v21 :: v22 :: v23 :: v24 :: v25 :: v26 :: v27 :: v28 :: v29 :: v30 :: rest).toArray, []⟩ (.code (Twin.goodL 0 2) :: .inLoop (Twin.goodL 0 2) :: .inBlock 0 :: kk)) cs ∧ w' = w) 8
      (G ((base F).at ⟨(.slice (some ad) n c :: .slice B m d :: .int .i64 (n : Nat) :: .int .i64 (m : Nat) :: v4 :: v5 :: v6 :: v7 :: v8 :: v9 :: .bool true :: .int .i64 (j : Nat) :: .pointer (some (ad.add j)) :: .int .i64 x :: v14 :: v15 :: v16 :: v17 :: v18 :: v19 :: v20 :: v21 :: v22 :: v23 :: v24 :: v25 :: v26 :: v27 :: v28 :: v29 :: v30 :: rest).toArray, []⟩ (.inRegion (gl5 0 2) [2, 3] :: .inLoop (Twin.goodL 0 2) :: .inBlock 0 :: kk)) cs) w := by
  simp only [gl5, Twin.goodL]
  have hwr : IntKind.i64.wrap ((j : Int) + 1) = ((j + 1 : Nat) : Int) := by rw [IntKind.wrap_i64]; omega
  refine Goes.step rfl (fun _ h₁ => ?_); subst h₁
  refine goes_oper_k rfl rfl (by k_ne) (fun K hK => ?_)
  go_simp
  refine hK _ _ ⟨trivial, ?_⟩
  clear hK K
  try w_num
  refine Goes.step rfl (fun _ h₁ => ?_); subst h₁
  refine goes_oper_k rfl rfl (by k_ne) (fun K hK => ?_)
  go_simp
  refine hK _ _ ⟨trivial, ?_⟩
  clear hK K
  try w_num
  refine Goes.step rfl (fun _ h₁ => ?_); subst h₁
  rw [stepG_region_end]; simp only [goes_go]; refine ⟨trivial, ?_⟩
  refine Goes.step rfl (fun _ h₁ => ?_); subst h₁
  rw [stepG_inLoop]; simp only [goes_go]; refine ⟨trivial, ?_⟩
  exact Goes.stop (fun _ e => by subst e; exact ⟨rfl, rfl⟩)
set_option maxRecDepth 100000 in
set_option maxHeartbeats 4000000 in
theorem gc1 {ad : Addr} {j : Nat} (hj : j < m) :
    Goes Twin.prog true Eq DT (fun g w' => g = G ((base F).at ⟨(.slice A n c :: .slice (some ad) m d :: .int .i64 (n : Nat) :: .int .i64 (m : Nat) :: v4 :: v5 :: v6 :: v7 :: v8 :: v9 :: .bool true :: .int .i64 (j : Nat) :: .pointer (some (ad.add j)) :: v13 :: v14 :: v15 :: v16 :: v17 :: v18 :: v19 :: v20 :: v21 :: v22 :: v23 :: v24 :: v25 :: v26 :: v27 :: v28 :: v29 :: v30 :: rest).toArray, []⟩ (.inRegion (gl5 1 3) [1, 2, 3] :: .inLoop (Twin.goodL 1 3) :: .inBlock 0 :: kk)) cs ∧ w' = w) 3
      (G ((base F).at ⟨(.slice A n c :: .slice (some ad) m d :: .int .i64 (n : Nat) :: .int .i64 (m : Nat) :: v4 :: v5 :: v6 :: v7 :: v8 :: v9 :: .bool true :: .int .i64 (j : Nat) :: v12 :: v13 :: v14 :: v15 :: v16 :: v17 :: v18 :: v19 :: v20 :: v21 :: v22 :: v23 :: v24 :: v25 :: v26 :: v27 :: v28 :: v29 :: v30 :: rest).toArray, []⟩ (.inRegion (gl5 1 3) [0, 1, 2, 3] :: .inLoop (Twin.goodL 1 3) :: .inBlock 0 :: kk)) cs) w := by
  simp only [gl5, Twin.goodL]
  have hf : ¬ m ≤ j := by omega
  have hf0 : (0 : Int) ≤ (j : Int) := by omega
  refine Goes.step rfl (fun _ h₁ => ?_); subst h₁
  refine goes_oper_k rfl rfl (by k_ne) (fun K hK => ?_)
  go_simp
  refine hK _ _ ⟨trivial, ?_⟩
  clear hK K
  try w_num
  exact Goes.stop (fun _ e => by subst e; exact ⟨rfl, rfl⟩)
set_option maxRecDepth 100000 in
set_option maxHeartbeats 4000000 in
theorem gd1 {ad : Addr} {j : Nat} {u : Value} (hc : w.cell? (ad.add j) = some u) :
    Goes Twin.prog true Eq DT (fun g w' => g = G ((base F).at ⟨(.slice A n c :: .slice (some ad) m d :: .int .i64 (n : Nat) :: .int .i64 (m : Nat) :: v4 :: v5 :: v6 :: v7 :: v8 :: v9 :: .bool true :: .int .i64 (j : Nat) :: .pointer (some (ad.add j)) :: u :: v14 :: v15 :: v16 :: v17 :: v18 :: v19 :: v20 :: v21 :: v22 :: v23 :: v24 :: v25 :: v26 :: v27 :: v28 :: v29 :: v30 :: rest).toArray, []⟩ (.inRegion (gl5 1 3) [2, 3] :: .inLoop (Twin.goodL 1 3) :: .inBlock 0 :: kk)) cs ∧ w' = w) 3
      (G ((base F).at ⟨(.slice A n c :: .slice (some ad) m d :: .int .i64 (n : Nat) :: .int .i64 (m : Nat) :: v4 :: v5 :: v6 :: v7 :: v8 :: v9 :: .bool true :: .int .i64 (j : Nat) :: .pointer (some (ad.add j)) :: v13 :: v14 :: v15 :: v16 :: v17 :: v18 :: v19 :: v20 :: v21 :: v22 :: v23 :: v24 :: v25 :: v26 :: v27 :: v28 :: v29 :: v30 :: rest).toArray, []⟩ (.inRegion (gl5 1 3) [1, 2, 3] :: .inLoop (Twin.goodL 1 3) :: .inBlock 0 :: kk)) cs) w := by
  simp only [gl5, Twin.goodL]
  refine Goes.step rfl (fun _ h₁ => ?_); subst h₁
  refine goes_oper_k rfl rfl (by k_ne) (fun K hK => ?_)
  go_simp
  try simp only [hc]
  go_simp
  refine hK _ _ ⟨trivial, ?_⟩
  clear hK K
  try w_num
  exact Goes.stop (fun _ e => by subst e; exact ⟨rfl, rfl⟩)
set_option maxRecDepth 100000 in
set_option maxHeartbeats 4000000 in
theorem ge1 {ad : Addr} {j : Nat} {x : Int} (hj : j < m) (hm : m ≤ 9223372036854775807) :
    Goes Twin.prog true Eq DT (fun g w' => g = G ((base F).at ⟨(.slice A n c :: .slice (some ad) m d :: .int .i64 (n : Nat) :: .int .i64 (m : Nat) :: v4 :: v5 :: v6 :: v7 :: v8 :: v9 :: .bool true :: .int .i64 ((j + 1 : Nat) : Int) :: .pointer (some (ad.add j)) :: .int .i64 x :: .bool (decide (x < 0)) :: v15 :: v16 :: v17 :: v18 :: v19 :: v20 :: v21 :: v22 :: v23 :: v24 :: v25 :: v26 :: v27 :: v28 :: v29 :: v30 :: rest).toArray, []⟩ (.code (Twin.goodL 1 3) :: .inLoop (Twin.goodL 1 3) :: .inBlock 0 :: kk)) cs ∧ w' = w) 8
      (G ((base F).at ⟨(.slice A n c :: .slice (some ad) m d :: .int .i64 (n : Nat) :: .int .i64 (m : Nat) :: v4 :: v5 :: v6 :: v7 :: v8 :: v9 :: .bool true :: .int .i64 (j : Nat) :: .pointer (some (ad.add j)) :: .int .i64 x :: v14 :: v15 :: v16 :: v17 :: v18 :: v19 :: v20 :: v21 :: v22 :: v23 :: v24 :: v25 :: v26 :: v27 :: v28 :: v29 :: v30 :: rest).toArray, []⟩ (.inRegion (gl5 1 3) [2, 3] :: .inLoop (Twin.goodL 1 3) :: .inBlock 0 :: kk)) cs) w := by
  simp only [gl5, Twin.goodL]
  have hwr : IntKind.i64.wrap ((j : Int) + 1) = ((j + 1 : Nat) : Int) := by rw [IntKind.wrap_i64]; omega
  refine Goes.step rfl (fun _ h₁ => ?_); subst h₁
  refine goes_oper_k rfl rfl (by k_ne) (fun K hK => ?_)
  go_simp
  refine hK _ _ ⟨trivial, ?_⟩
  clear hK K
  try w_num
  refine Goes.step rfl (fun _ h₁ => ?_); subst h₁
  refine goes_oper_k rfl rfl (by k_ne) (fun K hK => ?_)
  go_simp
  refine hK _ _ ⟨trivial, ?_⟩
  clear hK K
  try w_num
  refine Goes.step rfl (fun _ h₁ => ?_); subst h₁
  rw [stepG_region_end]; simp only [goes_go]; refine ⟨trivial, ?_⟩
  refine Goes.step rfl (fun _ h₁ => ?_); subst h₁
  rw [stepG_inLoop]; simp only [goes_go]; refine ⟨trivial, ?_⟩
  exact Goes.stop (fun _ e => by subst e; exact ⟨rfl, rfl⟩)
theorem ix_some {T : Array Value} {s : Nat} {A : Option Addr} {n c : Nat} {j : Int} (hs : (⟨T, []⟩ : Act).eval (.tmp s) = .slice A n c) (hj : (⟨T, []⟩ : Act).eval (.tmp 11) = .int .i64 j) {x : Next} {w w' : World} {o : Oper} (ho : o.op = .indexAddr 23 (.tmp s) (.tmp 11)) (h : (execOp (⟨T, []⟩ : Act).eval o).run Twin.prog w = .ok x w') : ∃ ad, A = some ad := by
  cases A with
  | some ad => exact ⟨ad, rfl⟩
  | none =>
    exfalso
    revert h
    simp only [execOp, ho, hs, hj]
    simp [go_sem, Instr.indexAt, boundsPanic, Sem.run]
    split <;> simp [Result.andThen]
theorem ld_some {T : Array Value} {a : Addr} (hs : (⟨T, []⟩ : Act).eval (.tmp 12) = .pointer (some a)) {x : Next} {w w' : World} {o : Oper} (hok : OkWd w) (ho : o.op = .load 3 (.tmp 12)) (h : (execOp (⟨T, []⟩ : Act).eval o).run Twin.prog w = .ok x w') : ∃ u, w.cell? a = some u := by
  cases hc : w.cell? a with
  | some u => exact ⟨u, rfl⟩
  | none =>
    exfalso
    obtain ⟨y, hy, _⟩ := farLoad_bad hok.self Twin.prog a false
    revert h
    simp only [execOp, ho, hs]
    have e : (Mode.plain == Mode.atomic) = false := rfl
    simp [go_sem, Instr.loadAt, hc, e, hy]
theorem cmp_int {T : Array Value} {u : Value} (hs : (⟨T, []⟩ : Act).eval (.tmp 13) = u) {x : Next} {w w' : World} {o : Oper} (ho : o.op = .binOp .lss 3 (.tmp 13) (.const (.int .i64 0)) 3) (h : (execOp (⟨T, []⟩ : Act).eval o).run Twin.prog w = .ok x w') : ∃ n, u = .int .i64 n := by
  revert h
  simp only [execOp, ho, hs]
  cases u with
  | int k n =>
    cases k <;> first | exact fun _ => ⟨n, rfl⟩ | (intro h; exfalso; revert h; simp [go_sem, binOp, Act.eval])
  | pointer a => cases a <;> (intro h; exfalso; revert h; simp [go_sem, binOp, Act.eval])
  | _ => intro h; exfalso; revert h; simp [go_sem, binOp, Act.eval]
end
end Go.Proofs.Ytcdnmnipaaooiaa
end

section
set_option linter.unusedSimpArgs false
set_option linter.unusedVariables false
namespace Go.Proofs.Ytcdnmnipaaooiaa
open Go.Conc Go.RowKit Go.Conc.Lib Go.ConcR.Gen Go.Tw
section
variable {Stop : Frame → List Frame → World → Prop}
/-- A walk of the lone machine to one place is a way down to it. -/
theorem dgo (hS : StopOk Twin.funcs Stop) {fr fr' : Frame} {top : List Frame} {w w'' : World} {n : Nat} (h : WA Try.prog Twin.funcs Stop (fr, top, w))
    (hg : Goes Twin.prog true Eq DT (fun g w' => g = G fr' (top ++ [cat Twin.funcs]) ∧ w' = w'') n (G fr (top ++ [cat Twin.funcs])) w) : Downs Try.prog Twin.funcs Stop (fr, top, w) (fr', top, w'') := by
  obtain ⟨f1, t1, w1, ⟨e1, rfl⟩, hd⟩ := downs_of_goes hS (fun g w' hk => ⟨_, _, hk.1⟩) _ _ _ _ h hg
  simp only [G, Goroutine.mk.injEq, List.append_cancel_right_eq, and_true] at e1
  obtain ⟨rfl, rfl⟩ := e1
  exact hd
theorem len_some {T : Array Value} {s : Nat} {v : Value} (hs : (⟨T, []⟩ : Act).eval (.tmp s) = v) {x : Next} {w w' : World} {o : Oper} (ho : o.op = .call { callee := .builtin .len, args := #[.tmp s], argTypes := #[23] }) (ht : o.type = 0) (h : (execOp (⟨T, []⟩ : Act).eval o).run Twin.prog w = .ok x w') : ∃ b n c, v = .slice b n c := by
  have hs' : (T[s]?).getD undef = v := by simpa [Act.eval, Array.getD_eq_getD_getElem?] using hs
  have : ∃ (y : Value) (wy : World), (Builtin.len_ #[23] 0 #[v]).run Twin.prog w = .ok y wy := by
    cases hr : (Builtin.len_ #[23] 0 #[v]).run Twin.prog w with
    | ok y wy => exact ⟨y, wy, rfl⟩
    | halt y wy =>
      exfalso
      revert h
      simp only [execOp, ho]
      simp [go_sem, hs', ht, hr]
  obtain ⟨y, wy, hy⟩ := this
  exact len_slice hy
/-- A row of ints. -/
def IntRow (w : World) (A : Option Addr) (j n : Nat) (g : Nat → Int) : Prop := ∀ i, j ≤ i → i < n → ∃ ad, A = some ad ∧ w.cell? (ad.add i) = some (.int .i64 (g i))
variable {F : Nat} {kk : List Item} {top : List Frame} {w : World} {A B : Option Addr} {n c m d : Nat} {rest : List Value} {v0 v1 v2 v3 v4 v5 v6 v7 v8 v9 v10 v11 v12 v13 v14 v15 v16 v17 v18 v19 v20 v21 v22 v23 v24 v25 v26 v27 v28 v29 v30 : Value}
set_option maxRecDepth 100000 in
set_option maxHeartbeats 4000000 in
theorem round0 (hS : StopOk Twin.funcs Stop) (hF : ∃ fn : Func, Twin.funcs[F]? = some fn) (hlow : Low Twin.funcs top) (hok : OkWd w) {j : Nat} (hj : j < n) (hm : n ≤ 9223372036854775807)
    (h : WA Try.prog Twin.funcs Stop ((base F).at ⟨(.slice A n c :: .slice B m d :: .int .i64 (n : Nat) :: .int .i64 (m : Nat) :: v4 :: v5 :: v6 :: v7 :: v8 :: v9 :: v10 :: .int .i64 (j : Nat) :: v12 :: v13 :: v14 :: v15 :: v16 :: v17 :: v18 :: v19 :: v20 :: v21 :: v22 :: v23 :: v24 :: v25 :: v26 :: v27 :: v28 :: v29 :: v30 :: rest).toArray, []⟩ (.code (Twin.goodL 0 2) :: .inLoop (Twin.goodL 0 2) :: .inBlock 0 :: kk), top, w)) : ∃ ad x, A = some ad ∧ w.cell? (ad.add j) = some (.int .i64 x) ∧ ∃ u10 u12 u13 u14, Downs Try.prog Twin.funcs Stop ((base F).at ⟨(.slice A n c :: .slice B m d :: .int .i64 (n : Nat) :: .int .i64 (m : Nat) :: v4 :: v5 :: v6 :: v7 :: v8 :: v9 :: v10 :: .int .i64 (j : Nat) :: v12 :: v13 :: v14 :: v15 :: v16 :: v17 :: v18 :: v19 :: v20 :: v21 :: v22 :: v23 :: v24 :: v25 :: v26 :: v27 :: v28 :: v29 :: v30 :: rest).toArray, []⟩ (.code (Twin.goodL 0 2) :: .inLoop (Twin.goodL 0 2) :: .inBlock 0 :: kk), top, w) ((base F).at ⟨(.slice A n c :: .slice B m d :: .int .i64 (n : Nat) :: .int .i64 (m : Nat) :: v4 :: v5 :: v6 :: v7 :: v8 :: v9 :: u10 :: .int .i64 ((j + 1 : Nat) : Int) :: u12 :: u13 :: u14 :: v15 :: v16 :: v17 :: v18 :: v19 :: v20 :: v21 :: v22 :: v23 :: v24 :: v25 :: v26 :: v27 :: v28 :: v29 :: v30 :: rest).toArray, []⟩ (.code (Twin.goodL 0 2) :: .inLoop (Twin.goodL 0 2) :: .inBlock 0 :: kk), top, w) := by
  have d0 := dgo hS h (gb0 hj)
  have h0 := h.downs d0
  obtain ⟨x0, w0, r0, _⟩ := wa_next pairT hS h0 rfl rfl rfl rfl hF hlow hok (ops := gl5 0 2) (i := 0) (rest := [1, 2, 3]) rfl rfl rfl rfl
  obtain ⟨ad, rfl⟩ := ix_some rfl rfl rfl r0
  have d1 := dgo hS h0 (gc0 hj)
  have h1 := h0.downs d1
  obtain ⟨x1, w1, r1, _⟩ := wa_next pairT hS h1 rfl rfl rfl rfl hF hlow hok (ops := gl5 0 2) (i := 1) (rest := [2, 3]) rfl rfl rfl rfl
  obtain ⟨u, hc⟩ := ld_some rfl hok rfl r1
  have d2 := dgo hS h1 (gd0 hc)
  have h2 := h1.downs d2
  obtain ⟨x2, w2, r2, _⟩ := wa_next pairT hS h2 rfl rfl rfl rfl hF hlow hok (ops := gl5 0 2) (i := 2) (rest := [3]) rfl rfl rfl rfl
  obtain ⟨x, rfl⟩ := cmp_int rfl rfl r2
  have d3 := dgo hS h2 (ge0 hj hm)
  exact ⟨ad, x, rfl, hc, _, _, _, _, d0.trans (d1.trans (d2.trans d3))⟩
theorem rows0 (hS : StopOk Twin.funcs Stop) (hF : ∃ fn : Func, Twin.funcs[F]? = some fn) (hlow : Low Twin.funcs top) (hok : OkWd w) (hm : n ≤ 9223372036854775807) :
    ∀ (r j : Nat) (v10 v12 v13 v14 : Value), j + r = n → WA Try.prog Twin.funcs Stop ((base F).at ⟨(.slice A n c :: .slice B m d :: .int .i64 (n : Nat) :: .int .i64 (m : Nat) :: v4 :: v5 :: v6 :: v7 :: v8 :: v9 :: v10 :: .int .i64 (j : Nat) :: v12 :: v13 :: v14 :: v15 :: v16 :: v17 :: v18 :: v19 :: v20 :: v21 :: v22 :: v23 :: v24 :: v25 :: v26 :: v27 :: v28 :: v29 :: v30 :: rest).toArray, []⟩ (.code (Twin.goodL 0 2) :: .inLoop (Twin.goodL 0 2) :: .inBlock 0 :: kk), top, w) → ∃ g : Nat → Int, IntRow w A j n g ∧ ∃ u10 u12 u13 u14, Downs Try.prog Twin.funcs Stop ((base F).at ⟨(.slice A n c :: .slice B m d :: .int .i64 (n : Nat) :: .int .i64 (m : Nat) :: v4 :: v5 :: v6 :: v7 :: v8 :: v9 :: v10 :: .int .i64 (j : Nat) :: v12 :: v13 :: v14 :: v15 :: v16 :: v17 :: v18 :: v19 :: v20 :: v21 :: v22 :: v23 :: v24 :: v25 :: v26 :: v27 :: v28 :: v29 :: v30 :: rest).toArray, []⟩ (.code (Twin.goodL 0 2) :: .inLoop (Twin.goodL 0 2) :: .inBlock 0 :: kk), top, w) ((base F).at ⟨(.slice A n c :: .slice B m d :: .int .i64 (n : Nat) :: .int .i64 (m : Nat) :: v4 :: v5 :: v6 :: v7 :: v8 :: v9 :: u10 :: .int .i64 (n : Nat) :: u12 :: u13 :: u14 :: v15 :: v16 :: v17 :: v18 :: v19 :: v20 :: v21 :: v22 :: v23 :: v24 :: v25 :: v26 :: v27 :: v28 :: v29 :: v30 :: rest).toArray, []⟩ (kk), top, w) := by
  intro r
  induction r with
  | zero =>
    intro j v10 v12 v13 v14 hj h
    obtain rfl : j = n := by omega
    exact ⟨fun _ => 0, fun i h1 h2 => by omega, _, _, _, _, dgo hS h gx0⟩
  | succ r ih =>
    intro j v10 v12 v13 v14 hj h
    obtain ⟨ad, x, hA, hc, u10, u12, u13, u14, d1⟩ := round0 hS hF hlow hok (by omega) hm h
    obtain ⟨g, hg, z10, z12, z13, z14, d2⟩ := ih (j + 1) u10 u12 u13 u14 (by omega) (h.downs d1)
    refine ⟨fun i => if i = j then x else g i, fun i h1 h2 => ?_, z10, z12, z13, z14, d1.trans d2⟩
    by_cases e : i = j
    · subst e
      simp only [if_true]
      exact ⟨ad, hA, hc⟩
    · simp only [if_neg e]
      exact hg i (by omega) h2
set_option maxRecDepth 100000 in
set_option maxHeartbeats 4000000 in
theorem round1 (hS : StopOk Twin.funcs Stop) (hF : ∃ fn : Func, Twin.funcs[F]? = some fn) (hlow : Low Twin.funcs top) (hok : OkWd w) {j : Nat} (hj : j < m) (hm : m ≤ 9223372036854775807)
    (h : WA Try.prog Twin.funcs Stop ((base F).at ⟨(.slice A n c :: .slice B m d :: .int .i64 (n : Nat) :: .int .i64 (m : Nat) :: v4 :: v5 :: v6 :: v7 :: v8 :: v9 :: v10 :: .int .i64 (j : Nat) :: v12 :: v13 :: v14 :: v15 :: v16 :: v17 :: v18 :: v19 :: v20 :: v21 :: v22 :: v23 :: v24 :: v25 :: v26 :: v27 :: v28 :: v29 :: v30 :: rest).toArray, []⟩ (.code (Twin.goodL 1 3) :: .inLoop (Twin.goodL 1 3) :: .inBlock 0 :: kk), top, w)) : ∃ ad x, B = some ad ∧ w.cell? (ad.add j) = some (.int .i64 x) ∧ ∃ u10 u12 u13 u14, Downs Try.prog Twin.funcs Stop ((base F).at ⟨(.slice A n c :: .slice B m d :: .int .i64 (n : Nat) :: .int .i64 (m : Nat) :: v4 :: v5 :: v6 :: v7 :: v8 :: v9 :: v10 :: .int .i64 (j : Nat) :: v12 :: v13 :: v14 :: v15 :: v16 :: v17 :: v18 :: v19 :: v20 :: v21 :: v22 :: v23 :: v24 :: v25 :: v26 :: v27 :: v28 :: v29 :: v30 :: rest).toArray, []⟩ (.code (Twin.goodL 1 3) :: .inLoop (Twin.goodL 1 3) :: .inBlock 0 :: kk), top, w) ((base F).at ⟨(.slice A n c :: .slice B m d :: .int .i64 (n : Nat) :: .int .i64 (m : Nat) :: v4 :: v5 :: v6 :: v7 :: v8 :: v9 :: u10 :: .int .i64 ((j + 1 : Nat) : Int) :: u12 :: u13 :: u14 :: v15 :: v16 :: v17 :: v18 :: v19 :: v20 :: v21 :: v22 :: v23 :: v24 :: v25 :: v26 :: v27 :: v28 :: v29 :: v30 :: rest).toArray, []⟩ (.code (Twin.goodL 1 3) :: .inLoop (Twin.goodL 1 3) :: .inBlock 0 :: kk), top, w) := by
  have d0 := dgo hS h (gb1 hj)
  have h0 := h.downs d0
  obtain ⟨x0, w0, r0, _⟩ := wa_next pairT hS h0 rfl rfl rfl rfl hF hlow hok (ops := gl5 1 3) (i := 0) (rest := [1, 2, 3]) rfl rfl rfl rfl
  obtain ⟨ad, rfl⟩ := ix_some rfl rfl rfl r0
  have d1 := dgo hS h0 (gc1 hj)
  have h1 := h0.downs d1
  obtain ⟨x1, w1, r1, _⟩ := wa_next pairT hS h1 rfl rfl rfl rfl hF hlow hok (ops := gl5 1 3) (i := 1) (rest := [2, 3]) rfl rfl rfl rfl
  obtain ⟨u, hc⟩ := ld_some rfl hok rfl r1
  have d2 := dgo hS h1 (gd1 hc)
  have h2 := h1.downs d2
  obtain ⟨x2, w2, r2, _⟩ := wa_next pairT hS h2 rfl rfl rfl rfl hF hlow hok (ops := gl5 1 3) (i := 2) (rest := [3]) rfl rfl rfl rfl
  obtain ⟨x, rfl⟩ := cmp_int rfl rfl r2
  have d3 := dgo hS h2 (ge1 hj hm)
  exact ⟨ad, x, rfl, hc, _, _, _, _, d0.trans (d1.trans (d2.trans d3))⟩
theorem rows1 (hS : StopOk Twin.funcs Stop) (hF : ∃ fn : Func, Twin.funcs[F]? = some fn) (hlow : Low Twin.funcs top) (hok : OkWd w) (hm : m ≤ 9223372036854775807) :
    ∀ (r j : Nat) (v10 v12 v13 v14 : Value), j + r = m → WA Try.prog Twin.funcs Stop ((base F).at ⟨(.slice A n c :: .slice B m d :: .int .i64 (n : Nat) :: .int .i64 (m : Nat) :: v4 :: v5 :: v6 :: v7 :: v8 :: v9 :: v10 :: .int .i64 (j : Nat) :: v12 :: v13 :: v14 :: v15 :: v16 :: v17 :: v18 :: v19 :: v20 :: v21 :: v22 :: v23 :: v24 :: v25 :: v26 :: v27 :: v28 :: v29 :: v30 :: rest).toArray, []⟩ (.code (Twin.goodL 1 3) :: .inLoop (Twin.goodL 1 3) :: .inBlock 0 :: kk), top, w) → ∃ g : Nat → Int, IntRow w B j m g ∧ ∃ u10 u12 u13 u14, Downs Try.prog Twin.funcs Stop ((base F).at ⟨(.slice A n c :: .slice B m d :: .int .i64 (n : Nat) :: .int .i64 (m : Nat) :: v4 :: v5 :: v6 :: v7 :: v8 :: v9 :: v10 :: .int .i64 (j : Nat) :: v12 :: v13 :: v14 :: v15 :: v16 :: v17 :: v18 :: v19 :: v20 :: v21 :: v22 :: v23 :: v24 :: v25 :: v26 :: v27 :: v28 :: v29 :: v30 :: rest).toArray, []⟩ (.code (Twin.goodL 1 3) :: .inLoop (Twin.goodL 1 3) :: .inBlock 0 :: kk), top, w) ((base F).at ⟨(.slice A n c :: .slice B m d :: .int .i64 (n : Nat) :: .int .i64 (m : Nat) :: v4 :: v5 :: v6 :: v7 :: v8 :: v9 :: u10 :: .int .i64 (m : Nat) :: u12 :: u13 :: u14 :: v15 :: v16 :: v17 :: v18 :: v19 :: v20 :: v21 :: v22 :: v23 :: v24 :: v25 :: v26 :: v27 :: v28 :: v29 :: v30 :: rest).toArray, []⟩ (kk), top, w) := by
  intro r
  induction r with
  | zero =>
    intro j v10 v12 v13 v14 hj h
    obtain rfl : j = m := by omega
    exact ⟨fun _ => 0, fun i h1 h2 => by omega, _, _, _, _, dgo hS h gx1⟩
  | succ r ih =>
    intro j v10 v12 v13 v14 hj h
    obtain ⟨ad, x, hA, hc, u10, u12, u13, u14, d1⟩ := round1 hS hF hlow hok (by omega) hm h
    obtain ⟨g, hg, z10, z12, z13, z14, d2⟩ := ih (j + 1) u10 u12 u13 u14 (by omega) (h.downs d1)
    refine ⟨fun i => if i = j then x else g i, fun i h1 h2 => ?_, z10, z12, z13, z14, d1.trans d2⟩
    by_cases e : i = j
    · subst e
      simp only [if_true]
      exact ⟨ad, hA, hc⟩
    · simp only [if_neg e]
      exact hg i (by omega) h2
set_option maxRecDepth 100000 in
set_option maxHeartbeats 4000000 in
/-- ████ WHAT THE WRAPPERS' PARAMETERS ARE. ████ -/
theorem good_rows (hS : StopOk Twin.funcs Stop) (hF : ∃ fn : Func, Twin.funcs[F]? = some fn) (hlow : Low Twin.funcs top) (hok : OkWd w) (h : WA Try.prog Twin.funcs Stop ((base F).at ⟨(v0 :: v1 :: v2 :: v3 :: v4 :: v5 :: v6 :: v7 :: v8 :: v9 :: v10 :: v11 :: v12 :: v13 :: v14 :: v15 :: v16 :: v17 :: v18 :: v19 :: v20 :: v21 :: v22 :: v23 :: v24 :: v25 :: v26 :: v27 :: v28 :: v29 :: v30 :: rest).toArray, []⟩ (.code Twin.good :: kk), top, w)) :
    ∃ A n c B m d, v0 = .slice A n c ∧ v1 = .slice B m d ∧ n ≤ 9223372036854775807 ∧ m ≤ 9223372036854775807 ∧ (∃ g, IntRow w A 0 n g) ∧ ∃ g, IntRow w B 0 m g := by
  have h0 := h.downs (dgo hS h ga0)
  obtain ⟨x0, w0, r0, _⟩ := wa_next pairT hS h0 rfl rfl rfl rfl hF hlow hok (ops := gops0) (i := 0) (rest := [1]) rfl rfl rfl rfl
  obtain ⟨A, n, c, rfl⟩ := len_some rfl rfl rfl r0
  have h1 := h0.downs (dgo hS h0 ga1)
  obtain ⟨x1, w1, r1, _⟩ := wa_next pairT hS h1 rfl rfl rfl rfl hF hlow hok (ops := gops0) (i := 1) (rest := []) rfl rfl rfl rfl
  obtain ⟨B, m, d, rfl⟩ := len_some rfl rfl rfl r1
  have h2 := h1.downs (dgo hS h1 ga2)
  have refused : ∀ {T : Array Value} {k : List Item}, ¬ WA Try.prog Twin.funcs Stop ((base F).at ⟨T, []⟩ (.code (.refuse "n") :: k), top, w) := fun {T k} hw => by
    obtain ⟨o, ho⟩ := refuse_ended (P := alt Try.prog Twin.funcs) (fr := (base F).at ⟨T, []⟩ (.code (.refuse "n") :: k)) (why := "n") (k := k) rfl rfl
    exact wa_ended hS hw (fun e => by cases e) (o := o) (w' := w) (es := #[]) (ho _ _ _)
  by_cases hn : n ≤ 9223372036854775807
  · have h3 := h2.downs (dgo hS h2 (ga3 hn))
    by_cases hm : m ≤ 9223372036854775807
    · have h4 := h3.downs (dgo hS h3 (ga4 hm))
      obtain ⟨g, hg, u10, u12, u13, u14, d5⟩ := rows0 hS hF hlow hok hn n 0 _ _ _ _ (by omega) h4
      have h5 := h4.downs d5
      have h6 := h5.downs (dgo hS h5 ga5)
      obtain ⟨g', hg', _⟩ := rows1 hS hF hlow hok hm m 0 _ _ _ _ (by omega) h6
      exact ⟨A, n, c, B, m, d, rfl, rfl, hn, hm, ⟨g, hg⟩, g', hg'⟩
    · exact absurd (h3.downs (dgo hS h3 (ga4f hm))) refused
  · exact absurd (h2.downs (dgo hS h2 (ga3f hn))) refused
end
end Go.Proofs.Ytcdnmnipaaooiaa
end

section
set_option linter.unusedSimpArgs false
set_option linter.unusedVariables false
namespace Go.Proofs.Ytcdnmnipaaooiaa
open Go.Conc Go.RowKit Go.Conc.Lib Go.ConcR.Gen Go.Tw
theorem callsC_more {P : Program} {main : Bool} {R : World → World → Prop} {D : World → World → Array Event → Prop} {f : FuncId} {args : Array Value} {n n' : Nat} {w : World} {Post : Value → World → Prop} (h : CallsC P main R D f args n w Post) (hn : n ≤ n') : CallsC P main R D f args n' w Post := by
  obtain ⟨fn, c, h1, h2, h3, h4⟩ := h
  exact ⟨fn, c, h1, h2, h3, wpC_more h4 hn⟩
/-- A number of the field. -/
def okE (n : Int) : Bool := decide (0 ≤ n ∧ n ≤ 30)
section
variable {main : Bool} {R : World → World → Prop} {D : World → World → Array Event → Prop} {H : World → Prop}
theorem c67 (T : Terms R D) (rl : ∀ {x y}, H x → R x y → H y) : ∃ n, ∀ (a : Int) (w : World), H w → CallsC Try.prog main R D 67 #[.int .i64 a, .int .i64 0, .int .i64 30] n w (fun v w' => v = .bool (okE a) ∧ H w') := by
  have h1 : ∃ n, ∀ (a : Int) (w : World), 0 ≤ a → H w → CallsC Try.prog main R D 67 #[.int .i64 a, .int .i64 0, .int .i64 30] n w (fun v w' => v = .bool (okE a) ∧ H w') := by
    co_apply Exists.intro
    intro a w ha hF
    co_apply callsC_of_wpC Try.func67
    · kernel_rfl
    · rfl
    walk_nrmf Try.f67
    co_go T rl hF (co_quiet T)
    exact ⟨rfl, _, resultsC_tmp rfl _, by simp [okE, ha], hF⟩
  have h2 : ∃ n, ∀ (a : Int) (w : World), ¬ 0 ≤ a → H w → CallsC Try.prog main R D 67 #[.int .i64 a, .int .i64 0, .int .i64 30] n w (fun v w' => v = .bool (okE a) ∧ H w') := by
    co_apply Exists.intro
    intro a w ha hF
    co_apply callsC_of_wpC Try.func67
    · kernel_rfl
    · rfl
    walk_nrmf Try.f67
    co_go T rl hF (co_quiet T)
    co_apply opsC_unwanted T rfl (by rfl)
    walk_nrm
    co_apply opsC_unwanted T rfl (by rfl)
    walk_nrm
    co_apply opsC_unwanted T rfl (by rfl)
    walk_nrm
    co_go T rl hF (co_quiet T)
    exact ⟨rfl, _, resultsC_tmp rfl _, by simp [okE, ha], hF⟩
  obtain ⟨n1, h1⟩ := h1
  obtain ⟨n2, h2⟩ := h2
  refine ⟨max n1 n2, fun a w hF => ?_⟩
  by_cases ha : 0 ≤ a
  · exact callsC_more (h1 a w ha hF) (Nat.le_max_left ..)
  · exact callsC_more (h2 a w ha hF) (Nat.le_max_right ..)
theorem c52 (T : Terms R D) (rl : ∀ {x y}, H x → R x y → H y) : ∃ n, ∀ (a : Int) (w : World), H w → CallsC Try.prog main R D 52 #[.int .i64 a] n w (fun v w' => v = .bool (okE a) ∧ H w') := by
  obtain ⟨n, h67⟩ := c67 (main := main) T rl
  co_apply Exists.intro
  intro a w hF
  co_apply callsC_of_wpC Try.func52
  · kernel_rfl
  · rfl
  walk_nrmf Try.f52
  co_go T rl hF (co_quiet T)
  co_apply opsC_callv T rfl rfl rfl rfl (vs := #[.int .i64 a, .int .i64 0, .int .i64 30]) (by simp [Act.eval]) (h67 _ _ hF)
  rintro v w' ⟨rfl, hF⟩
  co_go T rl hF (co_quiet T)
  exact ⟨rfl, _, resultsC_tmp rfl _, rfl, hF⟩
theorem c80 (T : Terms R D) (rl : ∀ {x y}, H x → R x y → H y) : ∃ n, ∀ (a : Int) (w : World), H w → CallsC Try.prog main R D 80 #[.int .i64 a] n w (fun v w' => v = .bool (!okE a) ∧ H w') := by
  obtain ⟨n, h52⟩ := c52 (main := main) T rl
  co_apply Exists.intro
  intro a w hF
  co_apply callsC_of_wpC Try.func80
  · kernel_rfl
  · rfl
  walk_nrmf Try.f80
  co_go T rl hF (co_quiet T)
  co_apply opsC_callv T rfl rfl rfl rfl (vs := #[.int .i64 a]) (by simp [Act.eval]) (h52 _ _ hF)
  rintro v w' ⟨rfl, hF⟩
  co_go T rl hF (co_quiet T)
  exact ⟨rfl, _, resultsC_tmp rfl _, rfl, hF⟩
end
end Go.Proofs.Ytcdnmnipaaooiaa
end

section
set_option linter.unusedSimpArgs false
set_option linter.unusedVariables false
namespace Go.Proofs.Ytcdnmnipaaooiaa
open Go.Conc Go.RowKit Go.Conc.Lib Go.ConcR.Gen Go.Tw
theorem terms_at (E : Event → Prop) : Terms AtRel (DE E) := ⟨atRel_trans, fun _ e he => by simp at he⟩
theorem at_rely {W : World} : ∀ {x y : World}, AtRel W x → AtRel x y → AtRel W y := fun h k => atRel_trans _ _ _ h k
theorem at_cell {W w : World} (h : AtRel W w) (a : Addr) : w.cell? a = W.cell? a := by obtain ⟨d, rfl⟩ := h; rfl
/-- All are numbers of the field. -/
def allE (g : Nat → Int) (n : Nat) : Bool := (List.range n).all fun i => okE (g i)
theorem allE_true {g : Nat → Int} {n : Nat} : allE g n = true ↔ ∀ i, i < n → okE (g i) = true := by simp [allE, List.all_eq_true]
def numOf : Value → Int
  | .int _ n => n
  | _ => 0
section
variable {E : Event → Prop} {W : World} {A : Option Addr} {n c : Nat} {g : Nat → Int}
set_option maxRecDepth 100000 in
set_option maxHeartbeats 4000000 in
theorem c102 (hr : IntRow W A 0 n g) (hm : n ≤ 9223372036854775807) (hE : ∀ i ad, i < n → A = some ad → E ⟨.cell (ad.add i), false, false⟩) :
    ∃ k, ∀ w, AtRel W w → CallsC Try.prog true AtRel (DE E) 102 #[.slice A n c, .func (.func 80) #[] #[]] k w (fun v w' => (∃ x : Int, v = .int .i64 x ∧ decide (0 ≤ x) = !allE g n) ∧ AtRel W w') := by
  have T := terms_at E
  obtain ⟨n80, h80⟩ := c80 (main := true) (H := AtRel W) T at_rely
  co_apply Exists.intro
  intro w hF
  co_apply callsC_of_wpC Try.func102
  · kernel_rfl
  · rfl
  walk_nrmf Try.f102
  co_go T at_rely hF (co_quiet T)
  co_apply wpC_loop T (fun a w => AtRel W w ∧ ∃ (j : Nat) (u5 u9 u10 u11 u12 u13 u14 u15 u16 u17 u18 : Value), j ≤ n ∧ (∀ i, i < j → okE (g i) = true) ∧ a = ⟨#[.slice A n c, .func (.func 80) #[] #[], undef, undef, .int .i64 0, u5, .slice A n c, .int .i64 n, .int .i64 j, u9, u10, u11, u12, u13, u14, u15, u16, u17, u18], []⟩) (fun a _ => n - (numOf (a.tmps.getD 8 undef)).toNat)
  · exact ⟨hF, 0, _, _, _, _, _, _, _, _, _, _, _, Nat.zero_le _, fun i hi => by omega, rfl⟩
  · exact Nat.sub_le _ _
  clear hF
  rintro a w ⟨hF, j, u5, u9, u10, u11, u12, u13, u14, u15, u16, u17, u18, hj, hall, rfl⟩
  co_go T at_rely hF (co_quiet T)
  co_apply wpC_cond_split T (t := decide ((j : Int) < (n : Int)))
  · simp [Act.eval]
  · intro ht
    have hlt : j < n := by have := of_decide_eq_true ht; omega
    have hlt' : ¬ n ≤ j := by omega
    have hj0 : (0 : Int) ≤ (j : Int) := by omega
    obtain ⟨ad, hA, hc⟩ := hr j (Nat.zero_le _) hlt
    co_go T at_rely hF ((intro x hx; have hm' := mem_listed hx; simp [go_sem, Instr.indexAt, hlt', hj0, hA] at hm'))
    co_apply opsC_cons_k rfl (by rfl)
    intro w₁ hR K hK
    replace hF := at_rely hF hR
    have hc' := (at_cell hF (ad.add j)).trans hc
    go_simp
    refine hK _ _ ⟨?_, ?_⟩
    · intro x hx
      have hm' := mem_listed hx
      simp [go_sem, hc'] at hm'
      subst hm'
      exact hE j ad hlt hA
    clear hK K
    try walk_nrm
    co_apply opsC_callv T rfl rfl rfl rfl (vs := #[.int .i64 (g j)]) (by simp [Act.eval]) (h80 _ _ hF)
    rintro v w' ⟨rfl, hF⟩
    try walk_nrm
    co_go T at_rely hF (co_quiet T)
    co_apply wpC_cond_split T (t := !okE (g j))
    · simp [Act.eval]
    · intro hb
      have hb' : okE (g j) = false := by simpa using hb
      co_go T at_rely hF (co_quiet T)
      refine ⟨rfl, _, resultsC_tmp rfl _, ⟨_, rfl, ?_⟩, hF⟩
      have hna : allE g n = false := by
        cases h : allE g n with
        | false => rfl
        | true => rw [allE_true.1 h j hlt] at hb'; cases hb'
      rw [hna]
      simp
    · intro hb
      have hb' : okE (g j) = true := by simpa using hb
      have hwr : IntKind.i64.wrap ((j : Int) + 1) = ((j + 1 : Nat) : Int) := by rw [IntKind.wrap_i64]; omega
      co_go T at_rely hF (co_quiet T)
      refine ⟨⟨hF, j + 1, _, _, _, _, _, _, _, _, _, _, _, hlt, fun i hi => ?_, by first | rfl | (rw [hA]; rfl) | (simp [hA]; done)⟩, ?_⟩
      · by_cases e : i = j
        · subst e; exact hb'
        · exact hall i (by omega)
      · simp [numOf]
        omega
  · intro hf
    have hge : ¬ (j : Int) < (n : Int) := of_decide_eq_false hf
    have hjn : j = n := by omega
    co_go T at_rely hF (co_quiet T)
    refine ⟨rfl, _, resultsC_tmp rfl _, ⟨_, rfl, ?_⟩, hF⟩
    have hya : allE g n = true := allE_true.2 fun i hi => hall i (by omega)
    rw [hya]
    rfl
theorem c79 (hr : IntRow W A 0 n g) (hm : n ≤ 9223372036854775807) (hE : ∀ i ad, i < n → A = some ad → E ⟨.cell (ad.add i), false, false⟩) :
    ∃ k, ∀ w, AtRel W w → CallsC Try.prog true AtRel (DE E) 79 #[.slice A n c, .func (.func 80) #[] #[]] k w (fun v w' => v = .bool (!allE g n) ∧ AtRel W w') := by
  have T := terms_at E
  obtain ⟨k, h102⟩ := c102 (c := c) hr hm hE
  co_apply Exists.intro
  intro w hF
  co_apply callsC_of_wpC Try.func79
  · kernel_rfl
  · rfl
  walk_nrmf Try.f79
  co_go T at_rely hF (co_quiet T)
  co_apply opsC_callv T rfl rfl rfl rfl (vs := #[.slice A n c, .func (.func 80) #[] #[]]) (by simp [Act.eval]) (h102 _ hF)
  rintro v w' ⟨⟨x, rfl, hx⟩, hF⟩
  co_go T at_rely hF (co_quiet T)
  exact ⟨rfl, _, resultsC_tmp rfl _, by rw [← hx]; simp, hF⟩
theorem c59 (hr : IntRow W A 0 n g) (hm : n ≤ 9223372036854775807) (hE : ∀ i ad, i < n → A = some ad → E ⟨.cell (ad.add i), false, false⟩) :
    ∃ k, ∀ w, AtRel W w → CallsC Try.prog true AtRel (DE E) 59 #[.slice A n c, .int .i64 20] k w (fun v w' => v = .bool (decide (n ≤ 20) && allE g n) ∧ AtRel W w') := by
  have T := terms_at E
  obtain ⟨k, h79⟩ := c79 (c := c) hr hm hE
  by_cases h : (n : Int) ≤ 20
  · have h20 : n ≤ 20 := by omega
    co_apply Exists.intro
    intro w hF
    co_apply callsC_of_wpC Try.func59
    · kernel_rfl
    · rfl
    walk_nrmf Try.f59
    co_go T at_rely hF (co_quiet T)
    co_apply opsC_callv T rfl rfl rfl rfl (vs := #[.slice A n c, .func (.func 80) #[] #[]]) (by simp [Act.eval]) (h79 _ hF)
    rintro v w' ⟨rfl, hF⟩
    co_go T at_rely hF (co_quiet T)
    exact ⟨rfl, _, resultsC_tmp rfl _, by simp [h20], hF⟩
  · have h20 : ¬ n ≤ 20 := by omega
    co_apply Exists.intro
    intro w hF
    co_apply callsC_of_wpC Try.func59
    · kernel_rfl
    · rfl
    walk_nrmf Try.f59
    co_go T at_rely hF (co_quiet T)
    co_apply opsC_unwanted T rfl (by rfl)
    try walk_nrm
    co_apply opsC_unwanted T rfl (by rfl)
    try walk_nrm
    co_apply opsC_unwanted T rfl (by rfl)
    try walk_nrm
    co_go T at_rely hF (co_quiet T)
    exact ⟨rfl, _, resultsC_tmp rfl _, by simp [h20], hF⟩
/-- ████ FUNCTION 31, IN COMPANY. ████ -/
theorem c31 (hr : IntRow W A 0 n g) (hm : n ≤ 9223372036854775807) (hE : ∀ i ad, i < n → A = some ad → E ⟨.cell (ad.add i), false, false⟩) :
    ∃ k, ∀ w, AtRel W w → CallsC Try.prog true AtRel (DE E) 31 #[.slice A n c] k w (fun v w' => v = .bool (decide (n ≤ 20) && allE g n) ∧ AtRel W w') := by
  have T := terms_at E
  obtain ⟨k, h59⟩ := c59 (c := c) hr hm hE
  co_apply Exists.intro
  intro w hF
  co_apply callsC_of_wpC Try.func31
  · kernel_rfl
  · rfl
  walk_nrmf Try.f31
  co_go T at_rely hF (co_quiet T)
  co_apply opsC_callv T rfl rfl rfl rfl (vs := #[.slice A n c, .int .i64 20]) (by simp [Act.eval]) (h59 _ hF)
  rintro v w' ⟨rfl, hF⟩
  co_go T at_rely hF (co_quiet T)
  exact ⟨rfl, _, resultsC_tmp rfl _, rfl, hF⟩
end
end Go.Proofs.Ytcdnmnipaaooiaa
end

section
set_option linter.unusedSimpArgs false
set_option linter.unusedVariables false
namespace Go.Proofs.Ytcdnmnipaaooiaa
open Go.Conc Go.RowKit Go.Conc.Lib Go.ConcR.Gen Go.Tw
theorem nil_evs (E : Event → Prop) : ∀ e ∈ (#[] : Array Event), E e := fun _ h => by simp at h
theorem at_at (W : World) (d e : Nat) : (W.at d).at e = W.at e := rfl
theorem at_heap (W : World) (d : Nat) : (W.at d).heap = W.heap := rfl
theorem alloc_at (W : World) (d : Nat) (o : Obj) : (W.at d).alloc o = (W.alloc o).at d := rfl
theorem enter_at' {P : Program} {f : FuncId} {fn : Func} {c : Code} (hf : P.funcs[f]? = some fn) (hb : fn.body = some c) (args : Array Value) :
    Frame.enter P f args .normal = (base f).at ⟨args ++ Array.replicate (fn.ntmps - args.size) undef, []⟩ [.code c] := by
  unfold Frame.enter
  rw [hf]
  simp [hb]
  rfl
theorem cell_at_of {X : World} {b : Nat} {u : Value} {t : TypeId} (h : X.heap[b]? = some (.cells #[u] t)) (d : Nat) : (X.at d).cell? ⟨b, 0, none⟩ = some u := (cell_of_cells (w := X.at d) h).1
noncomputable def eB : Code := match Try.f46.body with | some (.seq _ (.seq _ c)) => c | _ => .skip
noncomputable def eA : Code := match Try.f46.body with | some (.seq _ (.seq (.seq _ c) _)) => c | _ => .skip
noncomputable def eops1 : Array Oper := match Try.f46.body with | some (.seq _ (.seq (.seq (.region _ ops _) _) _)) => ops | _ => #[]
/-- The boxes of the two parameters and of the function. -/
noncomputable def boxW (w : World) (va vb : Value) (f : Nat) : World := ((w.alloc (.cells #[va] 23)).alloc (.cells #[vb] 23)).alloc (.cells #[.func (.func f) #[] #[]] 46)
section
variable {E : Event → Prop} {A B : Option Addr} {n m c e f N : Nat} {cs : List Frame} {W : World}
set_option maxRecDepth 100000 in
set_option maxHeartbeats 4000000 in
theorem h1 (hN : W.heap.size = N) (hE : E ⟨.cell ⟨N, 0, none⟩, false, false⟩) :
    Goes Try.prog true AtRel (DE E) (fun g w' => g = G ((base 46).at ⟨#[.slice A n c, .slice B m e, .func (.func f) #[] #[], .pointer (some ⟨N, 0, none⟩), .pointer (some ⟨N + 1, 0, none⟩), .pointer (some ⟨N + 2, 0, none⟩), .slice none 0 0, .bool false, undef, undef, undef, .slice A n c, undef, undef, undef, undef, undef, undef, undef, undef, undef, undef, undef, undef, undef, undef, undef, undef, undef, undef, undef, undef, undef, undef, undef, undef, undef, undef, undef], []⟩ [.inRegion eops1 [1, 2, 3, 4, 5, 6, 7, 8, 9, 10, 11, 12, 13, 14], .code eA, .code eB]) cs ∧ ∃ d, w' = (boxW W (.slice A n c) (.slice B m e) f).at d) 40
      (G ((base 46).at ⟨#[.slice A n c, .slice B m e, .func (.func f) #[] #[], undef, undef, undef, undef, undef, undef, undef, undef, undef, undef, undef, undef, undef, undef, undef, undef, undef, undef, undef, undef, undef, undef, undef, undef, undef, undef, undef, undef, undef, undef, undef, undef, undef, undef, undef, undef], []⟩ [.code body46]) cs) W := by
  subst hN
  have hbx : (boxW W (.slice A n c) (.slice B m e) f).heap[W.heap.size]? = some (.cells #[.slice A n c] 23) := by
    show (((W.heap.push _).push _).push _)[_]? = _
    simp [Array.getElem?_push]
    omega
  simp only [boxW] at hbx
  simp only [body46, eB, eA, eops1, Try.f46, Option.getD_some]
  refine Goes.step rfl (fun _ h₁ => ?_); obtain ⟨d, rfl⟩ := h₁
  try simp only [at_at]
  rw [stepG_seq]; simp only [goes_go]; refine ⟨nil_evs _, ?_⟩
  refine Goes.step rfl (fun _ h₁ => ?_); obtain ⟨d, rfl⟩ := h₁
  try simp only [at_at]
  rw [stepG_region]; simp only [goes_go, List.size_toArray, List.length_cons, List.length_nil, Nat.reduceAdd, Nat.zero_add, List.range, List.range.loop]; refine ⟨nil_evs _, ?_⟩
  refine Goes.step rfl (fun _ h₁ => ?_); obtain ⟨d, rfl⟩ := h₁
  try simp only [at_at]
  refine goes_oper_k rfl rfl (by k_ne) (fun K hK => ?_)
  go_simp
  try simp only [alloc_at, at_heap] at hK ⊢
  refine hK _ _ ⟨?_, ?_⟩
  · intro x hx
    have hm := mem_listed hx
    simp [go_sem] at hm
  clear hK K
  try simp only [alloc_at, at_heap]
  try w_num
  refine Goes.step rfl (fun _ h₁ => ?_); obtain ⟨d, rfl⟩ := h₁
  try simp only [at_at]
  refine goes_oper_k rfl rfl (by k_ne) (fun K hK => ?_)
  go_simp
  try simp only [alloc_at, at_heap] at hK ⊢
  refine hK _ _ ⟨?_, ?_⟩
  · intro x hx
    have hm := mem_listed hx
    simp [go_sem] at hm
  clear hK K
  try simp only [alloc_at, at_heap]
  try w_num
  refine Goes.step rfl (fun _ h₁ => ?_); obtain ⟨d, rfl⟩ := h₁
  try simp only [at_at]
  refine goes_oper_k rfl rfl (by k_ne) (fun K hK => ?_)
  go_simp
  try simp only [alloc_at, at_heap] at hK ⊢
  refine hK _ _ ⟨?_, ?_⟩
  · intro x hx
    have hm := mem_listed hx
    simp [go_sem] at hm
  clear hK K
  try simp only [alloc_at, at_heap]
  try w_num
  refine Goes.step rfl (fun _ h₁ => ?_); obtain ⟨d, rfl⟩ := h₁
  try simp only [at_at]
  refine goes_oper_k rfl rfl (by k_ne) (fun K hK => ?_)
  go_simp
  try simp only [alloc_at, at_heap] at hK ⊢
  refine hK _ _ ⟨?_, ?_⟩
  · intro x hx
    have hm := mem_listed hx
    simp [go_sem] at hm
  clear hK K
  try simp only [alloc_at, at_heap]
  try w_num
  refine Goes.step rfl (fun _ h₁ => ?_); obtain ⟨d, rfl⟩ := h₁
  try simp only [at_at]
  refine goes_oper_k rfl rfl (by k_ne) (fun K hK => ?_)
  go_simp
  try simp only [alloc_at, at_heap] at hK ⊢
  refine hK _ _ ⟨?_, ?_⟩
  · intro x hx
    have hm := mem_listed hx
    simp [go_sem] at hm
  clear hK K
  try simp only [alloc_at, at_heap]
  try w_num
  refine Goes.step rfl (fun _ h₁ => ?_); obtain ⟨d, rfl⟩ := h₁
  try simp only [at_at]
  rw [stepG_region_end]; simp only [goes_go]; refine ⟨nil_evs _, ?_⟩
  refine Goes.step rfl (fun _ h₁ => ?_); obtain ⟨d, rfl⟩ := h₁
  try simp only [at_at]
  rw [stepG_seq]; simp only [goes_go]; refine ⟨nil_evs _, ?_⟩
  refine Goes.step rfl (fun _ h₁ => ?_); obtain ⟨d, rfl⟩ := h₁
  try simp only [at_at]
  rw [stepG_seq]; simp only [goes_go]; refine ⟨nil_evs _, ?_⟩
  refine Goes.step rfl (fun _ h₁ => ?_); obtain ⟨d, rfl⟩ := h₁
  try simp only [at_at]
  rw [stepG_region]; simp only [goes_go, List.size_toArray, List.length_cons, List.length_nil, Nat.reduceAdd, Nat.zero_add, List.range, List.range.loop]; refine ⟨nil_evs _, ?_⟩
  refine Goes.step rfl (fun _ h₁ => ?_); obtain ⟨d, rfl⟩ := h₁
  try simp only [at_at]
  refine goes_oper_k rfl rfl (by k_ne) (fun K hK => ?_)
  have hc := cell_at_of hbx d
  go_simp
  try simp only [hc]
  go_simp
  refine hK _ _ ⟨?_, ?_⟩
  · intro x hx
    have hm := mem_listed hx
    simp [go_sem, hc] at hm
    subst hm
    exact hE
  clear hK K hc
  try w_num
  exact Goes.stop (fun _ h₁ => by obtain ⟨d, rfl⟩ := h₁; exact ⟨rfl, _, rfl⟩)
theorem h2 {k : Nat} {b : Bool} (hcall : ∀ w, AtRel W w → CallsC Try.prog true AtRel (DE E) 31 #[.slice A n c] k w (fun v w' => v = .bool b ∧ AtRel W w')) :
    Goes Try.prog true AtRel (DE E) (fun g w' => g = G ((base 46).at ⟨#[.slice A n c, .slice B m e, .func (.func f) #[] #[], .pointer (some ⟨N, 0, none⟩), .pointer (some ⟨N + 1, 0, none⟩), .pointer (some ⟨N + 2, 0, none⟩), .slice none 0 0, .bool false, undef, undef, undef, .slice A n c, .bool b, undef, undef, undef, undef, undef, undef, undef, undef, undef, undef, undef, undef, undef, undef, undef, undef, undef, undef, undef, undef, undef, undef, undef, undef, undef, undef], []⟩ [.inRegion eops1 [2, 3, 4, 5, 6, 7, 8, 9, 10, 11, 12, 13, 14], .code eA, .code eB]) cs ∧ ∃ d, w' = W.at d) (0 + k + 3) (G ((base 46).at ⟨#[.slice A n c, .slice B m e, .func (.func f) #[] #[], .pointer (some ⟨N, 0, none⟩), .pointer (some ⟨N + 1, 0, none⟩), .pointer (some ⟨N + 2, 0, none⟩), .slice none 0 0, .bool false, undef, undef, undef, .slice A n c, undef, undef, undef, undef, undef, undef, undef, undef, undef, undef, undef, undef, undef, undef, undef, undef, undef, undef, undef, undef, undef, undef, undef, undef, undef, undef, undef], []⟩ [.inRegion eops1 [1, 2, 3, 4, 5, 6, 7, 8, 9, 10, 11, 12, 13, 14], .code eA, .code eB]) cs) W :=
  goes_callv (m := 0) (terms_at E) rfl rfl (by k_ne) rfl rfl (vs := #[.slice A n c]) (by simp [Act.eval]) (hcall W ⟨W.drawn, rfl⟩) (by
    rintro v w' ⟨rfl, d, rfl⟩
    exact Goes.stop (fun _ h₁ => by obtain ⟨d, rfl⟩ := h₁; exact ⟨rfl, _, rfl⟩))
set_option maxRecDepth 100000 in
set_option maxHeartbeats 4000000 in
theorem h3f {cT : Frame} {Z : List Frame} :
    Goes Try.prog true AtRel (DE E) (fun g w' => g = G (cT.finish (.tuple #[.slice none 0 0, .bool false])) Z ∧ ∃ d, w' = W.at d) 60 (G ((base 46).at ⟨#[.slice A n c, .slice B m e, .func (.func f) #[] #[], .pointer (some ⟨N, 0, none⟩), .pointer (some ⟨N + 1, 0, none⟩), .pointer (some ⟨N + 2, 0, none⟩), .slice none 0 0, .bool false, undef, undef, undef, .slice A n c, .bool false, undef, undef, undef, undef, undef, undef, undef, undef, undef, undef, undef, undef, undef, undef, undef, undef, undef, undef, undef, undef, undef, undef, undef, undef, undef, undef], []⟩ [.inRegion eops1 [2, 3, 4, 5, 6, 7, 8, 9, 10, 11, 12, 13, 14], .code eA, .code eB]) (cT :: Z)) W := by
  simp only [body46, eB, eA, eops1, Try.f46, Option.getD_some]
  refine Goes.step rfl (fun _ h₁ => ?_); obtain ⟨d, rfl⟩ := h₁
  try simp only [at_at]
  refine goes_oper_k rfl rfl (by k_ne) (fun K hK => ?_)
  go_simp
  try simp only [alloc_at, at_heap] at hK ⊢
  refine hK _ _ ⟨?_, ?_⟩
  · intro x hx
    have hm := mem_listed hx
    simp [go_sem] at hm
  clear hK K
  try simp only [alloc_at, at_heap]
  try w_num
  refine Goes.step rfl (fun _ h₁ => ?_); obtain ⟨d, rfl⟩ := h₁
  try simp only [at_at]
  refine goes_oper_k rfl rfl (by k_ne) (fun K hK => ?_)
  go_simp
  try simp only [alloc_at, at_heap] at hK ⊢
  refine hK _ _ ⟨?_, ?_⟩
  · intro x hx
    have hm := mem_listed hx
    simp [go_sem] at hm
  clear hK K
  try simp only [alloc_at, at_heap]
  try w_num
  refine Goes.step rfl (fun _ h₁ => ?_); obtain ⟨d, rfl⟩ := h₁
  try simp only [at_at]
  rw [stepG_unwanted rfl rfl]; simp only [goes_go]; refine ⟨nil_evs _, ?_⟩
  try walk_nrm
  refine Goes.step rfl (fun _ h₁ => ?_); obtain ⟨d, rfl⟩ := h₁
  try simp only [at_at]
  rw [stepG_unwanted rfl rfl]; simp only [goes_go]; refine ⟨nil_evs _, ?_⟩
  try walk_nrm
  refine Goes.step rfl (fun _ h₁ => ?_); obtain ⟨d, rfl⟩ := h₁
  try simp only [at_at]
  rw [stepG_unwanted rfl rfl]; simp only [goes_go]; refine ⟨nil_evs _, ?_⟩
  try walk_nrm
  refine Goes.step rfl (fun _ h₁ => ?_); obtain ⟨d, rfl⟩ := h₁
  try simp only [at_at]
  refine goes_oper_k rfl rfl (by k_ne) (fun K hK => ?_)
  go_simp
  try simp only [alloc_at, at_heap] at hK ⊢
  refine hK _ _ ⟨?_, ?_⟩
  · intro x hx
    have hm := mem_listed hx
    simp [go_sem] at hm
  clear hK K
  try simp only [alloc_at, at_heap]
  try w_num
  refine Goes.step rfl (fun _ h₁ => ?_); obtain ⟨d, rfl⟩ := h₁
  try simp only [at_at]
  refine goes_oper_k rfl rfl (by k_ne) (fun K hK => ?_)
  go_simp
  try simp only [alloc_at, at_heap] at hK ⊢
  refine hK _ _ ⟨?_, ?_⟩
  · intro x hx
    have hm := mem_listed hx
    simp [go_sem] at hm
  clear hK K
  try simp only [alloc_at, at_heap]
  try w_num
  refine Goes.step rfl (fun _ h₁ => ?_); obtain ⟨d, rfl⟩ := h₁
  try simp only [at_at]
  rw [stepG_unwanted rfl rfl]; simp only [goes_go]; refine ⟨nil_evs _, ?_⟩
  try walk_nrm
  refine Goes.step rfl (fun _ h₁ => ?_); obtain ⟨d, rfl⟩ := h₁
  try simp only [at_at]
  rw [stepG_unwanted rfl rfl]; simp only [goes_go]; refine ⟨nil_evs _, ?_⟩
  try walk_nrm
  refine Goes.step rfl (fun _ h₁ => ?_); obtain ⟨d, rfl⟩ := h₁
  try simp only [at_at]
  rw [stepG_unwanted rfl rfl]; simp only [goes_go]; refine ⟨nil_evs _, ?_⟩
  try walk_nrm
  refine Goes.step rfl (fun _ h₁ => ?_); obtain ⟨d, rfl⟩ := h₁
  try simp only [at_at]
  rw [stepG_unwanted rfl rfl]; simp only [goes_go]; refine ⟨nil_evs _, ?_⟩
  try walk_nrm
  refine Goes.step rfl (fun _ h₁ => ?_); obtain ⟨d, rfl⟩ := h₁
  try simp only [at_at]
  rw [stepG_unwanted rfl rfl]; simp only [goes_go]; refine ⟨nil_evs _, ?_⟩
  try walk_nrm
  refine Goes.step rfl (fun _ h₁ => ?_); obtain ⟨d, rfl⟩ := h₁
  try simp only [at_at]
  refine goes_oper_k rfl rfl (by k_ne) (fun K hK => ?_)
  go_simp
  try simp only [alloc_at, at_heap] at hK ⊢
  refine hK _ _ ⟨?_, ?_⟩
  · intro x hx
    have hm := mem_listed hx
    simp [go_sem] at hm
  clear hK K
  try simp only [alloc_at, at_heap]
  try w_num
  refine Goes.step rfl (fun _ h₁ => ?_); obtain ⟨d, rfl⟩ := h₁
  try simp only [at_at]
  rw [stepG_region_end]; simp only [goes_go]; refine ⟨nil_evs _, ?_⟩
  refine Goes.step rfl (fun _ h₁ => ?_); obtain ⟨d, rfl⟩ := h₁
  try simp only [at_at]
  rw [stepG_cond (t := true) rfl]; simp only [goes_go, if_true, if_false, Bool.false_eq_true, ↓reduceIte]; refine ⟨nil_evs _, ?_⟩
  refine Goes.step rfl (fun _ h₁ => ?_); obtain ⟨d, rfl⟩ := h₁
  try simp only [at_at]
  rw [stepG_seq]; simp only [goes_go]; refine ⟨nil_evs _, ?_⟩
  refine Goes.step rfl (fun _ h₁ => ?_); obtain ⟨d, rfl⟩ := h₁
  try simp only [at_at]
  rw [stepG_region]; simp only [goes_go, List.size_toArray, List.length_cons, List.length_nil, Nat.reduceAdd, Nat.zero_add, List.range, List.range.loop]; refine ⟨nil_evs _, ?_⟩
  refine Goes.step rfl (fun _ h₁ => ?_); obtain ⟨d, rfl⟩ := h₁
  try simp only [at_at]
  refine goes_oper_k rfl rfl (by k_ne) (fun K hK => ?_)
  go_simp
  try simp only [alloc_at, at_heap] at hK ⊢
  refine hK _ _ ⟨?_, ?_⟩
  · intro x hx
    have hm := mem_listed hx
    simp [go_sem] at hm
  clear hK K
  try simp only [alloc_at, at_heap]
  try w_num
  refine Goes.step rfl (fun _ h₁ => ?_); obtain ⟨d, rfl⟩ := h₁
  try simp only [at_at]
  refine goes_oper_k rfl rfl (by k_ne) (fun K hK => ?_)
  go_simp
  try simp only [alloc_at, at_heap] at hK ⊢
  refine hK _ _ ⟨?_, ?_⟩
  · intro x hx
    have hm := mem_listed hx
    simp [go_sem] at hm
  clear hK K
  try simp only [alloc_at, at_heap]
  try w_num
  refine Goes.step rfl (fun _ h₁ => ?_); obtain ⟨d, rfl⟩ := h₁
  try simp only [at_at]
  rw [stepG_region_end]; simp only [goes_go]; refine ⟨nil_evs _, ?_⟩
  refine Goes.step rfl (fun _ h₁ => ?_); obtain ⟨d, rfl⟩ := h₁
  try simp only [at_at]
  rw [stepG_ret']; simp only [goes_go]; refine ⟨nil_evs _, ?_⟩
  refine Goes.step rfl (fun _ h₁ => ?_); obtain ⟨d, rfl⟩ := h₁
  try simp only [at_at]
  rw [stepG_leave (b := base 46) rfl rfl Try.func46 (results_tmp2 (t := 6) (u := 7) rfl _ _ _) (events_results_tmp2 (t := 6) (u := 7) rfl _ _)]; simp only [goes_go]; refine ⟨nil_evs _, ?_⟩
  exact Goes.stop (fun _ h₁ => by obtain ⟨d, rfl⟩ := h₁; exact ⟨rfl, _, rfl⟩)
set_option maxRecDepth 100000 in
set_option maxHeartbeats 4000000 in
theorem h3t (hb1 : W.heap[N + 1]? = some (.cells #[.slice B m e] 23)) (hE : E ⟨.cell ⟨N + 1, 0, none⟩, false, false⟩) :
    Goes Try.prog true AtRel (DE E) (fun g w' => g = G ((base 46).at ⟨#[.slice A n c, .slice B m e, .func (.func f) #[] #[], .pointer (some ⟨N, 0, none⟩), .pointer (some ⟨N + 1, 0, none⟩), .pointer (some ⟨N + 2, 0, none⟩), .slice none 0 0, .bool false, undef, undef, undef, .slice A n c, .bool true, .bool false, .bool false, .slice B m e, undef, undef, undef, undef, undef, undef, undef, undef, undef, undef, undef, undef, undef, undef, undef, undef, undef, undef, undef, undef, undef, undef, undef], []⟩ [.inRegion eops1 [5, 6, 7, 8, 9, 10, 11, 12, 13, 14], .code eA, .code eB]) cs ∧ ∃ d, w' = W.at d) 20 (G ((base 46).at ⟨#[.slice A n c, .slice B m e, .func (.func f) #[] #[], .pointer (some ⟨N, 0, none⟩), .pointer (some ⟨N + 1, 0, none⟩), .pointer (some ⟨N + 2, 0, none⟩), .slice none 0 0, .bool false, undef, undef, undef, .slice A n c, .bool true, undef, undef, undef, undef, undef, undef, undef, undef, undef, undef, undef, undef, undef, undef, undef, undef, undef, undef, undef, undef, undef, undef, undef, undef, undef, undef], []⟩ [.inRegion eops1 [2, 3, 4, 5, 6, 7, 8, 9, 10, 11, 12, 13, 14], .code eA, .code eB]) cs) W := by
  simp only [body46, eB, eA, eops1, Try.f46, Option.getD_some]
  refine Goes.step rfl (fun _ h₁ => ?_); obtain ⟨d, rfl⟩ := h₁
  try simp only [at_at]
  refine goes_oper_k rfl rfl (by k_ne) (fun K hK => ?_)
  go_simp
  try simp only [alloc_at, at_heap] at hK ⊢
  refine hK _ _ ⟨?_, ?_⟩
  · intro x hx
    have hm := mem_listed hx
    simp [go_sem] at hm
  clear hK K
  try simp only [alloc_at, at_heap]
  try w_num
  refine Goes.step rfl (fun _ h₁ => ?_); obtain ⟨d, rfl⟩ := h₁
  try simp only [at_at]
  refine goes_oper_k rfl rfl (by k_ne) (fun K hK => ?_)
  go_simp
  try simp only [alloc_at, at_heap] at hK ⊢
  refine hK _ _ ⟨?_, ?_⟩
  · intro x hx
    have hm := mem_listed hx
    simp [go_sem] at hm
  clear hK K
  try simp only [alloc_at, at_heap]
  try w_num
  refine Goes.step rfl (fun _ h₁ => ?_); obtain ⟨d, rfl⟩ := h₁
  try simp only [at_at]
  refine goes_oper_k rfl rfl (by k_ne) (fun K hK => ?_)
  have hc := cell_at_of hb1 d
  go_simp
  try simp only [hc]
  go_simp
  refine hK _ _ ⟨?_, ?_⟩
  · intro x hx
    have hm := mem_listed hx
    simp [go_sem, hc] at hm
    subst hm
    exact hE
  clear hK K hc
  try w_num
  exact Goes.stop (fun _ h₁ => by obtain ⟨d, rfl⟩ := h₁; exact ⟨rfl, _, rfl⟩)
theorem h4 {k : Nat} {b : Bool} (hcall : ∀ w, AtRel W w → CallsC Try.prog true AtRel (DE E) 31 #[.slice B m e] k w (fun v w' => v = .bool b ∧ AtRel W w')) :
    Goes Try.prog true AtRel (DE E) (fun g w' => g = G ((base 46).at ⟨#[.slice A n c, .slice B m e, .func (.func f) #[] #[], .pointer (some ⟨N, 0, none⟩), .pointer (some ⟨N + 1, 0, none⟩), .pointer (some ⟨N + 2, 0, none⟩), .slice none 0 0, .bool false, undef, undef, undef, .slice A n c, .bool true, .bool false, .bool false, .slice B m e, .bool b, undef, undef, undef, undef, undef, undef, undef, undef, undef, undef, undef, undef, undef, undef, undef, undef, undef, undef, undef, undef, undef, undef], []⟩ [.inRegion eops1 [6, 7, 8, 9, 10, 11, 12, 13, 14], .code eA, .code eB]) cs ∧ ∃ d, w' = W.at d) (0 + k + 3) (G ((base 46).at ⟨#[.slice A n c, .slice B m e, .func (.func f) #[] #[], .pointer (some ⟨N, 0, none⟩), .pointer (some ⟨N + 1, 0, none⟩), .pointer (some ⟨N + 2, 0, none⟩), .slice none 0 0, .bool false, undef, undef, undef, .slice A n c, .bool true, .bool false, .bool false, .slice B m e, undef, undef, undef, undef, undef, undef, undef, undef, undef, undef, undef, undef, undef, undef, undef, undef, undef, undef, undef, undef, undef, undef, undef], []⟩ [.inRegion eops1 [5, 6, 7, 8, 9, 10, 11, 12, 13, 14], .code eA, .code eB]) cs) W :=
  goes_callv (m := 0) (terms_at E) rfl rfl (by k_ne) rfl rfl (vs := #[.slice B m e]) (by simp [Act.eval]) (hcall W ⟨W.drawn, rfl⟩) (by
    rintro v w' ⟨rfl, d, rfl⟩
    exact Goes.stop (fun _ h₁ => by obtain ⟨d, rfl⟩ := h₁; exact ⟨rfl, _, rfl⟩))
set_option maxRecDepth 100000 in
set_option maxHeartbeats 4000000 in
theorem h5f {cT : Frame} {Z : List Frame} :
    Goes Try.prog true AtRel (DE E) (fun g w' => g = G (cT.finish (.tuple #[.slice none 0 0, .bool false])) Z ∧ ∃ d, w' = W.at d) 60 (G ((base 46).at ⟨#[.slice A n c, .slice B m e, .func (.func f) #[] #[], .pointer (some ⟨N, 0, none⟩), .pointer (some ⟨N + 1, 0, none⟩), .pointer (some ⟨N + 2, 0, none⟩), .slice none 0 0, .bool false, undef, undef, undef, .slice A n c, .bool true, .bool false, .bool false, .slice B m e, .bool false, undef, undef, undef, undef, undef, undef, undef, undef, undef, undef, undef, undef, undef, undef, undef, undef, undef, undef, undef, undef, undef, undef], []⟩ [.inRegion eops1 [6, 7, 8, 9, 10, 11, 12, 13, 14], .code eA, .code eB]) (cT :: Z)) W := by
  simp only [body46, eB, eA, eops1, Try.f46, Option.getD_some]
  refine Goes.step rfl (fun _ h₁ => ?_); obtain ⟨d, rfl⟩ := h₁
  try simp only [at_at]
  refine goes_oper_k rfl rfl (by k_ne) (fun K hK => ?_)
  go_simp
  try simp only [alloc_at, at_heap] at hK ⊢
  refine hK _ _ ⟨?_, ?_⟩
  · intro x hx
    have hm := mem_listed hx
    simp [go_sem] at hm
  clear hK K
  try simp only [alloc_at, at_heap]
  try w_num
  refine Goes.step rfl (fun _ h₁ => ?_); obtain ⟨d, rfl⟩ := h₁
  try simp only [at_at]
  refine goes_oper_k rfl rfl (by k_ne) (fun K hK => ?_)
  go_simp
  try simp only [alloc_at, at_heap] at hK ⊢
  refine hK _ _ ⟨?_, ?_⟩
  · intro x hx
    have hm := mem_listed hx
    simp [go_sem] at hm
  clear hK K
  try simp only [alloc_at, at_heap]
  try w_num
  refine Goes.step rfl (fun _ h₁ => ?_); obtain ⟨d, rfl⟩ := h₁
  try simp only [at_at]
  refine goes_oper_k rfl rfl (by k_ne) (fun K hK => ?_)
  go_simp
  try simp only [alloc_at, at_heap] at hK ⊢
  refine hK _ _ ⟨?_, ?_⟩
  · intro x hx
    have hm := mem_listed hx
    simp [go_sem] at hm
  clear hK K
  try simp only [alloc_at, at_heap]
  try w_num
  refine Goes.step rfl (fun _ h₁ => ?_); obtain ⟨d, rfl⟩ := h₁
  try simp only [at_at]
  rw [stepG_unwanted rfl rfl]; simp only [goes_go]; refine ⟨nil_evs _, ?_⟩
  try walk_nrm
  refine Goes.step rfl (fun _ h₁ => ?_); obtain ⟨d, rfl⟩ := h₁
  try simp only [at_at]
  rw [stepG_unwanted rfl rfl]; simp only [goes_go]; refine ⟨nil_evs _, ?_⟩
  try walk_nrm
  refine Goes.step rfl (fun _ h₁ => ?_); obtain ⟨d, rfl⟩ := h₁
  try simp only [at_at]
  rw [stepG_unwanted rfl rfl]; simp only [goes_go]; refine ⟨nil_evs _, ?_⟩
  try walk_nrm
  refine Goes.step rfl (fun _ h₁ => ?_); obtain ⟨d, rfl⟩ := h₁
  try simp only [at_at]
  rw [stepG_unwanted rfl rfl]; simp only [goes_go]; refine ⟨nil_evs _, ?_⟩
  try walk_nrm
  refine Goes.step rfl (fun _ h₁ => ?_); obtain ⟨d, rfl⟩ := h₁
  try simp only [at_at]
  rw [stepG_unwanted rfl rfl]; simp only [goes_go]; refine ⟨nil_evs _, ?_⟩
  try walk_nrm
  refine Goes.step rfl (fun _ h₁ => ?_); obtain ⟨d, rfl⟩ := h₁
  try simp only [at_at]
  refine goes_oper_k rfl rfl (by k_ne) (fun K hK => ?_)
  go_simp
  try simp only [alloc_at, at_heap] at hK ⊢
  refine hK _ _ ⟨?_, ?_⟩
  · intro x hx
    have hm := mem_listed hx
    simp [go_sem] at hm
  clear hK K
  try simp only [alloc_at, at_heap]
  try w_num
  refine Goes.step rfl (fun _ h₁ => ?_); obtain ⟨d, rfl⟩ := h₁
  try simp only [at_at]
  rw [stepG_region_end]; simp only [goes_go]; refine ⟨nil_evs _, ?_⟩
  refine Goes.step rfl (fun _ h₁ => ?_); obtain ⟨d, rfl⟩ := h₁
  try simp only [at_at]
  rw [stepG_cond (t := true) rfl]; simp only [goes_go, if_true, if_false, Bool.false_eq_true, ↓reduceIte]; refine ⟨nil_evs _, ?_⟩
  refine Goes.step rfl (fun _ h₁ => ?_); obtain ⟨d, rfl⟩ := h₁
  try simp only [at_at]
  rw [stepG_seq]; simp only [goes_go]; refine ⟨nil_evs _, ?_⟩
  refine Goes.step rfl (fun _ h₁ => ?_); obtain ⟨d, rfl⟩ := h₁
  try simp only [at_at]
  rw [stepG_region]; simp only [goes_go, List.size_toArray, List.length_cons, List.length_nil, Nat.reduceAdd, Nat.zero_add, List.range, List.range.loop]; refine ⟨nil_evs _, ?_⟩
  refine Goes.step rfl (fun _ h₁ => ?_); obtain ⟨d, rfl⟩ := h₁
  try simp only [at_at]
  refine goes_oper_k rfl rfl (by k_ne) (fun K hK => ?_)
  go_simp
  try simp only [alloc_at, at_heap] at hK ⊢
  refine hK _ _ ⟨?_, ?_⟩
  · intro x hx
    have hm := mem_listed hx
    simp [go_sem] at hm
  clear hK K
  try simp only [alloc_at, at_heap]
  try w_num
  refine Goes.step rfl (fun _ h₁ => ?_); obtain ⟨d, rfl⟩ := h₁
  try simp only [at_at]
  refine goes_oper_k rfl rfl (by k_ne) (fun K hK => ?_)
  go_simp
  try simp only [alloc_at, at_heap] at hK ⊢
  refine hK _ _ ⟨?_, ?_⟩
  · intro x hx
    have hm := mem_listed hx
    simp [go_sem] at hm
  clear hK K
  try simp only [alloc_at, at_heap]
  try w_num
  refine Goes.step rfl (fun _ h₁ => ?_); obtain ⟨d, rfl⟩ := h₁
  try simp only [at_at]
  rw [stepG_region_end]; simp only [goes_go]; refine ⟨nil_evs _, ?_⟩
  refine Goes.step rfl (fun _ h₁ => ?_); obtain ⟨d, rfl⟩ := h₁
  try simp only [at_at]
  rw [stepG_ret']; simp only [goes_go]; refine ⟨nil_evs _, ?_⟩
  refine Goes.step rfl (fun _ h₁ => ?_); obtain ⟨d, rfl⟩ := h₁
  try simp only [at_at]
  rw [stepG_leave (b := base 46) rfl rfl Try.func46 (results_tmp2 (t := 6) (u := 7) rfl _ _ _) (events_results_tmp2 (t := 6) (u := 7) rfl _ _)]; simp only [goes_go]; refine ⟨nil_evs _, ?_⟩
  exact Goes.stop (fun _ h₁ => by obtain ⟨d, rfl⟩ := h₁; exact ⟨rfl, _, rfl⟩)
set_option maxRecDepth 100000 in
set_option maxHeartbeats 4000000 in
theorem h5n {cT : Frame} {Z : List Frame} (hb0 : W.heap[N]? = some (.cells #[.slice A n c] 23)) (hb1 : W.heap[N + 1]? = some (.cells #[.slice B m e] 23)) (hE : E ⟨.cell ⟨N, 0, none⟩, false, false⟩) (hE1 : E ⟨.cell ⟨N + 1, 0, none⟩, false, false⟩) (hn : n ≠ m) :
    Goes Try.prog true AtRel (DE E) (fun g w' => g = G (cT.finish (.tuple #[.slice none 0 0, .bool false])) Z ∧ ∃ d, w' = W.at d) 60 (G ((base 46).at ⟨#[.slice A n c, .slice B m e, .func (.func f) #[] #[], .pointer (some ⟨N, 0, none⟩), .pointer (some ⟨N + 1, 0, none⟩), .pointer (some ⟨N + 2, 0, none⟩), .slice none 0 0, .bool false, undef, undef, undef, .slice A n c, .bool true, .bool false, .bool false, .slice B m e, .bool true, undef, undef, undef, undef, undef, undef, undef, undef, undef, undef, undef, undef, undef, undef, undef, undef, undef, undef, undef, undef, undef, undef], []⟩ [.inRegion eops1 [6, 7, 8, 9, 10, 11, 12, 13, 14], .code eA, .code eB]) (cT :: Z)) W := by
  simp only [body46, eB, eA, eops1, Try.f46, Option.getD_some]
  have hn1 : ¬ (n : Int) = (m : Int) := by omega
  have hn2 : ((n : Int) != (m : Int)) = true := by simp; omega
  refine Goes.step rfl (fun _ h₁ => ?_); obtain ⟨d, rfl⟩ := h₁
  try simp only [at_at]
  refine goes_oper_k rfl rfl (by k_ne) (fun K hK => ?_)
  go_simp
  try simp only [alloc_at, at_heap] at hK ⊢
  refine hK _ _ ⟨?_, ?_⟩
  · intro x hx
    have hm := mem_listed hx
    simp [go_sem] at hm
  clear hK K
  try simp only [alloc_at, at_heap]
  try w_num
  refine Goes.step rfl (fun _ h₁ => ?_); obtain ⟨d, rfl⟩ := h₁
  try simp only [at_at]
  refine goes_oper_k rfl rfl (by k_ne) (fun K hK => ?_)
  go_simp
  try simp only [alloc_at, at_heap] at hK ⊢
  refine hK _ _ ⟨?_, ?_⟩
  · intro x hx
    have hm := mem_listed hx
    simp [go_sem] at hm
  clear hK K
  try simp only [alloc_at, at_heap]
  try w_num
  refine Goes.step rfl (fun _ h₁ => ?_); obtain ⟨d, rfl⟩ := h₁
  try simp only [at_at]
  refine goes_oper_k rfl rfl (by k_ne) (fun K hK => ?_)
  go_simp
  try simp only [alloc_at, at_heap] at hK ⊢
  refine hK _ _ ⟨?_, ?_⟩
  · intro x hx
    have hm := mem_listed hx
    simp [go_sem] at hm
  clear hK K
  try simp only [alloc_at, at_heap]
  try w_num
  refine Goes.step rfl (fun _ h₁ => ?_); obtain ⟨d, rfl⟩ := h₁
  try simp only [at_at]
  refine goes_oper_k rfl rfl (by k_ne) (fun K hK => ?_)
  have hc := cell_at_of hb0 d
  go_simp
  try simp only [hc]
  go_simp
  refine hK _ _ ⟨?_, ?_⟩
  · intro x hx
    have hm := mem_listed hx
    simp [go_sem, hc] at hm
    subst hm
    exact hE
  clear hK K hc
  try w_num
  refine Goes.step rfl (fun _ h₁ => ?_); obtain ⟨d, rfl⟩ := h₁
  try simp only [at_at]
  refine goes_oper_k rfl rfl (by k_ne) (fun K hK => ?_)
  go_simp
  try simp only [alloc_at, at_heap] at hK ⊢
  refine hK _ _ ⟨?_, ?_⟩
  · intro x hx
    have hm := mem_listed hx
    simp [go_sem] at hm
  clear hK K
  try simp only [alloc_at, at_heap]
  try w_num
  refine Goes.step rfl (fun _ h₁ => ?_); obtain ⟨d, rfl⟩ := h₁
  try simp only [at_at]
  refine goes_oper_k rfl rfl (by k_ne) (fun K hK => ?_)
  have hc := cell_at_of hb1 d
  go_simp
  try simp only [hc]
  go_simp
  refine hK _ _ ⟨?_, ?_⟩
  · intro x hx
    have hm := mem_listed hx
    simp [go_sem, hc] at hm
    subst hm
    exact hE1
  clear hK K hc
  try w_num
  refine Goes.step rfl (fun _ h₁ => ?_); obtain ⟨d, rfl⟩ := h₁
  try simp only [at_at]
  refine goes_oper_k rfl rfl (by k_ne) (fun K hK => ?_)
  go_simp
  try simp only [alloc_at, at_heap] at hK ⊢
  refine hK _ _ ⟨?_, ?_⟩
  · intro x hx
    have hm := mem_listed hx
    simp [go_sem] at hm
  clear hK K
  try simp only [alloc_at, at_heap]
  try w_num
  refine Goes.step rfl (fun _ h₁ => ?_); obtain ⟨d, rfl⟩ := h₁
  try simp only [at_at]
  refine goes_oper_k rfl rfl (by k_ne) (fun K hK => ?_)
  go_simp
  try simp only [alloc_at, at_heap] at hK ⊢
  refine hK _ _ ⟨?_, ?_⟩
  · intro x hx
    have hm := mem_listed hx
    simp [go_sem] at hm
  clear hK K
  try simp only [alloc_at, at_heap]
  try w_num
  refine Goes.step rfl (fun _ h₁ => ?_); obtain ⟨d, rfl⟩ := h₁
  try simp only [at_at]
  refine goes_oper_k rfl rfl (by k_ne) (fun K hK => ?_)
  go_simp
  try simp only [alloc_at, at_heap] at hK ⊢
  refine hK _ _ ⟨?_, ?_⟩
  · intro x hx
    have hm := mem_listed hx
    simp [go_sem] at hm
  clear hK K
  try simp only [alloc_at, at_heap]
  try w_num
  refine Goes.step rfl (fun _ h₁ => ?_); obtain ⟨d, rfl⟩ := h₁
  try simp only [at_at]
  rw [stepG_region_end]; simp only [goes_go]; refine ⟨nil_evs _, ?_⟩
  refine Goes.step rfl (fun _ h₁ => ?_); obtain ⟨d, rfl⟩ := h₁
  try simp only [at_at]
  rw [stepG_cond (t := true) rfl]; simp only [goes_go, if_true, if_false, Bool.false_eq_true, ↓reduceIte]; refine ⟨nil_evs _, ?_⟩
  refine Goes.step rfl (fun _ h₁ => ?_); obtain ⟨d, rfl⟩ := h₁
  try simp only [at_at]
  rw [stepG_seq]; simp only [goes_go]; refine ⟨nil_evs _, ?_⟩
  refine Goes.step rfl (fun _ h₁ => ?_); obtain ⟨d, rfl⟩ := h₁
  try simp only [at_at]
  rw [stepG_region]; simp only [goes_go, List.size_toArray, List.length_cons, List.length_nil, Nat.reduceAdd, Nat.zero_add, List.range, List.range.loop]; refine ⟨nil_evs _, ?_⟩
  refine Goes.step rfl (fun _ h₁ => ?_); obtain ⟨d, rfl⟩ := h₁
  try simp only [at_at]
  refine goes_oper_k rfl rfl (by k_ne) (fun K hK => ?_)
  go_simp
  try simp only [alloc_at, at_heap] at hK ⊢
  refine hK _ _ ⟨?_, ?_⟩
  · intro x hx
    have hm := mem_listed hx
    simp [go_sem] at hm
  clear hK K
  try simp only [alloc_at, at_heap]
  try w_num
  refine Goes.step rfl (fun _ h₁ => ?_); obtain ⟨d, rfl⟩ := h₁
  try simp only [at_at]
  refine goes_oper_k rfl rfl (by k_ne) (fun K hK => ?_)
  go_simp
  try simp only [alloc_at, at_heap] at hK ⊢
  refine hK _ _ ⟨?_, ?_⟩
  · intro x hx
    have hm := mem_listed hx
    simp [go_sem] at hm
  clear hK K
  try simp only [alloc_at, at_heap]
  try w_num
  refine Goes.step rfl (fun _ h₁ => ?_); obtain ⟨d, rfl⟩ := h₁
  try simp only [at_at]
  rw [stepG_region_end]; simp only [goes_go]; refine ⟨nil_evs _, ?_⟩
  refine Goes.step rfl (fun _ h₁ => ?_); obtain ⟨d, rfl⟩ := h₁
  try simp only [at_at]
  rw [stepG_ret']; simp only [goes_go]; refine ⟨nil_evs _, ?_⟩
  refine Goes.step rfl (fun _ h₁ => ?_); obtain ⟨d, rfl⟩ := h₁
  try simp only [at_at]
  rw [stepG_leave (b := base 46) rfl rfl Try.func46 (results_tmp2 (t := 6) (u := 7) rfl _ _ _) (events_results_tmp2 (t := 6) (u := 7) rfl _ _)]; simp only [goes_go]; refine ⟨nil_evs _, ?_⟩
  exact Goes.stop (fun _ h₁ => by obtain ⟨d, rfl⟩ := h₁; exact ⟨rfl, _, rfl⟩)
end
end Go.Proofs.Ytcdnmnipaaooiaa
end

section
set_option linter.unusedSimpArgs false
set_option linter.unusedVariables false
namespace Go.Proofs.Ytcdnmnipaaooiaa
open Go.Conc Go.RowKit Go.Conc.Lib Go.ConcR.Gen Go.Tw
theorem infoT3 : (Try.prog.info? 3).map (fun i => (i.zero, i.size, i.bytes)) = some (some (.int .i64 0), 1, 8) := by kernel_rfl
theorem run_mkT (n : Nat) (hn : n ≤ 20) (w : World) : Sem.run Try.prog (Instr.makeSlice 23 (.int .i64 n) (.int .i64 n)) w = .ok (.slice (some ⟨w.heap.size, 0, none⟩) n n) (w.alloc (.cells (madeCells #[.int .i64 0] n) 3)) := by
  have hi := infoT3
  obtain ⟨i, h1, e⟩ := Option.map_eq_some_iff.1 hi
  simp only [Prod.mk.injEq] at e
  obtain ⟨h2, h3, h4⟩ := e
  have := run_make w 23 3 i (.int .i64 0) Try.underlying23 h1 h2 .i64 .i64 (n : Int) (n : Int) (by omega) (by omega) (by rw [h4]; omega) (by omega)
  rw [h3] at this
  simpa [Value.cells] using this
theorem ev_mkT (n : Nat) (hn : n ≤ 20) (w : World) (es : Array Event) : (Instr.makeSlice 23 (.int .i64 n) (.int .i64 n)).events Try.prog w es = es := by
  have hi := infoT3
  obtain ⟨i, h1, e⟩ := Option.map_eq_some_iff.1 hi
  simp only [Prod.mk.injEq] at e
  obtain ⟨h2, h3, h4⟩ := e
  exact events_make w 23 3 i (.int .i64 0) Try.underlying23 h1 h2 .i64 .i64 (n : Int) (n : Int) (by omega) (by omega) (by rw [h4]; omega) (by omega) (by rw [h4]; omega) es
theorem setCell_at (w : World) (d : Nat) (a : Addr) (v : Value) : (w.at d).setCell a v = (w.setCell a v).at d := rfl
theorem set_new (w : World) (u v : Value) (t : TypeId) : (w.alloc (.cells #[u] t)).setCell ⟨w.heap.size, 0, none⟩ v = w.alloc (.cells #[v] t) := by
  have h := heap_alloc_new w (.cells #[u] t)
  unfold World.setCell World.alloc
  simp only [World.mk.injEq, and_true, true_and]
  apply Array.ext_getElem?
  intro i
  rw [Array.getElem?_modify, Array.getElem?_push, Array.getElem?_push]
  by_cases e : i = w.heap.size
  · subst e; simp
  · simp [e, Ne.symm e]
section
variable {E : Event → Prop} {A B : Option Addr} {n m c e f N : Nat} {cs : List Frame} {W : World}
set_option maxRecDepth 100000 in
set_option maxHeartbeats 4000000 in
theorem h5t (hn : n ≤ 20) (hs : W.heap.size = N + 3) (hb0 : W.heap[N]? = some (.cells #[.slice A n c] 23)) (hb1 : W.heap[N + 1]? = some (.cells #[.slice B n e] 23)) (hE : E ⟨.cell ⟨N, 0, none⟩, false, false⟩) (hE1 : E ⟨.cell ⟨N + 1, 0, none⟩, false, false⟩) (hE4 : E ⟨.cell ⟨N + 4, 0, none⟩, true, false⟩) :
    Goes Try.prog true AtRel (DE E) (fun g w' => g = G ((base 46).at ⟨#[.slice A n c, .slice B n e, .func (.func f) #[] #[], .pointer (some ⟨N, 0, none⟩), .pointer (some ⟨N + 1, 0, none⟩), .pointer (some ⟨N + 2, 0, none⟩), .slice none 0 0, .bool false, .pointer (some ⟨N + 4, 0, none⟩), .pointer (some ⟨N + 5, 0, none⟩), undef, .slice A n c, .bool true, .bool false, .bool false, .slice B n e, .bool true, .bool false, .bool false, .bool false, .slice A n c, .int .i64 n, .slice B n e, .int .i64 n, .bool false, .bool false, .slice A n c, .int .i64 n, .slice (some ⟨N + 3, 0, none⟩) n n, .slice A n c, .int .i64 n, .int .i64 (0 : Nat), undef, undef, undef, undef, undef, undef, undef], []⟩ [.code L46, .inLoop L46, .inBlock 0, .code R46]) cs ∧ ∃ d, w' = (((W.alloc (.cells (madeCells #[.int .i64 0] n) 3)).alloc (.cells #[.slice (some ⟨N + 3, 0, none⟩) n n] 23)).alloc (.cells #[.int .u64 0, .int .u32 0] 72)).at d) 80
      (G ((base 46).at ⟨#[.slice A n c, .slice B n e, .func (.func f) #[] #[], .pointer (some ⟨N, 0, none⟩), .pointer (some ⟨N + 1, 0, none⟩), .pointer (some ⟨N + 2, 0, none⟩), .slice none 0 0, .bool false, undef, undef, undef, .slice A n c, .bool true, .bool false, .bool false, .slice B n e, .bool true, undef, undef, undef, undef, undef, undef, undef, undef, undef, undef, undef, undef, undef, undef, undef, undef, undef, undef, undef, undef, undef, undef], []⟩ [.inRegion eops1 [6, 7, 8, 9, 10, 11, 12, 13, 14], .code eA, .code eB]) cs) W := by
  simp only [L46, R46, body46, eB, eA, eops1, Try.f46, Option.getD_some]
  refine Goes.step rfl (fun _ h₁ => ?_); obtain ⟨d, rfl⟩ := h₁
  try simp only [at_at]
  refine goes_oper_k rfl rfl (by k_ne) (fun K hK => ?_)
  go_simp
  try simp only [alloc_at, at_heap] at hK ⊢
  refine hK _ _ ⟨?_, ?_⟩
  · intro x hx
    have hm := mem_listed hx
    simp [go_sem] at hm
  clear hK K
  try simp only [alloc_at, at_heap]
  try w_num
  refine Goes.step rfl (fun _ h₁ => ?_); obtain ⟨d, rfl⟩ := h₁
  try simp only [at_at]
  refine goes_oper_k rfl rfl (by k_ne) (fun K hK => ?_)
  go_simp
  try simp only [alloc_at, at_heap] at hK ⊢
  refine hK _ _ ⟨?_, ?_⟩
  · intro x hx
    have hm := mem_listed hx
    simp [go_sem] at hm
  clear hK K
  try simp only [alloc_at, at_heap]
  try w_num
  refine Goes.step rfl (fun _ h₁ => ?_); obtain ⟨d, rfl⟩ := h₁
  try simp only [at_at]
  refine goes_oper_k rfl rfl (by k_ne) (fun K hK => ?_)
  go_simp
  try simp only [alloc_at, at_heap] at hK ⊢
  refine hK _ _ ⟨?_, ?_⟩
  · intro x hx
    have hm := mem_listed hx
    simp [go_sem] at hm
  clear hK K
  try simp only [alloc_at, at_heap]
  try w_num
  refine Goes.step rfl (fun _ h₁ => ?_); obtain ⟨d, rfl⟩ := h₁
  try simp only [at_at]
  refine goes_oper_k rfl rfl (by k_ne) (fun K hK => ?_)
  have hc := cell_at_of hb0 d
  go_simp
  try simp only [hc]
  go_simp
  refine hK _ _ ⟨?_, ?_⟩
  · intro x hx
    have hm := mem_listed hx
    simp [go_sem, hc] at hm
    subst hm
    exact hE
  clear hK K hc
  try w_num
  refine Goes.step rfl (fun _ h₁ => ?_); obtain ⟨d, rfl⟩ := h₁
  try simp only [at_at]
  refine goes_oper_k rfl rfl (by k_ne) (fun K hK => ?_)
  go_simp
  try simp only [alloc_at, at_heap] at hK ⊢
  refine hK _ _ ⟨?_, ?_⟩
  · intro x hx
    have hm := mem_listed hx
    simp [go_sem] at hm
  clear hK K
  try simp only [alloc_at, at_heap]
  try w_num
  refine Goes.step rfl (fun _ h₁ => ?_); obtain ⟨d, rfl⟩ := h₁
  try simp only [at_at]
  refine goes_oper_k rfl rfl (by k_ne) (fun K hK => ?_)
  have hc := cell_at_of hb1 d
  go_simp
  try simp only [hc]
  go_simp
  refine hK _ _ ⟨?_, ?_⟩
  · intro x hx
    have hm := mem_listed hx
    simp [go_sem, hc] at hm
    subst hm
    exact hE1
  clear hK K hc
  try w_num
  refine Goes.step rfl (fun _ h₁ => ?_); obtain ⟨d, rfl⟩ := h₁
  try simp only [at_at]
  refine goes_oper_k rfl rfl (by k_ne) (fun K hK => ?_)
  go_simp
  try simp only [alloc_at, at_heap] at hK ⊢
  refine hK _ _ ⟨?_, ?_⟩
  · intro x hx
    have hm := mem_listed hx
    simp [go_sem] at hm
  clear hK K
  try simp only [alloc_at, at_heap]
  try w_num
  refine Goes.step rfl (fun _ h₁ => ?_); obtain ⟨d, rfl⟩ := h₁
  try simp only [at_at]
  refine goes_oper_k rfl rfl (by k_ne) (fun K hK => ?_)
  go_simp
  try simp only [alloc_at, at_heap] at hK ⊢
  refine hK _ _ ⟨?_, ?_⟩
  · intro x hx
    have hm := mem_listed hx
    simp [go_sem] at hm
  clear hK K
  try simp only [alloc_at, at_heap]
  try w_num
  refine Goes.step rfl (fun _ h₁ => ?_); obtain ⟨d, rfl⟩ := h₁
  try simp only [at_at]
  refine goes_oper_k rfl rfl (by k_ne) (fun K hK => ?_)
  go_simp
  try simp only [alloc_at, at_heap] at hK ⊢
  refine hK _ _ ⟨?_, ?_⟩
  · intro x hx
    have hm := mem_listed hx
    simp [go_sem] at hm
  clear hK K
  try simp only [alloc_at, at_heap]
  try w_num
  refine Goes.step rfl (fun _ h₁ => ?_); obtain ⟨d, rfl⟩ := h₁
  try simp only [at_at]
  rw [stepG_region_end]; simp only [goes_go]; refine ⟨nil_evs _, ?_⟩
  refine Goes.step rfl (fun _ h₁ => ?_); obtain ⟨d, rfl⟩ := h₁
  try simp only [at_at]
  rw [stepG_cond (t := false) rfl]; simp only [goes_go, if_true, if_false, Bool.false_eq_true, ↓reduceIte]; refine ⟨nil_evs _, ?_⟩
  refine Goes.step rfl (fun _ h₁ => ?_); obtain ⟨d, rfl⟩ := h₁
  try simp only [at_at]
  rw [stepG_skip]; simp only [goes_go]; refine ⟨nil_evs _, ?_⟩
  refine Goes.step rfl (fun _ h₁ => ?_); obtain ⟨d, rfl⟩ := h₁
  try simp only [at_at]
  rw [stepG_seq]; simp only [goes_go]; refine ⟨nil_evs _, ?_⟩
  refine Goes.step rfl (fun _ h₁ => ?_); obtain ⟨d, rfl⟩ := h₁
  try simp only [at_at]
  rw [stepG_region]; simp only [goes_go, List.size_toArray, List.length_cons, List.length_nil, Nat.reduceAdd, Nat.zero_add, List.range, List.range.loop]; refine ⟨nil_evs _, ?_⟩
  refine Goes.step rfl (fun _ h₁ => ?_); obtain ⟨d, rfl⟩ := h₁
  try simp only [at_at]
  refine goes_oper_k rfl rfl (by k_ne) (fun K hK => ?_)
  have hc := cell_at_of hb0 d
  go_simp
  try simp only [hc]
  go_simp
  refine hK _ _ ⟨?_, ?_⟩
  · intro x hx
    have hm := mem_listed hx
    simp [go_sem, hc] at hm
    subst hm
    exact hE
  clear hK K hc
  try w_num
  refine Goes.step rfl (fun _ h₁ => ?_); obtain ⟨d, rfl⟩ := h₁
  try simp only [at_at]
  refine goes_oper_k rfl rfl (by k_ne) (fun K hK => ?_)
  go_simp
  try simp only [alloc_at, at_heap] at hK ⊢
  refine hK _ _ ⟨?_, ?_⟩
  · intro x hx
    have hm := mem_listed hx
    simp [go_sem] at hm
  clear hK K
  try simp only [alloc_at, at_heap]
  try w_num
  refine Goes.step rfl (fun _ h₁ => ?_); obtain ⟨d, rfl⟩ := h₁
  try simp only [at_at]
  refine goes_oper_k rfl rfl (by k_ne) (fun K hK => ?_)
  have hmk := run_mkT n hn
  have hme := ev_mkT n hn
  go_simp
  simp only [alloc_at, at_heap, hs] at hK ⊢
  refine hK _ _ ⟨?_, ?_⟩
  · intro x hx
    have hm := mem_listed hx
    simp [go_sem, hme] at hm
  clear hK K hmk hme
  try simp only [alloc_at, at_heap]
  refine Goes.step rfl (fun _ h₁ => ?_); obtain ⟨d, rfl⟩ := h₁
  try simp only [at_at]
  refine goes_oper_k rfl rfl (by k_ne) (fun K hK => ?_)
  go_simp
  try simp only [alloc_at, at_heap] at hK ⊢
  refine hK _ _ ⟨?_, ?_⟩
  · intro x hx
    have hm := mem_listed hx
    simp [go_sem] at hm
  clear hK K
  try simp only [alloc_at, at_heap]
  try w_num
  refine Goes.step rfl (fun _ h₁ => ?_); obtain ⟨d, rfl⟩ := h₁
  try simp only [at_at]
  have hbo : ((W.alloc (.cells (madeCells #[.int .i64 0] n) 3)).alloc (.cells #[.slice none 0 0] 23)).heap[N + 3 + 1]? = some (.cells #[.slice none 0 0] 23) := by
    have := heap_alloc_new (W.alloc (.cells (madeCells #[.int .i64 0] n) 3)) (.cells #[.slice none 0 0] 23)
    rwa [show (W.alloc (.cells (madeCells #[.int .i64 0] n) 3)).heap.size = N + 3 + 1 by simp [hs]] at this
  have hst : ((W.alloc (.cells (madeCells #[.int .i64 0] n) 3)).alloc (.cells #[.slice none 0 0] 23)).setCell ⟨N + 3 + 1, 0, none⟩ (.slice (some ⟨N + 3, 0, none⟩) n n) = (W.alloc (.cells (madeCells #[.int .i64 0] n) 3)).alloc (.cells #[.slice (some ⟨N + 3, 0, none⟩) n n] 23) := by
    have := set_new (W.alloc (.cells (madeCells #[.int .i64 0] n) 3)) (.slice none 0 0) (.slice (some ⟨N + 3, 0, none⟩) n n) 23
    rwa [show (W.alloc (.cells (madeCells #[.int .i64 0] n) 3)).heap.size = N + 3 + 1 by simp [hs]] at this
  have hfz : (((W.alloc (.cells (madeCells #[.int .i64 0] n) 3)).alloc (.cells #[.slice none 0 0] 23)).at d).frozen? ⟨N + 3 + 1, 0, none⟩ = false := (cell_of_cells (w := ((W.alloc (.cells (madeCells #[.int .i64 0] n) 3)).alloc (.cells #[.slice none 0 0] 23)).at d) hbo).2
  have hce := cell_at_of hbo d
  refine goes_oper_k rfl rfl (by k_ne) (fun K hK => ?_)
  go_simp
  simp only [setCell_at, hst] at hK ⊢
  refine hK _ _ ⟨?_, ?_⟩
  · intro x hx
    have hm := mem_listed hx
    simp [go_sem, hs, hce, hfz] at hm
    subst hm
    exact hE4
  clear hK K hbo hst hfz hce
  refine Goes.step rfl (fun _ h₁ => ?_); obtain ⟨d, rfl⟩ := h₁
  try simp only [at_at]
  rw [stepG_region_end]; simp only [goes_go]; refine ⟨nil_evs _, ?_⟩
  refine Goes.step rfl (fun _ h₁ => ?_); obtain ⟨d, rfl⟩ := h₁
  try simp only [at_at]
  rw [stepG_seq]; simp only [goes_go]; refine ⟨nil_evs _, ?_⟩
  refine Goes.step rfl (fun _ h₁ => ?_); obtain ⟨d, rfl⟩ := h₁
  try simp only [at_at]
  rw [stepG_region]; simp only [goes_go, List.size_toArray, List.length_cons, List.length_nil, Nat.reduceAdd, Nat.zero_add, List.range, List.range.loop]; refine ⟨nil_evs _, ?_⟩
  refine Goes.step rfl (fun _ h₁ => ?_); obtain ⟨d, rfl⟩ := h₁
  try simp only [at_at]
  refine goes_oper_k rfl rfl (by k_ne) (fun K hK => ?_)
  go_simp
  have hs5 : ((W.alloc (.cells (madeCells #[.int .i64 0] n) 3)).alloc (.cells #[.slice (some ⟨N + 3, 0, none⟩) n n] 23)).heap.size = N + 3 + 1 + 1 := by simp [hs]
  simp only [alloc_at, at_heap, hs5] at hK ⊢
  refine hK _ _ ⟨?_, ?_⟩
  · intro x hx
    have hm := mem_listed hx
    simp [go_sem] at hm
  clear hK K hs5
  try simp only [alloc_at, at_heap]
  have hb0' : (((W.alloc (.cells (madeCells #[.int .i64 0] n) 3)).alloc (.cells #[.slice (some ⟨N + 3, 0, none⟩) n n] 23)).alloc (.cells #[.int .u64 0, .int .u32 0] 72)).heap[N]? = some (.cells #[.slice A n c] 23) := by
    rw [Below.heap_alloc _ _ _ (by simp [hs]; omega), Below.heap_alloc _ _ _ (by simp [hs]; omega), Below.heap_alloc _ _ _ (by omega)]
    exact hb0
  refine Goes.step rfl (fun _ h₁ => ?_); obtain ⟨d, rfl⟩ := h₁
  try simp only [at_at]
  rw [stepG_region_end]; simp only [goes_go]; refine ⟨nil_evs _, ?_⟩
  refine Goes.step rfl (fun _ h₁ => ?_); obtain ⟨d, rfl⟩ := h₁
  try simp only [at_at]
  rw [stepG_seq]; simp only [goes_go]; refine ⟨nil_evs _, ?_⟩
  refine Goes.step rfl (fun _ h₁ => ?_); obtain ⟨d, rfl⟩ := h₁
  try simp only [at_at]
  rw [stepG_seq]; simp only [goes_go]; refine ⟨nil_evs _, ?_⟩
  refine Goes.step rfl (fun _ h₁ => ?_); obtain ⟨d, rfl⟩ := h₁
  try simp only [at_at]
  rw [stepG_region]; simp only [goes_go, List.size_toArray, List.length_cons, List.length_nil, Nat.reduceAdd, Nat.zero_add, List.range, List.range.loop]; refine ⟨nil_evs _, ?_⟩
  refine Goes.step rfl (fun _ h₁ => ?_); obtain ⟨d, rfl⟩ := h₁
  try simp only [at_at]
  refine goes_oper_k rfl rfl (by k_ne) (fun K hK => ?_)
  have hc := cell_at_of hb0' d
  go_simp
  try simp only [hc]
  go_simp
  refine hK _ _ ⟨?_, ?_⟩
  · intro x hx
    have hm := mem_listed hx
    simp [go_sem, hc] at hm
    subst hm
    exact hE
  clear hK K hc
  try w_num
  refine Goes.step rfl (fun _ h₁ => ?_); obtain ⟨d, rfl⟩ := h₁
  try simp only [at_at]
  refine goes_oper_k rfl rfl (by k_ne) (fun K hK => ?_)
  go_simp
  try simp only [alloc_at, at_heap] at hK ⊢
  refine hK _ _ ⟨?_, ?_⟩
  · intro x hx
    have hm := mem_listed hx
    simp [go_sem] at hm
  clear hK K
  try simp only [alloc_at, at_heap]
  try w_num
  refine Goes.step rfl (fun _ h₁ => ?_); obtain ⟨d, rfl⟩ := h₁
  try simp only [at_at]
  refine goes_oper_k rfl rfl (by k_ne) (fun K hK => ?_)
  go_simp
  try simp only [alloc_at, at_heap] at hK ⊢
  refine hK _ _ ⟨?_, ?_⟩
  · intro x hx
    have hm := mem_listed hx
    simp [go_sem] at hm
  clear hK K
  try simp only [alloc_at, at_heap]
  try w_num
  refine Goes.step rfl (fun _ h₁ => ?_); obtain ⟨d, rfl⟩ := h₁
  try simp only [at_at]
  rw [stepG_region_end]; simp only [goes_go]; refine ⟨nil_evs _, ?_⟩
  refine Goes.step rfl (fun _ h₁ => ?_); obtain ⟨d, rfl⟩ := h₁
  try simp only [at_at]
  rw [stepG_block]; simp only [goes_go]; refine ⟨nil_evs _, ?_⟩
  refine Goes.step rfl (fun _ h₁ => ?_); obtain ⟨d, rfl⟩ := h₁
  try simp only [at_at]
  rw [stepG_loop]; simp only [goes_go]; refine ⟨nil_evs _, ?_⟩
  exact Goes.stop (fun _ h₁ => by obtain ⟨d, rfl⟩ := h₁; exact ⟨rfl, _, rfl⟩)
end
end Go.Proofs.Ytcdnmnipaaooiaa
end
