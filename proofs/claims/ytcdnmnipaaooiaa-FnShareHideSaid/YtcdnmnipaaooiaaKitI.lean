import Derived.Test.YtcdnmnipaaooiaaKitD
import Derived.Test.YtcdnmnipaaooiaaKitH
import Derived.Conc.LeavingOf
import Derived.Test.YtcdnmnipaaooiaaKitG
-- Written by a program of this session (wip/tools/pack.py): texts of this seat laid one behind the other, without what the claim does not reach
section
namespace Go.Proofs.Ytcdnmnipaaooiaa
open Go.Conc Go.Tw
theorem alts : ∀ f, f < 133 → Try.prog.funcs[f]? = Twin.funcs[f]? ∨ Twin.funcs[f]? = some Twin.dead ∨ f ∈ [17, 20, 21, 24]
  | 0, _ => .inr (.inl (by kernel_rfl))
  | 1, _ => .inr (.inl (by kernel_rfl))
  | 2, _ => .inl (by kernel_rfl)
  | 3, _ => .inl (by kernel_rfl)
  | 4, _ => .inl (by kernel_rfl)
  | 5, _ => .inl (by kernel_rfl)
  | 6, _ => .inl (by kernel_rfl)
  | 7, _ => .inl (by kernel_rfl)
  | 8, _ => .inl (by kernel_rfl)
  | 9, _ => .inl (by kernel_rfl)
  | 10, _ => .inl (by kernel_rfl)
  | 11, _ => .inl (by kernel_rfl)
  | 12, _ => .inl (by kernel_rfl)
  | 13, _ => .inl (by kernel_rfl)
  | 14, _ => .inl (by kernel_rfl)
  | 15, _ => .inl (by kernel_rfl)
  | 16, _ => .inl (by kernel_rfl)
  | 17, _ => .inr (.inr (by decide))
  | 18, _ => .inl (by kernel_rfl)
  | 19, _ => .inl (by kernel_rfl)
  | 20, _ => .inr (.inr (by decide))
  | 21, _ => .inr (.inr (by decide))
  | 22, _ => .inl (by kernel_rfl)
  | 23, _ => .inl (by kernel_rfl)
  | 24, _ => .inr (.inr (by decide))
  | 25, _ => .inl (by kernel_rfl)
  | 26, _ => .inl (by kernel_rfl)
  | 27, _ => .inl (by kernel_rfl)
  | 28, _ => .inl (by kernel_rfl)
  | 29, _ => .inl (by kernel_rfl)
  | 30, _ => .inl (by kernel_rfl)
  | 31, _ => .inl (by kernel_rfl)
  | 32, _ => .inl (by kernel_rfl)
  | 33, _ => .inl (by kernel_rfl)
  | 34, _ => .inl (by kernel_rfl)
  | 35, _ => .inl (by kernel_rfl)
  | 36, _ => .inl (by kernel_rfl)
  | 37, _ => .inl (by kernel_rfl)
  | 38, _ => .inl (by kernel_rfl)
  | 39, _ => .inl (by kernel_rfl)
  | 40, _ => .inl (by kernel_rfl)
  | 41, _ => .inl (by kernel_rfl)
  | 42, _ => .inl (by kernel_rfl)
  | 43, _ => .inl (by kernel_rfl)
  | 44, _ => .inl (by kernel_rfl)
  | 45, _ => .inl (by kernel_rfl)
  | 46, _ => .inr (.inl (by kernel_rfl))
  | 47, _ => .inl (by kernel_rfl)
  | 48, _ => .inl (by kernel_rfl)
  | 49, _ => .inl (by kernel_rfl)
  | 50, _ => .inl (by kernel_rfl)
  | 51, _ => .inl (by kernel_rfl)
  | 52, _ => .inl (by kernel_rfl)
  | 53, _ => .inl (by kernel_rfl)
  | 54, _ => .inl (by kernel_rfl)
  | 55, _ => .inl (by kernel_rfl)
  | 56, _ => .inl (by kernel_rfl)
  | 57, _ => .inl (by kernel_rfl)
  | 58, _ => .inl (by kernel_rfl)
  | 59, _ => .inl (by kernel_rfl)
  | 60, _ => .inl (by kernel_rfl)
  | 61, _ => .inl (by kernel_rfl)
  | 62, _ => .inl (by kernel_rfl)
  | 63, _ => .inl (by kernel_rfl)
  | 64, _ => .inl (by kernel_rfl)
  | 65, _ => .inl (by kernel_rfl)
  | 66, _ => .inl (by kernel_rfl)
  | 67, _ => .inl (by kernel_rfl)
  | 68, _ => .inr (.inl (by kernel_rfl))
  | 69, _ => .inr (.inl (by kernel_rfl))
  | 70, _ => .inr (.inl (by kernel_rfl))
  | 71, _ => .inr (.inl (by kernel_rfl))
  | 72, _ => .inl (by kernel_rfl)
  | 73, _ => .inl (by kernel_rfl)
  | 74, _ => .inl (by kernel_rfl)
  | 75, _ => .inl (by kernel_rfl)
  | 76, _ => .inl (by kernel_rfl)
  | 77, _ => .inl (by kernel_rfl)
  | 78, _ => .inl (by kernel_rfl)
  | 79, _ => .inl (by kernel_rfl)
  | 80, _ => .inl (by kernel_rfl)
  | 81, _ => .inl (by kernel_rfl)
  | 82, _ => .inl (by kernel_rfl)
  | 83, _ => .inl (by kernel_rfl)
  | 84, _ => .inr (.inl (by kernel_rfl))
  | 85, _ => .inr (.inl (by kernel_rfl))
  | 86, _ => .inr (.inl (by kernel_rfl))
  | 87, _ => .inr (.inl (by kernel_rfl))
  | 88, _ => .inr (.inl (by kernel_rfl))
  | 89, _ => .inr (.inl (by kernel_rfl))
  | 90, _ => .inl (by kernel_rfl)
  | 91, _ => .inl (by kernel_rfl)
  | 92, _ => .inr (.inl (by kernel_rfl))
  | 93, _ => .inl (by kernel_rfl)
  | 94, _ => .inl (by kernel_rfl)
  | 95, _ => .inr (.inl (by kernel_rfl))
  | 96, _ => .inr (.inl (by kernel_rfl))
  | 97, _ => .inr (.inl (by kernel_rfl))
  | 98, _ => .inr (.inl (by kernel_rfl))
  | 99, _ => .inl (by kernel_rfl)
  | 100, _ => .inr (.inl (by kernel_rfl))
  | 101, _ => .inr (.inl (by kernel_rfl))
  | 102, _ => .inl (by kernel_rfl)
  | 103, _ => .inr (.inl (by kernel_rfl))
  | 104, _ => .inr (.inl (by kernel_rfl))
  | 105, _ => .inr (.inl (by kernel_rfl))
  | 106, _ => .inr (.inl (by kernel_rfl))
  | 107, _ => .inr (.inl (by kernel_rfl))
  | 108, _ => .inr (.inl (by kernel_rfl))
  | 109, _ => .inr (.inl (by kernel_rfl))
  | 110, _ => .inr (.inl (by kernel_rfl))
  | 111, _ => .inr (.inl (by kernel_rfl))
  | 112, _ => .inr (.inl (by kernel_rfl))
  | 113, _ => .inr (.inl (by kernel_rfl))
  | 114, _ => .inr (.inl (by kernel_rfl))
  | 115, _ => .inr (.inl (by kernel_rfl))
  | 116, _ => .inr (.inl (by kernel_rfl))
  | 117, _ => .inr (.inl (by kernel_rfl))
  | 118, _ => .inr (.inl (by kernel_rfl))
  | 119, _ => .inr (.inl (by kernel_rfl))
  | 120, _ => .inr (.inl (by kernel_rfl))
  | 121, _ => .inr (.inl (by kernel_rfl))
  | 122, _ => .inr (.inl (by kernel_rfl))
  | 123, _ => .inl (by kernel_rfl)
  | 124, _ => .inr (.inl (by kernel_rfl))
  | 125, _ => .inl (by kernel_rfl)
  | 126, _ => .inl (by kernel_rfl)
  | 127, _ => .inr (.inl (by kernel_rfl))
  | 128, _ => .inl (by kernel_rfl)
  | 129, _ => .inl (by kernel_rfl)
  | 130, _ => .inr (.inl (by kernel_rfl))
  | 131, _ => .inl (by kernel_rfl)
  | 132, _ => .inr (.inl (by kernel_rfl))
  | f + 133, h => absurd h (by omega)
theorem crosses_of {Stop : Frame → List Frame → World → Prop} (hSe : ∀ fr top w, Stop fr top w → top = [] ∧ fr.mode = .returning)
    (h : ∀ (f : FuncId) (args : Array Value) (c : Frame) (rest : List Frame) (wp : World), f ∈ [17, 20, 21, 24] → WA Try.prog Twin.funcs Stop (Frame.enter Twin.prog f args .normal, c :: rest, wp) → Low Twin.funcs (c :: rest) →
      (∀ b s, Down Try.prog Twin.funcs Stop (Frame.enter Twin.prog f args .normal, c :: rest, wp) b → Downs Try.prog Twin.funcs Stop b s → Tw.Comes Try.prog Twin.funcs Stop s) →
      ∀ (c' : Frame) (Z : List Frame) (S : Nat → Prop) (gs : Array Goroutine) (W : World) (sl : Option (Nat × Nat)) (T : Trace) (q : Nat → Nat), Held Try.prog S wp (G (Frame.enter Try.prog f args .normal) (c' :: Z)) gs W T q →
        ∃ N v wp' S' gs' W' sl' T' q', runNT Try.prog N (crowd gs W sl) T = (.next (crowd gs' W' sl'), T') ∧ Downs Try.prog Twin.funcs Stop (Frame.enter Twin.prog f args .normal, c :: rest, wp) (c.finish v, rest, wp') ∧ Held Try.prog S' wp' (G (c'.finish v) Z) gs' W' T' q' ∧ Grew S S' W W') :
    Crosses Try.prog Twin.funcs Stop := by
  intro f args c rest wp hne hB hwa hlow ih
  have hf : f < 133 := by
    obtain ⟨fn, hfn, _⟩ := hB
    have hs : Try.prog.funcs.size = 133 := by kernel_rfl
    rw [← hs]; exact (Array.getElem?_eq_some_iff.1 hfn).1
  rcases alts f hf with h1 | h1 | h1
  · exact absurd h1 hne
  · exfalso
    have etodo : (Frame.enter (alt Try.prog Twin.funcs) f args .normal).todo = [.code (.refuse "dead")] := by
      have : (alt Try.prog Twin.funcs).funcs[f]? = some Twin.dead := h1
      simp [Frame.enter, this, Twin.dead]
    obtain ⟨s', ⟨es, hg⟩, _⟩ := hwa.elim wp.tape (fun _ _ _ => rfl) (fun h => by have := (hSe _ _ _ h).1; cases this)
    obtain ⟨o, hend⟩ := refuse_ended (P := alt Try.prog Twin.funcs) (fr := Frame.enter (alt Try.prog Twin.funcs) f args .normal) rfl etodo
    simp only at hg
    rw [hend] at hg
    cases hg
  · exact h f args c rest wp h1 hwa hlow ih
end Go.Proofs.Ytcdnmnipaaooiaa
end

section
set_option linter.unusedSimpArgs false
set_option linter.unusedVariables false
namespace Go.Proofs.Ytcdnmnipaaooiaa
open Go.Conc Go.RowKit Go.Conc.Lib Go.ConcR.Gen Go.Tw
open Go.Proofs.YtcdnmnipaaooiaaW.PrintWords
/-- What the core leaves is told by where it began. -/
theorem coreEnd_det {f : Nat} {va vb : Value} {n : Nat} {xs ys : List Int} {w : World} {r s r' s' : Value} {w' w'' : World} (h : P.CoreEnd f va vb n xs ys w r s w') (k : P.CoreEnd f va vb n xs ys w r' s' w'') : r = r' ∧ s = s' ∧ w' = w'' := by
  rcases h with ⟨a, rfl, rfl, rfl⟩ | ⟨a, rfl, rfl, rfl⟩ <;> rcases k with ⟨b, rfl, rfl, rfl⟩ | ⟨b, rfl, rfl, rfl⟩
  · exact ⟨rfl, rfl, rfl⟩
  · rw [a] at b; cases b
  · rw [a] at b; cases b
  · exact ⟨rfl, rfl, rfl⟩
theorem row_below {w w' : World} {A : Option Addr} {n : Nat} {g : Nat → Int} (h : IntRow w A 0 n g) (hb : Below w.heap.size w w') : IntRow w' A 0 n g := by
  intro i h0 h1
  obtain ⟨ad, hA, hc⟩ := h i h0 h1
  refine ⟨ad, hA, ?_⟩
  rw [← hc]
  have hlt : (ad.add i).block < w.heap.size := by
    cases hh : w.heap[(ad.add i).block]? with
    | none => simp [World.cell?, hh] at hc
    | some o => exact (Array.getElem?_eq_some_iff.1 hh).1
  simp [World.cell?, hb.block _ hlt]
theorem two_args {args : Array Value} {k : Nat} {a b : Option Addr} {n c m d : Nat} {rest : List Value} (h : args ++ Array.replicate k undef = (.slice a n c :: .slice b m d :: rest).toArray) :
    ∃ l, args = (.slice a n c :: .slice b m d :: l).toArray := by
  obtain ⟨l⟩ := args
  have h' : l ++ List.replicate k undef = .slice a n c :: .slice b m d :: rest := by
    have := congrArg Array.toList h
    simpa using this
  rcases l with _ | ⟨x, l⟩
  · cases k with
    | zero => cases h'
    | succ k => rw [List.nil_append, List.replicate_succ] at h'; injection h' with h1 _; cases h1
  rcases l with _ | ⟨y, l⟩
  · cases k with
    | zero => simp at h'
    | succ k => rw [List.cons_append, List.nil_append, List.replicate_succ] at h'; injection h' with _ h2; injection h2 with h3 _; cases h3
  simp only [List.cons_append, List.cons.injEq] at h'
  exact ⟨l, by rw [h'.1, h'.2.1]⟩
section
variable {Stop : Frame → List Frame → World → Prop}
/-- Two rows. -/
def TwoRows (args : Array Value) (w : World) : Prop := ∃ A n c B m d l g h, args = (.slice A n c :: .slice B m d :: l).toArray ∧ n ≤ 9223372036854775807 ∧ m ≤ 9223372036854775807 ∧ IntRow w A 0 n g ∧ IntRow w B 0 m h
theorem rows_of {F : Nat} {fn : Func} {c : Code} (hS : StopOk Twin.funcs Stop) (hF : Twin.prog.funcs[F]? = some fn) (hF' : Twin.funcs[F]? = some fn) (hb : fn.body = some (.seq Twin.good c)) (hn : 31 ≤ fn.ntmps) {args : Array Value} {top : List Frame} {w : World} (hlow : Low Twin.funcs top) (hok : OkWd w)
    (h : WA Try.prog Twin.funcs Stop (Frame.enter Twin.prog F args .normal, top, w)) : TwoRows args w := by
  rw [enter_at' hF hb] at h
  obtain ⟨h1, _⟩ := wa_ctl hS h (fr' := (base F).at ⟨args ++ Array.replicate (fn.ntmps - args.size) undef, []⟩ [.code Twin.good, .code c]) rfl rfl rfl
  obtain ⟨v0, v1, v2, v3, v4, v5, v6, v7, v8, v9, v10, v11, v12, v13, v14, v15, v16, v17, v18, v19, v20, v21, v22, v23, v24, v25, v26, v27, v28, v29, v30, rest, e⟩ := P.slots31 (args ++ Array.replicate (fn.ntmps - args.size) undef) (by simp; omega)
  rw [e] at h1
  obtain ⟨A, n, c', B, m, d, rfl, rfl, hn, hm, ⟨g, hg⟩, h', hh⟩ := good_rows hS ⟨fn, hF'⟩ hlow hok h1
  obtain ⟨l, hl⟩ := two_args e
  exact ⟨A, n, c', B, m, d, l, g, h', hl, hn, hm, hg, hh⟩
noncomputable def c20g : Code := match Twin.f20.body with | some (.seq _ (.seq _ c)) => c | _ => .skip
set_option maxRecDepth 100000 in
set_option maxHeartbeats 4000000 in
theorem in20 {v0 v1 v2 v3 v4 v5 v6 v7 v8 v9 v10 v11 v12 v13 v14 v15 v16 v17 v18 v19 v20 v21 v22 v23 v24 v25 v26 v27 v28 v29 v30 v31 v32 v33 v34 : Value} {rest : List Value} {cs : List Frame} {w : World} {code : Code} (hcode : Twin.f20.body = some code) :
    Goes Twin.prog true Eq DT (fun g w' => g = G ((base 20).at ⟨(v0 :: v1 :: v2 :: v3 :: v4 :: v5 :: v6 :: v7 :: v8 :: v9 :: v10 :: v11 :: v12 :: v13 :: v14 :: v15 :: v16 :: v17 :: v18 :: v19 :: v20 :: v21 :: v22 :: v23 :: v24 :: v25 :: v26 :: v27 :: v28 :: v29 :: v30 :: .slice none 0 0 :: .slice none 0 0 :: .bool false :: v34 :: rest).toArray, []⟩ [.code Twin.good, .code c20g]) cs ∧ w' = w) 12 (G ((base 20).at ⟨(v0 :: v1 :: v2 :: v3 :: v4 :: v5 :: v6 :: v7 :: v8 :: v9 :: v10 :: v11 :: v12 :: v13 :: v14 :: v15 :: v16 :: v17 :: v18 :: v19 :: v20 :: v21 :: v22 :: v23 :: v24 :: v25 :: v26 :: v27 :: v28 :: v29 :: v30 :: v31 :: v32 :: v33 :: v34 :: rest).toArray, []⟩ [.code code]) cs) w := by
  simp only [Twin.f20, Option.some.injEq] at hcode
  simp only [c20g, Twin.f20]
  subst hcode
  refine Goes.step rfl (fun _ h₁ => ?_); subst h₁
  rw [stepG_seq]; simp only [goes_go]; refine ⟨trivial, ?_⟩
  refine Goes.step rfl (fun _ h₁ => ?_); subst h₁
  rw [stepG_region]; simp only [goes_go, List.size_toArray, List.length_cons, List.length_nil, Nat.reduceAdd, Nat.zero_add, List.range, List.range.loop]; refine ⟨trivial, ?_⟩
  refine Goes.step rfl (fun _ h₁ => ?_); subst h₁
  refine goes_oper_k rfl rfl (by k_ne) (fun K hK => ?_)
  go_simp
  refine hK _ _ ⟨trivial, ?_⟩
  clear hK K
  try w_num
  refine Goes.step rfl (fun _ h₁ => ?_); subst h₁
  refine goes_oper_k rfl rfl (by k_ne) (fun K hK => ?_)
  go_simp
  refine hK _ _ ⟨trivial, ?_⟩
  clear hK K
  try w_num
  refine Goes.step rfl (fun _ h₁ => ?_); subst h₁
  refine goes_oper_k rfl rfl (by k_ne) (fun K hK => ?_)
  go_simp
  refine hK _ _ ⟨trivial, ?_⟩
  clear hK K
  try w_num
  refine Goes.step rfl (fun _ h₁ => ?_); subst h₁
  rw [stepG_region_end]; simp only [goes_go]; refine ⟨trivial, ?_⟩
  refine Goes.step rfl (fun _ h₁ => ?_); subst h₁
  rw [stepG_seq]; simp only [goes_go]; refine ⟨trivial, ?_⟩
  exact Goes.stop (fun _ e => by subst e; exact ⟨rfl, rfl⟩)
theorem rows_of20 (hS : StopOk Twin.funcs Stop) {args : Array Value} {top : List Frame} {w : World} (hlow : Low Twin.funcs top) (hok : OkWd w)
    (h : WA Try.prog Twin.funcs Stop (Frame.enter Twin.prog 20 args .normal, top, w)) : TwoRows args w := by
  obtain ⟨code, hcode⟩ : ∃ code, Twin.f20.body = some code := ⟨_, rfl⟩
  rw [enter_at' Twin.func20 hcode] at h
  obtain ⟨v0, v1, v2, v3, v4, v5, v6, v7, v8, v9, v10, v11, v12, v13, v14, v15, v16, v17, v18, v19, v20, v21, v22, v23, v24, v25, v26, v27, v28, v29, v30, v31, v32, v33, v34, rest, e⟩ := P.slots35 (args ++ Array.replicate (Twin.f20.ntmps - args.size) undef) (by have : Twin.f20.ntmps = 35 := rfl; simp; omega)
  rw [e] at h
  have h1 := h.downs (dgo hS h (in20 hcode))
  obtain ⟨A, n, c', B, m, d, rfl, rfl, hn, hm, ⟨g, hg⟩, h', hh⟩ := good_rows hS ⟨Twin.f20, Twin.func20⟩ hlow hok h1
  obtain ⟨l, hl⟩ := two_args e
  exact ⟨A, n, c', B, m, d, l, g, h', hl, hn, hm, hg, hh⟩
set_option maxHeartbeats 1600000 in
/-- ████ FUNCTION 17. ████ -/
theorem cross17 (hS : StopOk Twin.funcs Stop) {args : Array Value} {c : Frame} {rest : List Frame} {wp : World} (hwa : WA Try.prog Twin.funcs Stop (Frame.enter Twin.prog 17 args .normal, c :: rest, wp)) (hlow : Low Twin.funcs (c :: rest))
    {c' : Frame} {Z : List Frame} {S : Nat → Prop} {gs : Array Goroutine} {W : World} {sl : Option (Nat × Nat)} {T : Trace} {q : Nat → Nat} (H : Held Try.prog S wp (G (Frame.enter Try.prog 17 args .normal) (c' :: Z)) gs W T q) :
    ∃ N v wp' S' gs' W' sl' T' q', runNT Try.prog N (crowd gs W sl) T = (.next (crowd gs' W' sl'), T') ∧ Downs Try.prog Twin.funcs Stop (Frame.enter Twin.prog 17 args .normal, c :: rest, wp) (c.finish v, rest, wp') ∧ Held Try.prog S' wp' (G (c'.finish v) Z) gs' W' T' q' ∧ Grew S S' W W' := by
  have hok : OkWd wp := fun b o h => H.rel.okay b o h
  obtain ⟨A, n, ca, B, m, cb, l, g, h, rfl, hn, hm, hA, hB⟩ := rows_of hS Twin.func17 Twin.func17 rfl (by decide) hlow hok hwa
  -- alone
  obtain ⟨v, wp', ⟨r, s, rfl, hE⟩, hD⟩ := downs_of_calls hS hwa (Q := fun v w' => ∃ r s, v = .tuple #[r, s] ∧ P.CoreEnd 47 (.slice A n ca) (.slice B m cb) n ((List.range n).map g) ((List.range m).map h) wp r s w') ((P.lone17 l (rowC hA hn) (rowC hB hm)).mono fun e w' ⟨r, s, he, hE⟩ => ⟨_, he, r, s, rfl, hE⟩)
  -- beside leavers
  obtain ⟨code, hcode⟩ : ∃ code, Try.f17.body = some code := ⟨_, rfl⟩
  rw [enter_at' Try.func17 hcode] at H
  obtain ⟨v2, v3, v4, v5, v6, v7, v8, v9, v10, tl, e⟩ := twrap11 (A := A) (B := B) (c := ca) (d := cb) (n := n) (m := m) (N := Try.f17.ntmps) (by have : Try.f17.ntmps = 11 := rfl; omega) l
  rw [e] at H
  obtain ⟨N1, g1, gs1, W1, sl1, T1, q1, r1, ⟨rfl, d1, rfl⟩, H1⟩ := held_walk2 (sl := sl) (wp' := wp) H (fun _ h => h) ⟨0, fun B' _ => ⟨20, w1_17 hcode⟩⟩ (by rintro g' W' ⟨_, d, rfl⟩; exact hrel_at H.rel d)
  obtain ⟨N2, r', s', wp'', S', gs2, W2, sl2, T2, q2, r2, hE', H2, G2⟩ := each46 (sl := sl1) (f := 47) (by simp [IsMake]) hn hm hA hB H1
  obtain ⟨rfl, rfl, rfl⟩ := coreEnd_det hE' hE
  obtain ⟨N3, g3, gs3, W3, sl3, T3, q3, r3, ⟨rfl, d3, rfl⟩, H3⟩ := held_walk2 (sl := sl2) (wp' := wp'') H2 (fun _ h => h) ⟨0, fun B' _ => ⟨20, w2_17⟩⟩ (by rintro g' W' ⟨_, d, rfl⟩; exact hrel_at H2.rel d)
  exact ⟨N1 + (N2 + N3), _, wp'', S', gs3, _, sl3, T3, q3, Go.ConcX.runNT_trans r1 (Go.ConcX.runNT_trans r2 r3), hD, H3, (Grew.trans (Grew.at S W d1) G2).at2 d3⟩
set_option maxHeartbeats 1600000 in
/-- ████ FUNCTION 21. ████ -/
theorem cross21 (hS : StopOk Twin.funcs Stop) {args : Array Value} {c : Frame} {rest : List Frame} {wp : World} (hwa : WA Try.prog Twin.funcs Stop (Frame.enter Twin.prog 21 args .normal, c :: rest, wp)) (hlow : Low Twin.funcs (c :: rest))
    {c' : Frame} {Z : List Frame} {S : Nat → Prop} {gs : Array Goroutine} {W : World} {sl : Option (Nat × Nat)} {T : Trace} {q : Nat → Nat} (H : Held Try.prog S wp (G (Frame.enter Try.prog 21 args .normal) (c' :: Z)) gs W T q) :
    ∃ N v wp' S' gs' W' sl' T' q', runNT Try.prog N (crowd gs W sl) T = (.next (crowd gs' W' sl'), T') ∧ Downs Try.prog Twin.funcs Stop (Frame.enter Twin.prog 21 args .normal, c :: rest, wp) (c.finish v, rest, wp') ∧ Held Try.prog S' wp' (G (c'.finish v) Z) gs' W' T' q' ∧ Grew S S' W W' := by
  have hok : OkWd wp := fun b o h => H.rel.okay b o h
  obtain ⟨A, n, ca, B, m, cb, l, g, h, rfl, hn, hm, hA, hB⟩ := rows_of hS Twin.func21 Twin.func21 rfl (by decide) hlow hok hwa
  -- alone
  obtain ⟨v, wp', ⟨r, s, rfl, hE⟩, hD⟩ := downs_of_calls hS hwa (Q := fun v w' => ∃ r s, v = .tuple #[r, s] ∧ P.CoreEnd 47 (.slice A n ca) (.slice B m cb) n ((List.range n).map g) ((List.range m).map h) wp r s w') ((P.lone21 l (rowC hA hn) (rowC hB hm)).mono fun e w' ⟨r, s, he, hE⟩ => ⟨_, he, r, s, rfl, hE⟩)
  -- beside leavers
  obtain ⟨code, hcode⟩ : ∃ code, Try.f21.body = some code := ⟨_, rfl⟩
  rw [enter_at' Try.func21 hcode] at H
  obtain ⟨v2, v3, v4, v5, v6, v7, v8, v9, v10, tl, e⟩ := twrap11 (A := A) (B := B) (c := ca) (d := cb) (n := n) (m := m) (N := Try.f21.ntmps) (by have : Try.f21.ntmps = 11 := rfl; omega) l
  rw [e] at H
  obtain ⟨N1, g1, gs1, W1, sl1, T1, q1, r1, ⟨rfl, d1, rfl⟩, H1⟩ := held_walk2 (sl := sl) (wp' := wp) H (fun _ h => h) ⟨0, fun B' _ => ⟨20, w1_21 hcode⟩⟩ (by rintro g' W' ⟨_, d, rfl⟩; exact hrel_at H.rel d)
  obtain ⟨N2, r', s', wp'', S', gs2, W2, sl2, T2, q2, r2, hE', H2, G2⟩ := each46 (sl := sl1) (f := 47) (by simp [IsMake]) hn hm hA hB H1
  obtain ⟨rfl, rfl, rfl⟩ := coreEnd_det hE' hE
  obtain ⟨N3, g3, gs3, W3, sl3, T3, q3, r3, ⟨rfl, d3, rfl⟩, H3⟩ := held_walk2 (sl := sl2) (wp' := wp'') H2 (fun _ h => h) ⟨0, fun B' _ => ⟨20, w2_21⟩⟩ (by rintro g' W' ⟨_, d, rfl⟩; exact hrel_at H2.rel d)
  exact ⟨N1 + (N2 + N3), _, wp'', S', gs3, _, sl3, T3, q3, Go.ConcX.runNT_trans r1 (Go.ConcX.runNT_trans r2 r3), hD, H3, (Grew.trans (Grew.at S W d1) G2).at2 d3⟩
set_option maxHeartbeats 1600000 in
/-- ████ FUNCTION 24. ████ -/
theorem cross24 (hS : StopOk Twin.funcs Stop) {args : Array Value} {c : Frame} {rest : List Frame} {wp : World} (hwa : WA Try.prog Twin.funcs Stop (Frame.enter Twin.prog 24 args .normal, c :: rest, wp)) (hlow : Low Twin.funcs (c :: rest))
    {c' : Frame} {Z : List Frame} {S : Nat → Prop} {gs : Array Goroutine} {W : World} {sl : Option (Nat × Nat)} {T : Trace} {q : Nat → Nat} (H : Held Try.prog S wp (G (Frame.enter Try.prog 24 args .normal) (c' :: Z)) gs W T q) :
    ∃ N v wp' S' gs' W' sl' T' q', runNT Try.prog N (crowd gs W sl) T = (.next (crowd gs' W' sl'), T') ∧ Downs Try.prog Twin.funcs Stop (Frame.enter Twin.prog 24 args .normal, c :: rest, wp) (c.finish v, rest, wp') ∧ Held Try.prog S' wp' (G (c'.finish v) Z) gs' W' T' q' ∧ Grew S S' W W' := by
  have hok : OkWd wp := fun b o h => H.rel.okay b o h
  obtain ⟨A, n, ca, B, m, cb, l, g, h, rfl, hn, hm, hA, hB⟩ := rows_of hS Twin.func24 Twin.func24 rfl (by decide) hlow hok hwa
  -- alone
  obtain ⟨v, wp', ⟨r, s, rfl, hE⟩, hD⟩ := downs_of_calls hS hwa (Q := fun v w' => ∃ r s, v = .tuple #[r, s] ∧ P.CoreEnd 49 (.slice A n ca) (.slice B m cb) n ((List.range n).map g) ((List.range m).map h) wp r s w') ((P.lone24 l (rowC hA hn) (rowC hB hm)).mono fun e w' ⟨r, s, he, hE⟩ => ⟨_, he, r, s, rfl, hE⟩)
  -- beside leavers
  obtain ⟨code, hcode⟩ : ∃ code, Try.f24.body = some code := ⟨_, rfl⟩
  rw [enter_at' Try.func24 hcode] at H
  obtain ⟨v2, v3, v4, v5, v6, v7, v8, v9, v10, tl, e⟩ := twrap11 (A := A) (B := B) (c := ca) (d := cb) (n := n) (m := m) (N := Try.f24.ntmps) (by have : Try.f24.ntmps = 11 := rfl; omega) l
  rw [e] at H
  obtain ⟨N1, g1, gs1, W1, sl1, T1, q1, r1, ⟨rfl, d1, rfl⟩, H1⟩ := held_walk2 (sl := sl) (wp' := wp) H (fun _ h => h) ⟨0, fun B' _ => ⟨20, w1_24 hcode⟩⟩ (by rintro g' W' ⟨_, d, rfl⟩; exact hrel_at H.rel d)
  obtain ⟨N2, r', s', wp'', S', gs2, W2, sl2, T2, q2, r2, hE', H2, G2⟩ := each46 (sl := sl1) (f := 49) (by simp [IsMake]) hn hm hA hB H1
  obtain ⟨rfl, rfl, rfl⟩ := coreEnd_det hE' hE
  obtain ⟨N3, g3, gs3, W3, sl3, T3, q3, r3, ⟨rfl, d3, rfl⟩, H3⟩ := held_walk2 (sl := sl2) (wp' := wp'') H2 (fun _ h => h) ⟨0, fun B' _ => ⟨20, w2_24⟩⟩ (by rintro g' W' ⟨_, d, rfl⟩; exact hrel_at H2.rel d)
  exact ⟨N1 + (N2 + N3), _, wp'', S', gs3, _, sl3, T3, q3, Go.ConcX.runNT_trans r1 (Go.ConcX.runNT_trans r2 r3), hD, H3, (Grew.trans (Grew.at S W d1) G2).at2 d3⟩
set_option maxHeartbeats 1600000 in
/-- ████ FUNCTION 20. ████ -/
theorem cross20 (hS : StopOk Twin.funcs Stop) {args : Array Value} {c : Frame} {rest : List Frame} {wp : World} (hwa : WA Try.prog Twin.funcs Stop (Frame.enter Twin.prog 20 args .normal, c :: rest, wp)) (hlow : Low Twin.funcs (c :: rest))
    {c' : Frame} {Z : List Frame} {S : Nat → Prop} {gs : Array Goroutine} {W : World} {sl : Option (Nat × Nat)} {T : Trace} {q : Nat → Nat} (H : Held Try.prog S wp (G (Frame.enter Try.prog 20 args .normal) (c' :: Z)) gs W T q) :
    ∃ N v wp' S' gs' W' sl' T' q', runNT Try.prog N (crowd gs W sl) T = (.next (crowd gs' W' sl'), T') ∧ Downs Try.prog Twin.funcs Stop (Frame.enter Twin.prog 20 args .normal, c :: rest, wp) (c.finish v, rest, wp') ∧ Held Try.prog S' wp' (G (c'.finish v) Z) gs' W' T' q' ∧ Grew S S' W W' := by
  have hok : OkWd wp := fun b o h => H.rel.okay b o h
  obtain ⟨A, n, ca, B, m, cb, l, g, h, rfl, hn, hm, hA, hB⟩ := rows_of20 hS hlow hok hwa
  -- alone
  obtain ⟨v, wp', ⟨r, s, t, rfl, hE⟩, hD⟩ := downs_of_calls hS hwa (Q := fun v w' => ∃ r s t, v = .tuple #[r, s, t] ∧ P.MakeEnd (.slice A n ca) (.slice B m cb) n ((List.range n).map g) ((List.range m).map h) wp r s t w') ((P.lone20 l (rowC hA hn) (rowC hB hm)).mono fun e w' ⟨r, s, t, he, hE⟩ => ⟨_, he, r, s, t, rfl, hE⟩)
  -- beside leavers
  obtain ⟨code, hcode⟩ : ∃ code, Try.f20.body = some code := ⟨_, rfl⟩
  rw [enter_at' Try.func20 hcode] at H
  obtain ⟨v2, v3, v4, v5, v6, v7, v8, v9, v10, v11, v12, v13, v14, v15, v16, v17, v18, v19, v20, v21, v22, v23, v24, v25, v26, tl, e⟩ := twrap27 (A := A) (B := B) (c := ca) (d := cb) (n := n) (m := m) (N := Try.f20.ntmps) (by have : Try.f20.ntmps = 27 := rfl; omega) l
  rw [e] at H
  obtain ⟨N1, g1, gs1, W1, sl1, T1, q1, r1, ⟨rfl, d1, rfl⟩, H1⟩ := held_walk2 (sl := sl) (wp' := wp) H (fun _ h => h) ⟨0, fun B' _ => ⟨20, w1_20 hcode⟩⟩ (by rintro g' W' ⟨_, d, rfl⟩; exact hrel_at H.rel d)
  obtain ⟨N2, r', s', wp1, S1, gs2, W2, sl2, T2, q2, r2, hE1, H2, G2⟩ := each46 (sl := sl1) (f := 49) (by simp [IsMake]) hn hm hA hB H1
  rcases hE with ⟨rfl, rfl, rfl, hE⟩ | ⟨rfl, wm, hE, hEm⟩
  · obtain ⟨rfl, rfl, rfl⟩ := coreEnd_det hE1 hE
    obtain ⟨N3, g3, gs3, W3, sl3, T3, q3, r3, ⟨rfl, d3, rfl⟩, H3⟩ := held_walk2 (sl := sl2) (wp' := wp1) H2 (fun _ h => h) ⟨0, fun B' _ => ⟨40, w2f_20⟩⟩ (by rintro g' W' ⟨_, d, rfl⟩; exact hrel_at H2.rel d)
    exact ⟨N1 + (N2 + N3), _, wp1, S1, gs3, _, sl3, T3, q3, Go.ConcX.runNT_trans r1 (Go.ConcX.runNT_trans r2 r3), hD, H3, (Grew.trans (Grew.at S W d1) G2).at2 d3⟩
  · obtain ⟨rfl, rfl, rfl⟩ := coreEnd_det hE1 hE
    have hbel := P.CoreEnd.below hE
    obtain ⟨N3, g3, gs3, W3, sl3, T3, q3, r3, ⟨rfl, d3, rfl⟩, H3⟩ := held_walk2 (sl := sl2) (wp' := wp1) H2 (fun _ h => h) ⟨0, fun B' _ => ⟨40, w2t_20⟩⟩ (by rintro g' W' ⟨_, d, rfl⟩; exact hrel_at H2.rel d)
    obtain ⟨N4, r'', s'', wp2, S2, gs4, W4, sl4, T4, q4, r4, hE2, H4, G4⟩ := each46 (sl := sl3) (f := 50) (by simp [IsMake]) hn hm (row_below hA hbel) (row_below hB hbel) H3
    obtain ⟨rfl, rfl, rfl⟩ := coreEnd_det hE2 hEm
    obtain ⟨N5, g5, gs5, W5, sl5, T5, q5, r5, ⟨rfl, d5, rfl⟩, H5⟩ := held_walk2 (sl := sl4) (wp' := wp2) H4 (fun _ h => h) ⟨0, fun B' _ => ⟨40, w3_20⟩⟩ (by rintro g' W' ⟨_, d, rfl⟩; exact hrel_at H4.rel d)
    exact ⟨N1 + (N2 + (N3 + (N4 + N5))), _, wp2, S2, gs5, _, sl5, T5, q5, Go.ConcX.runNT_trans r1 (Go.ConcX.runNT_trans r2 (Go.ConcX.runNT_trans r3 (Go.ConcX.runNT_trans r4 r5))), hD, H5, (Grew.trans (Grew.at S W d1) (Grew.trans (G2.at2 d3) G4)).at2 d5⟩
/-- ████ ALL OF THEM. ████ -/
theorem crosses (hS : StopOk Twin.funcs Stop) : Crosses Try.prog Twin.funcs Stop := by
  refine crosses_of (fun fr top w h => ⟨hS.top _ _ _ h, hS.mode _ _ _ h⟩) fun f args c rest wp hf hwa hlow _ c' Z S gs W sl T q H => ?_
  simp only [List.mem_cons, List.not_mem_nil, or_false] at hf
  rcases hf with rfl | rfl | rfl | rfl
  · exact cross17 hS hwa hlow H
  · exact cross20 hS hwa hlow H
  · exact cross21 hS hwa hlow H
  · exact cross24 hS hwa hlow H
end
end Go.Proofs.Ytcdnmnipaaooiaa
end

section
set_option linter.unusedSimpArgs false
set_option linter.unusedVariables false
namespace Go.Proofs.Ytcdnmnipaaooiaa
open Go.Conc Go.RowKit Go.Tw
/-- What must not lie in the lone world is put out of reach. -/
def dim : Obj → Obj
  | .loop _ => .map #[] 0
  | .view a u => .view { a with spot := some (a.spot.getD 0) } u
  | o => o
def dimmed (W : World) : World := { W with heap := W.heap.map dim }
def Dim (W : World) (b : Nat) : Prop := ∃ o, W.heap[b]? = some o ∧ dim o ≠ o
theorem dim_okay (o : Obj) : Okay (dim o) := by cases o <;> trivial
theorem dimmed_at (W : World) (b : Nat) : (dimmed W).heap[b]? = (W.heap[b]?).map dim := by simp [dimmed]
theorem dimmed_rel (W : World) : HRel (Dim W) (dimmed W) W := by
  refine ⟨by simp [dimmed], rfl, rfl, fun b hb => ?_, fun b hb => ?_, fun b o ho => ?_⟩
  · rw [dimmed_at]
    cases h : W.heap[b]? with
    | none => rfl
    | some o =>
      have : dim o = o := Classical.byContradiction fun hn => hb ⟨o, h, hn⟩
      simp [this]
  · obtain ⟨o, ho, hn⟩ := hb
    rw [dimmed_at, ho]
    cases o with
    | loop l => exact .inl ⟨rfl, _, rfl, trivial⟩
    | view a u => exact .inr ⟨u, _, a, rfl, rfl⟩
    | _ => exact absurd rfl hn
  · rw [dimmed_at] at ho
    obtain ⟨o', _, rfl⟩ := Option.map_eq_some_iff.1 ho
    exact dim_okay o'
theorem dimmed_cell (W : World) (a : Addr) : (dimmed W).cell? a = W.cell? a := by
  simp only [World.cell?, dimmed_at]
  cases W.heap[a.block]? with
  | none => rfl
  | some o => cases o <;> rfl
/-- ████ -/
theorem law_run {L : Nat} {fn : Func} {k : Nat} {args : Array Value} {W : World} (hsame : Try.prog.funcs[L]? = Twin.funcs[L]?) (hL : Twin.funcs[L]? = some fn) (hres : fn.results = #[.tmp k]) (hin : Try.prog.inits.idxOf? L = none)
    (hC : ∀ V : World, (∀ a, V.cell? a = W.cell? a) → Calls Twin.prog L args V (fun e w' => e = .returned (.bool true) ∧ Below V.heap.size V w')) :
    ∃ N last o w' t', runNT Try.prog (N + 1) (solo (G (Frame.enter Try.prog L args .normal) []) W) #[] = (.ended o w', t') ∧ runN Try.prog N (solo (G (Frame.enter Try.prog L args .normal) []) W) = .next last ∧ step Try.prog last = .ended o w' ∧
      Go.Conc.Good Try.prog (fun v w' => v = .bool true ∧ Below W.heap.size W w') last o w' t' :=
  law_good pairT hdeadT (crosses (stopL_ok hL)) hsame hL hres hin (dimmed_rel W) fun t => hC { dimmed W with tape := t } fun a => dimmed_cell W a
end Go.Proofs.Ytcdnmnipaaooiaa
end

section
namespace Go.Proofs.YtcdnmnipaaooiaaW.PrintLast
open Go.Proofs.YtcdnmnipaaooiaaW.PrintWords (Aside0)
def needsOf (md : Region.Mode) (o : Oper) : List Nat := (o.after.toList.filter (fun e => Region.binds md e)).map (fun e => e.on)
def clashOf (md : Region.Mode) (ops : Array Oper) (i : Nat) (oi : Oper) : List Nat := (List.range ops.size).filter fun j => !(j == i) && match ops[j]? with
  | some oj => !(oj.after.any (fun e => Region.binds md e && e.on == i) || oi.apart ops oj)
  | none => false
/-- No select in it; for each operation: what must have come up before it, and what may not come up behind it if it is taken first. -/
def rtab (md : Region.Mode) (ops : Array Oper) : Bool × List (List Nat × List Nat) := (Region.noSelect ops, (List.range ops.size).map fun i => match ops[i]? with
  | some o => (needsOf md o, clashOf md ops i o)
  | none => ([], []))
def readyAt (T : List (List Nat × List Nat)) (l : List Bool) (i : Nat) : Bool := !l.getD i true && match T[i]? with
  | some r => r.1.all (fun j => l.getD j false)
  | none => false
def readyT (T : List (List Nat × List Nat)) (l : List Bool) : List Nat := (List.range T.length).filter (readyAt T l)
def freeT (T : List (List Nat × List Nat)) (l : List Bool) (i : Nat) : Bool := match T[i]? with
  | some r => r.2.all (fun j => l.getD j true)
  | none => false
def closedT (T : List (List Nat × List Nat)) (l : List Bool) : Bool := (List.range T.length).all fun j => !l.getD j false || match T[j]? with
  | some r => r.1.all (fun k => l.getD k false)
  | none => true
def reachT (T : List (List Nat × List Nat)) (i : Nat) : Nat → Nat → Bool
  | 0, _ => false
  | fuel + 1, d => match T[d]? with
    | some r => r.1.any fun j => j == i || reachT T i fuel j
    | none => false
def lastT (T : List (List Nat × List Nat)) (l : List Bool) (ds : List Nat) (i : Nat) : Bool := ds.all fun d => l.getD d true || reachT T i T.length d
section
variable {md : Region.Mode} {ops : Array Oper} {T : Bool × List (List Nat × List Nat)} {l l' li lj lk : Array Bool} {ds : List Nat} {i j k : Nat}
theorem gd (l : Array Bool) (j : Nat) (b : Bool) : l.getD j b = l.toList.getD j b := by simp [Array.getD_eq_getD_getElem?, List.getD_eq_getElem?_getD]
theorem needs_all (o : Oper) (p : Nat → Bool) : o.after.all (fun e => !Region.binds md e || p e.on) = (needsOf md o).all p := by
  unfold needsOf
  rw [← Array.all_toList]
  induction o.after.toList with
  | nil => rfl
  | cons e r ih =>
    rw [List.all_cons, ih, List.filter_cons]
    cases h : Region.binds md e <;> simp
theorem needs_any (o : Oper) (p : Nat → Bool) : o.after.any (fun e => Region.binds md e && p e.on) = (needsOf md o).any p := by
  unfold needsOf
  rw [← Array.any_toList]
  induction o.after.toList with
  | nil => rfl
  | cons e r ih =>
    rw [List.any_cons, ih, List.filter_cons]
    cases h : Region.binds md e <;> simp
theorem rtab_length : (rtab md ops).2.length = ops.size := by simp [rtab]
theorem rtab_some {o : Oper} (h : ops[i]? = some o) : (rtab md ops).2[i]? = some (needsOf md o, clashOf md ops i o) := by
  have hi := (Array.getElem?_eq_some_iff.1 h).1
  unfold rtab
  rw [List.getElem?_map, List.getElem?_range hi, Option.map_some, h]
theorem rtab_none (h : ops[i]? = none) : (rtab md ops).2[i]? = none := by
  have hi : ops.size ≤ i := Array.getElem?_eq_none_iff.1 h
  exact List.getElem?_eq_none (by rw [rtab_length]; exact hi)
theorem readyAt_eq : readyAt (rtab md ops).2 l.toList i = (!l.getD i true && ((ops[i]?).map (·.after.all fun e => !Region.binds md e || l.getD e.on false)).getD false) := by
  unfold readyAt
  rw [gd]
  cases h : ops[i]? with
  | none => rw [rtab_none h]; rfl
  | some o =>
    rw [rtab_some h]
    simp only [Option.map_some, Option.getD_some]
    rw [← needs_all]
    simp only [gd]
theorem ready_eq : Region.ready md ops l = readyT (rtab md ops).2 l.toList := by
  unfold Region.ready readyT
  rw [rtab_length]
  refine List.filter_congr (fun i _ => ?_)
  rw [readyAt_eq]
theorem free_eq : Region.free md ops l i = freeT (rtab md ops).2 l.toList i := by
  unfold Region.free freeT
  cases h : ops[i]? with
  | none => rw [rtab_none h]
  | some oi =>
    rw [rtab_some h]
    simp only [clashOf]
    rw [List.all_filter]
    congr 1
    funext j
    rw [gd]
    cases hj : ops[j]? with
    | none => cases (j == i) <;> cases (l.toList.getD j true) <;> simp
    | some oj =>
      cases (j == i) <;> cases (l.toList.getD j true) <;> cases (oj.after.any (fun e => Region.binds md e && e.on == i) || oi.apart ops oj) <;> simp_all
theorem closed_eq : Region.closedB md ops l = closedT (rtab md ops).2 l.toList := by
  unfold Region.closedB closedT
  rw [rtab_length]
  congr 1
  funext j
  rw [gd]
  cases h : ops[j]? with
  | none => rw [rtab_none h]
  | some o =>
    rw [rtab_some h]
    simp only
    rw [← needs_all]
    simp only [gd]
theorem reach_eq : ∀ (fuel d : Nat), Region.reachB md ops i fuel d = reachT (rtab md ops).2 i fuel d
  | 0, _ => rfl
  | fuel + 1, d => by
    unfold Region.reachB reachT
    cases h : ops[d]? with
    | none => rw [rtab_none h]
    | some o =>
      rw [rtab_some h]
      simp only
      rw [← needs_any]
      congr 1
      funext e
      rw [reach_eq fuel]
theorem last_eq : Region.lastB md ops l ds i = lastT (rtab md ops).2 l.toList ds i := by
  unfold Region.lastB lastT
  rw [rtab_length]
  congr 1
  funext d
  rw [gd, reach_eq]
theorem readyAt_mem (h : readyAt T.2 l.toList i = true) (hT : rtab md ops = T) : (Region.ready md ops l).contains i = true := by
  subst hT
  rw [ready_eq]
  unfold readyT
  rw [List.contains_iff_mem, List.mem_filter, List.mem_range]
  refine ⟨?_, h⟩
  unfold readyAt at h
  rw [Bool.and_eq_true] at h
  cases hq : (rtab md ops).2[i]? with
  | none => rw [hq] at h; simp at h
  | some r => exact (List.getElem?_eq_some_iff.1 hq).1
theorem set_of (h : (l.toList.set i true == l'.toList) = true) : (l.setIfInBounds i true == l') = true := by
  rw [beq_iff_eq] at h ⊢
  apply Array.ext'
  rw [Array.toList_setIfInBounds]
  exact h
def anyT (T : Bool × List (List Nat × List Nat)) (l l' : List Bool) (i : Nat) : Bool := T.1 && freeT T.2 l i && readyAt T.2 l i && (l.set i true == l')
/-- pure_'s condition out of the table. -/
theorem any_of (hT : rtab md ops = T) (h : anyT T l.toList l'.toList i = true) : anyB md ops l l' i = true := by
  simp only [anyT, Bool.and_eq_true] at h
  obtain ⟨⟨⟨h1, h2⟩, h3⟩, h4⟩ := h
  have h5 := readyAt_mem h3 hT
  have h6 := set_of h4
  subst hT
  simp only [anyB, Bool.and_eq_true]
  exact ⟨⟨⟨h1, by rw [free_eq]; exact h2⟩, h5⟩, h6⟩
def takeT (T : Bool × List (List Nat × List Nat)) (ds : List Nat) (l l' : List Bool) (i : Nat) : Bool := T.1 && freeT T.2 l i && readyAt T.2 l i && closedT T.2 l && lastT T.2 l ds i && (l.set i true == l')
/-- take_'s. -/
theorem take_of (hT : rtab md ops = T) (h : takeT T ds l.toList l'.toList i = true) : takeB md ops ds l l' i = true := by
  simp only [takeT, Bool.and_eq_true] at h
  obtain ⟨⟨⟨⟨⟨h1, h2⟩, h3⟩, h4⟩, h5⟩, h6⟩ := h
  have h7 := readyAt_mem h3 hT
  have h8 := set_of h6
  subst hT
  simp only [takeB, Bool.and_eq_true]
  exact ⟨⟨⟨⟨⟨h1, by rw [free_eq]; exact h2⟩, h7⟩, by rw [closed_eq]; exact h4⟩, by rw [last_eq]; exact h5⟩, h8⟩
/-- one_'s and last_'s. -/
theorem one_of (hT : rtab md ops = T) (h : (readyT T.2 l.toList == [i] && l.toList.set i true == l'.toList) = true) : readyB md ops l l' i = true := by
  simp only [Bool.and_eq_true] at h
  obtain ⟨h1, h2⟩ := h
  subst hT
  simp only [readyB, Bool.and_eq_true]
  exact ⟨by rw [ready_eq]; exact h1, set_of h2⟩
/-- done_'s. -/
theorem done_of (hT : rtab md ops = T) (h : (readyT T.2 l.toList == []) = true) : (Region.ready md ops l == []) = true := by
  subst hT
  rw [ready_eq]
  exact h
/-- What d waits for, as_ bits: told in the table (B), checked in one pass: each bit is a need of d, or a bit of an earlier need's. -/
def upM (B : List Nat) (d : Nat) : List Nat → Nat
  | [] => 0
  | n :: r => (2 ^ n ||| (if n < d then B.getD n 0 else 0)) ||| upM B d r
def waitsOk (T : List (List Nat × List Nat)) (B : List Nat) : Bool := (List.range T.length).all fun d => match T[d]? with
  | some r => (B.getD d 0 ||| upM B d r.1) == upM B d r.1
  | none => false
theorem upM_bit {B : List Nat} {d i : Nat} : ∀ {ns : List Nat}, (upM B d ns).testBit i = true → ∃ n ∈ ns, n = i ∨ (n < d ∧ (B.getD n 0).testBit i = true)
  | [], h => by simp [upM] at h
  | n :: r, h => by
    unfold upM at h
    rw [Nat.testBit_or, Nat.testBit_or, Bool.or_eq_true, Bool.or_eq_true] at h
    rcases h with (h | h) | h
    · rw [Nat.testBit_two_pow] at h
      exact ⟨n, List.mem_cons_self, .inl (by simpa using h)⟩
    · by_cases hn : n < d
      · rw [if_pos hn] at h
        exact ⟨n, List.mem_cons_self, .inr ⟨hn, h⟩⟩
      · rw [if_neg hn] at h
        simp at h
    · obtain ⟨m, hm, h2⟩ := upM_bit h
      exact ⟨m, List.mem_cons_of_mem _ hm, h2⟩
theorem reach_bit {T : List (List Nat × List Nat)} {B : List Nat} (hB : waitsOk T B = true) : ∀ (fuel d : Nat), d < fuel → d < T.length → (B.getD d 0).testBit i = true → reachT T i fuel d = true
  | 0, d, h, _, _ => by omega
  | fuel + 1, d, h, hd, hb => by
    have h1 := List.all_eq_true.1 hB d (List.mem_range.2 hd)
    cases hr : T[d]? with
    | none => rw [hr] at h1; simp at h1
    | some r =>
      rw [hr] at h1
      simp only [beq_iff_eq] at h1
      have h2 : (upM B d r.1).testBit i = true := by rw [← h1, Nat.testBit_or, hb, Bool.true_or]
      obtain ⟨n, hn, h3⟩ := upM_bit h2
      unfold reachT
      rw [hr]
      simp only
      rw [List.any_eq_true]
      refine ⟨n, hn, ?_⟩
      rcases h3 with rfl | ⟨h4, h5⟩
      · simp
      · rw [reach_bit hB fuel n (by omega) (by omega) h5, Bool.or_true]
def lastW (T : List (List Nat × List Nat)) (B : List Nat) (l : List Bool) (ds : List Nat) (i : Nat) : Bool := ds.all fun d => l.getD d true || (decide (d < T.length) && (B.getD d 0).testBit i)
def takeW (T : Bool × List (List Nat × List Nat)) (B : List Nat) (ds : List Nat) (l l' : List Bool) (i : Nat) : Bool := T.1 && freeT T.2 l i && readyAt T.2 l i && closedT T.2 l && lastW T.2 B l ds i && (l.set i true == l')
/-- take_'s, by the bits. -/
theorem take_ofW {B : List Nat} (hT : rtab md ops = T) (hB : waitsOk T.2 B = true) (h : takeW T B ds l.toList l'.toList i = true) : takeB md ops ds l l' i = true := by
  refine take_of hT ?_
  simp only [takeW, takeT, Bool.and_eq_true] at h ⊢
  obtain ⟨⟨⟨⟨⟨h1, h2⟩, h3⟩, h4⟩, h5⟩, h6⟩ := h
  refine ⟨⟨⟨⟨⟨h1, h2⟩, h3⟩, h4⟩, ?_⟩, h6⟩
  unfold lastW at h5
  unfold lastT
  rw [List.all_eq_true] at h5 ⊢
  intro d hd
  have h7 := h5 d hd
  rw [Bool.or_eq_true, Bool.and_eq_true, decide_eq_true_eq] at h7
  rcases h7 with h7 | ⟨h8, h9⟩
  · rw [h7, Bool.true_or]
  · rw [reach_bit hB _ d h8 h8 h9, Bool.or_true]
theorem with_tabW {P : Program} {Q : Exit → Act → World → Prop} {S : World → Prop} {n : Nat} {a : Act} {w : World} {B : List Nat} (hT : rtab md ops = T) (hB : waitsOk T.2 B = true) (h : Aside0 (rtab md ops = T) → Aside0 (waitsOk T.2 B = true) → wpAnyLast P md ops Q S ds n l a w) : wpAnyLast P md ops Q S ds n l a w := h ⟨hT⟩ ⟨hB⟩
end
/-- The operations of a region, by its number. -/
def opsIn : Code → Nat → Option (Array Oper)
  | .region id ops _, k => if id == k then some ops else none
  | .seq a b, k => match opsIn a k with
    | some o => some o
    | none => opsIn b k
  | .cond _ a b, k => match opsIn a k with
    | some o => some o
    | none => opsIn b k
  | .block _ c, k => opsIn c k
  | .loop c, k => opsIn c k
  | .scope c, k => opsIn c k
  | .rangeFunc _ _ a b, k => match opsIn a k with
    | some o => some o
    | none => opsIn b k
  | _, _ => none
def opsOf (f : Func) (k : Nat) : Array Oper := ((f.body.bind fun c => opsIn c k)).getD #[]
end Go.Proofs.YtcdnmnipaaooiaaW.PrintLast
end

section
namespace Go.Proofs.YtcdnmnipaaooiaaW.PrintWords
open Go.RowKit
namespace Kd
/-- An element with its index: its blocks are those that f gives to it. -/
def tag {α : Type} (f : Nat → Nat) (d : Kd α) : Kd (α × Nat) where
  sz := d.sz
  E := d.E
  K := fun w x cs => d.K w x.1 cs
  M := fun w base ok x cs => d.M w base (fun k => ok k ∧ f k = x.2) x.1 cs
  K_len := fun h => d.K_len h
  K_one := fun h => d.K_one h
  K_below := fun hb h => d.K_below hb h
  K_of_M := fun h => d.K_of_M h
  M_mono := fun hok h => d.M_mono (fun k hk => ⟨hok k hk.1, hk.2⟩) h
  M_bound := fun h => d.M_mono (fun _ hk => ⟨⟨hk.1.1, hk.2⟩, hk.1.2⟩) (d.M_bound h)
  M_move := fun hm h => d.M_move (fun k hk => hm k hk.1) h
  M_lower := fun hb h => d.M_lower hb h
/-- Nothing but its cells: no block is said of it. -/
def bare {α : Type} (d : Kd α) : Kd α where
  sz := d.sz
  E := d.E
  K := d.K
  M := fun w base _ x cs => d.M w base (fun _ => False) x cs
  K_len := fun h => d.K_len h
  K_one := fun h => d.K_one h
  K_below := fun hb h => d.K_below hb h
  K_of_M := fun h => d.K_of_M h
  M_mono := fun _ h => h
  M_bound := fun h => h
  M_move := fun _ h => d.M_move (fun _ hk => hk.elim) h
  M_lower := fun hb h => d.M_lower hb h
/-- The cells themselves. -/
def raw (sz : Nat) : Kd (List Value) where
  sz := sz
  E := []
  K := fun _ x cs => cs = x ∧ cs.length = sz ∧ ∀ u ∈ cs, u.oneCell' = true
  M := fun _ _ _ x cs => cs = x ∧ cs.length = sz ∧ ∀ u ∈ cs, u.oneCell' = true
  K_len := fun h => h.2.1
  K_one := fun h => h.2.2
  K_below := fun _ h => h
  K_of_M := fun h => h
  M_mono := fun _ h => h
  M_bound := fun h => h
  M_move := fun _ h => h
  M_lower := fun _ h => h
/-- A row of elements (type e) of the call's own, no two of which lead to one block. -/
def S {α : Type} (d : Kd α) (e : Nat) (w : World) (base : Nat) (ok : Nat → Prop) (v : Value) (xs : List α) : Prop := ∃ f, (tag f d).R e w base ok v xs.zipIdx
section
variable {α β : Type} {d : Kd α} {d' : Kd β} {e e' : Nat} {w w1 W : World} {base b : Nat} {ok ok' okv oku : Nat → Prop} {u v : Value} {xs : List α} {ys : List β}
/-- A row whose elements lead to nothing: its blocks are its own one. -/
theorem R_tight (hE : d.E = []) (h : d.R e w base ok v xs) : d.R e w base (fun k => some k = v.ownBlock) v xs := by
  obtain ⟨h0, inner, ho, hr⟩ := h
  refine ⟨fun k hk => hk.symm, inner, ho, hr.imp_ (fun p c hp => d.M_mono (fun k hk => ?_) (d.M_bound hp))⟩
  obtain ⟨_, _, _, q, hq, _⟩ := hk
  rw [hE] at hq
  cases hq
theorem S_nil (d : Kd α) (e : Nat) (w : World) (base : Nat) (ok : Nat → Prop) : S d e w base ok (.slice none 0 0) [] := ⟨fun _ => 0, R_nil _ _ _ _ _⟩
end
section
variable {α β : Type} {d : Kd α} {d' : Kd β} {e e' g : Nat} {w w1 W : World} {base b : Nat} {ok ok' okv oku : Nat → Prop} {u v : Value} {xs : List α} {ys : List β}
end
section
variable {P : Program} {ops : Array Oper} {rest : List Oper} {o : Oper} {a : Act} {Q : Exit → Act → World → Prop} {Kc : Act → World → Prop} {α : Type}
end
/-- Element i is these cells; the others are d's. -/
def gap {α : Type} (f : Nat → Nat) (d : Kd α) (i : Nat) (c : List Value) : Kd (α × Nat) where
  sz := d.sz
  E := d.E
  K := fun w x cs => (x.2 = i → cs = c ∧ cs.length = d.sz ∧ ∀ u ∈ cs, u.oneCell' = true) ∧ (x.2 ≠ i → d.K w x.1 cs)
  M := fun w base ok x cs => (x.2 = i → cs = c ∧ cs.length = d.sz ∧ ∀ u ∈ cs, u.oneCell' = true) ∧ (x.2 ≠ i → d.M w base (fun k => ok k ∧ f k = x.2) x.1 cs)
  K_len := fun {w x cs} h => by
    by_cases hx : x.2 = i
    · exact (h.1 hx).2.1
    · exact d.K_len (h.2 hx)
  K_one := fun {w x cs} h => by
    by_cases hx : x.2 = i
    · exact (h.1 hx).2.2
    · exact d.K_one (h.2 hx)
  K_below := fun hb h => ⟨h.1, fun hx => d.K_below hb (h.2 hx)⟩
  K_of_M := fun h => ⟨h.1, fun hx => d.K_of_M (h.2 hx)⟩
  M_mono := fun hok h => ⟨h.1, fun hx => d.M_mono (fun k hk => ⟨hok k hk.1, hk.2⟩) (h.2 hx)⟩
  M_bound := fun h => ⟨h.1, fun hx => d.M_mono (fun _ hk => ⟨⟨hk.1.1, hk.2⟩, hk.1.2⟩) (d.M_bound (h.2 hx))⟩
  M_move := fun hm h => ⟨h.1, fun hx => d.M_move (fun k hk => hm k hk.1) (h.2 hx)⟩
  M_lower := fun hb h => ⟨h.1, fun hx => d.M_lower hb (h.2 hx)⟩
def H {α : Type} (d : Kd α) (e : Nat) (w : World) (base : Nat) (ok : Nat → Prop) (v : Value) (xs : List α) (i : Int) (oki : Nat → Prop) (c : List Value) : Prop :=
  (∀ k, oki k → ok k) ∧ ∃ f, (gap f d i.toNat c).R e w base (fun k => ok k ∧ ¬ oki k) v xs.zipIdx
section
variable {α β : Type} {d : Kd α} {e e' g n cap : Nat} {w w1 W : World} {base : Nat} {ok ok' oki okp : Nat → Prop} {u v : Value} {xs : List α} {i : Int} {c : List Value}
end
section
variable {P : Program} {ops : Array Oper} {rest : List Oper} {o : Oper} {a : Act} {Q : Exit → Act → World → Prop} {α : Type}
end
end Kd
end Go.Proofs.YtcdnmnipaaooiaaW.PrintWords
end

section
namespace Go.Proofs.YtcdnmnipaaooiaaW.PrintWords
open Go.RowKit
namespace Kd
theorem reps_one {α : Type} {R : α → List Value → Prop} {size : Nat} {ps : List α} {cs : List Value} (h : Reps R size ps cs) (hs0 : 0 < size) (hR : ∀ p c, R p c → ∀ u ∈ c, u.oneCell' = true) : ∀ u ∈ cs, u.oneCell' = true := by
  intro u hu
  obtain ⟨q, hq, rfl⟩ := List.mem_iff_getElem.1 hu
  have hql : q / size < ps.length := by
    rw [Nat.div_lt_iff_lt_mul hs0, ← h.1]
    exact hq
  refine hR _ _ (h.2 (q / size) _ (List.getElem?_eq_getElem hql)) _ ?_
  rw [List.mem_iff_getElem?]
  refine ⟨q % size, ?_⟩
  rw [List.getElem?_take, if_pos (Nat.mod_lt _ hs0), List.getElem?_drop, Nat.mul_comm, Nat.div_add_mod, List.getElem?_eq_getElem hq]
/-- An array of n elements of kind d. -/
def arr {α : Type} (n : Nat) (d : Kd α) (hs : 0 < d.sz) : Kd (List α) where
  sz := n * d.sz
  E := d.E
  K := fun w xs cs => xs.length = n ∧ Reps (d.K w) d.sz xs cs
  M := fun w base ok xs cs => xs.length = n ∧ Reps (d.M w base ok) d.sz xs cs
  K_len := fun h => by rw [← h.1]; exact h.2.1
  K_one := fun h => reps_one h.2 hs (fun _ _ hk => d.K_one hk)
  K_below := fun hb h => ⟨h.1, h.2.imp_ (fun _ _ hk => d.K_below hb hk)⟩
  K_of_M := fun h => ⟨h.1, h.2.imp_ (fun _ _ hk => d.K_of_M hk)⟩
  M_mono := fun hok h => ⟨h.1, h.2.imp_ (fun _ _ hk => d.M_mono hok hk)⟩
  M_bound := fun h => ⟨h.1, h.2.imp_ (fun _ _ hk => d.M_bound hk)⟩
  M_move := fun hm h => ⟨h.1, h.2.imp_ (fun _ _ hk => d.M_move hm hk)⟩
  M_lower := fun hb h => ⟨h.1, h.2.imp_ (fun _ _ hk => d.M_lower hb hk)⟩
section
variable {α : Type} {n : Nat} {d : Kd α} {hs : 0 < d.sz} {w : World} {base : Nat} {ok : Nat → Prop} {xs : List α} {cs : List Value}
end
section
variable {α : Type} {n : Nat} {enc : α → Value} {h1 : ∀ x, (enc x).oneCell' = true} {hs : 0 < (scalar enc h1).sz} {w : World} {base : Nat} {ok : Nat → Prop} {xs : List α} {cs : List Value}
end
end Kd
end Go.Proofs.YtcdnmnipaaooiaaW.PrintWords
end

section
namespace Go.Proofs.YtcdnmnipaaooiaaW.PrintWords
open Go.RowKit
namespace Kd
/-- What a kind reads lies in the blocks: nothing else of the world is looked at. -/
structure Heap {α : Type} (d : Kd α) : Prop where
  K : ∀ {w w1 : World} {x : α} {cs : List Value}, (∀ k, k < w.heap.size → w1.heap[k]? = w.heap[k]?) → d.K w x cs → d.K w1 x cs
theorem cell_heap {w w1 : World} (hb : ∀ k, k < w.heap.size → w1.heap[k]? = w.heap[k]?) {a : Addr} {v : Value} (h : w.cell? a = some v) : w1.cell? a = some v := by
  have := hb a.block (World.block_lt_of_cell? w a h)
  simpa [World.cell?, this] using h
theorem Heap.C {α : Type} {d : Kd α} (hd : Heap d) {w w1 : World} {A : Option Addr} {n : Nat} {xs : List α} (hb : ∀ k, k < w.heap.size → w1.heap[k]? = w.heap[k]?) (h : d.C w A n xs) : d.C w1 A n xs :=
  ⟨h.1, h.2.1, fun hn => by
    obtain ⟨ad, e, hc⟩ := h.2.2 hn
    refine ⟨ad, e, fun j p hj => ?_⟩
    obtain ⟨c, hs, hr, hcell⟩ := hc j p hj
    exact ⟨c, hs, hd.K hb hr, fun i u hu => cell_heap hb (hcell i u hu)⟩⟩
section
variable {α : Type} {d : Kd α} {e base g n c : Nat} {ok : Nat → Prop} {w w0 W : World} {A : Option Addr} {xs : List α}
end
end Kd
end Go.Proofs.YtcdnmnipaaooiaaW.PrintWords
end

section
namespace Go.Proofs.YtcdnmnipaaooiaaW.PrintWords
open Go.RowKit
def Kept (w W : World) (S : Nat → Prop) : Prop := w.heap.size ≤ W.heap.size ∧ ∀ i, i < w.heap.size → ¬ S i → W.heap[i]? = w.heap[i]?
section
variable {w W W2 : World} {S S2 S' : Nat → Prop}
theorem Kept.refl (w : World) (S : Nat → Prop) : Kept w w S := ⟨Nat.le_refl _, fun _ _ _ => rfl⟩
theorem Kept.of_below (h : Below w.heap.size w W) (S : Nat → Prop) : Kept w W S := ⟨h.size, fun i hi _ => h.block i hi⟩
theorem Kept.mono (h : Kept w W S) (hs : ∀ k, S k → S' k) : Kept w W S' := ⟨h.1, fun i hi hn => h.2 i hi (fun hk => hn (hs i hk))⟩
theorem Kept.then_ (h : Kept w W S) (k : Kept W W2 S2) (hs : ∀ k, S2 k → S k ∨ w.heap.size ≤ k) : Kept w W2 S :=
  ⟨Nat.le_trans h.1 k.1, fun i hi hn => (k.2 i (Nat.lt_of_lt_of_le hi h.1) (fun h2 => (hs i h2).elim hn (fun h3 => by omega))).trans (h.2 i hi hn)⟩
theorem Kept.of_grown {row : Option Nat} (hg : W.grownBy W2 row) (h : Kept w W S) (hr : ∀ k, row = some k → S k ∨ w.heap.size ≤ k) : Kept w W2 S :=
  h.then_ (S2 := fun k => row = some k) ⟨hg.size, fun i hi hn => hg.block i hi (fun he => hn he.symm)⟩ hr
theorem Kept.below (h : Kept w W S) (hb : Below W.heap.size W W2) : Kept w W2 S := h.then_ (Kept.of_below hb (fun _ => False)) (fun _ hk => hk.elim)
theorem Kept.alloc (h : Kept w W S) (o : Obj) : Kept w (W.alloc o) S := h.below (below_alloc (Below.refl _ _) o)
theorem Kept.drew (h : Kept w W S) : Kept w W.drew S := h
theorem Kept.drewN (h : Kept w W S) (m : Nat) : Kept w (W.drewN m) S := h
theorem Kept.setCell (h : Kept w W S) {p : Addr} (hp : S p.block ∨ w.heap.size ≤ p.block) (u : Value) : Kept w (W.setCell p u) S :=
  h.then_ (S2 := fun k => k = p.block) ⟨by simp [World.setCell], fun i _ hn => Below.heap_setCell W p u i hn⟩ (fun k hk => by rw [hk]; exact hp)
/-- Beside a state: what was written is new since. -/
theorem Kept.keep {g : Nat} (h : KeepBut w W g none) (k : Kept W W2 S2) (hs : ∀ k, S2 k → w.heap.size ≤ k) : KeepBut w W2 g none :=
  ⟨Nat.le_trans h.1 k.1, fun i hi hg hr => (k.2 i (Nat.lt_of_lt_of_le hi h.1) (fun h2 => by have := hs i h2; omega)).trans (h.2 i hi hg hr)⟩
theorem blk_kept {g : Nat} {o : Obj} (hb : W.heap[g]? = some o) (hk : Kept W W2 S) (hne : ¬ S g) : W2.heap[g]? = some o := (hk.2 g (blk_lt hb) hne).trans hb
end
namespace Kd
section
variable {α : Type} {d : Kd α} {e base n c : Nat} {ok oki S S2 : Nat → Prop} {w w0 W W1 W2 : World} {v : Value} {A : Option Addr} {xs : List α} {i : Int} {cs : List Value}
theorem R_kept (h : d.R e W base ok v xs) (hk : Kept W W2 S) (hne : ∀ k, ok k → ¬ S k) : d.R e W2 base ok v xs := R_step h (fun k ho hlt => hk.2 k hlt (hne k ho))
end
end Kd
end Go.Proofs.YtcdnmnipaaooiaaW.PrintWords
end

section
namespace Go.Proofs.YtcdnmnipaaooiaaW.PrintWords
open Go.RowKit
/-- P holds in W and in every world that has W's blocks of ok. -/
def Foot (P : World → Prop) (W : World) (ok : Nat → Prop) : Prop := ∀ W' : World, (∀ k, ok k → k < W.heap.size → W'.heap[k]? = W.heap[k]?) → P W'
theorem heap_lt {W W1 : World} {k : Nat} (h : W1.heap[k]? = W.heap[k]?) (hlt : k < W.heap.size) : k < W1.heap.size := by
  rw [Array.getElem?_eq_getElem hlt] at h
  exact (Array.getElem?_eq_some_iff.1 h).1
namespace Foot
variable {P Q : World → Prop} {W W1 : World} {ok ok' : Nat → Prop}
theorem mono (h : Foot P W ok) (hok : ∀ k, ok k → ok' k) : Foot P W ok' := fun W' hW => h W' (fun k hk hlt => hW k (hok k hk) hlt)
theorem bound (h : Foot P W ok) : Foot P W (fun k => ok k ∧ k < W.heap.size) := fun W' hW => h W' (fun k hk hlt => hW k ⟨hk, hlt⟩ hlt)
theorem step (h : Foot P W ok) (hm : ∀ k, ok k → k < W.heap.size → W1.heap[k]? = W.heap[k]?) : Foot P W1 ok := fun W' hW => h W' (fun k hk hlt => (hW k hk (heap_lt (hm k hk hlt) hlt)).trans (hm k hk hlt))
theorem imp (h : Foot P W ok) (hi : ∀ W', P W' → Q W') : Foot Q W ok := fun W' hW => hi W' (h W' hW)
/-- Moved, and still elder than what is new since W. -/
theorem old (h : Foot P W ok) (hb : Below W.heap.size W W1) : Foot P W1 (fun k => ok k ∧ k < W.heap.size) := (h.bound).step (fun k _ hlt => hb.block k hlt)
end Foot
namespace Kd
/-- A row that is only read: what it leads to lies in ok. -/
def F {α : Type} (d : Kd α) (W : World) (ok : Nat → Prop) (A : Option Addr) (n : Nat) (xs : List α) : Prop := Foot (fun W => d.C W A n xs) W ok
/-- An element's cells: what they lead to lies in ok. -/
def FK {α : Type} (d : Kd α) (W : World) (ok : Nat → Prop) (x : α) (c : List Value) : Prop := Foot (fun W => d.K W x c) W ok
section
variable {α β : Type} {d : Kd α} {e base n n' cc g N : Nat} {ok ok' okp S : Nat → Prop} {w w0 w1 W W1 : World} {A A' : Option Addr} {u v v1 : Value} {xs : List α} {xs' : List β} {d' : Kd β} {x : α} {c : List Value}
theorem F_nil (d : Kd α) (W : World) (ok : Nat → Prop) : F d W ok none ([] : List α).length [] := fun W' _ => C_nil d W'
theorem FK_of_M (h : d.M W base ok x c) : FK d W ok x c := fun _ hW => d.K_of_M (M_step h hW)
end
end Kd
end Go.Proofs.YtcdnmnipaaooiaaW.PrintWords
end

section
namespace Go.Proofs.YtcdnmnipaaooiaaW.PrintWords
open Go.RowKit
namespace Kd
/-- The cells one behind the other, element by element. -/
def chunks (sz : Nat) (n : Nat) (inner : List Value) : List (List Value) := (List.range n).map fun j => (inner.drop (j * sz)).take sz
theorem chunks_length (sz n : Nat) (inner : List Value) : (chunks sz n inner).length = n := by simp [chunks]
theorem chunks_at {sz n : Nat} {inner : List Value} {j : Nat} (hj : j < n) : (chunks sz n inner)[j]? = some ((inner.drop (j * sz)).take sz) := by simp [chunks, hj]
theorem chunks_get {sz n : Nat} {inner : List Value} {j : Nat} {c : List Value} (h : (chunks sz n inner)[j]? = some c) : c = (inner.drop (j * sz)).take sz := by
  have hj : j < n := by have := (List.getElem?_eq_some_iff.1 h).1; rwa [chunks_length] at this
  rw [chunks_at hj] at h
  injection h with h
  exact h.symm
theorem reps_raw {α : Type} {Rr : α → List Value → Prop} {sz : Nat} {xs : List α} {inner : List Value} (h : Reps Rr sz xs inner) (hR : ∀ x c, Rr x c → c.length = sz ∧ ∀ u ∈ c, u.oneCell' = true) : Reps (fun x cs => cs = x ∧ cs.length = sz ∧ ∀ u ∈ cs, u.oneCell' = true) sz (chunks sz xs.length inner) inner := by
  refine ⟨by rw [chunks_length]; exact h.1, fun j p hj => ?_⟩
  have hjl : j < xs.length := by have := (List.getElem?_eq_some_iff.1 hj).1; rwa [chunks_length] at this
  have hp := chunks_get hj
  exact ⟨hp.symm, hR _ _ (h.2 j _ (List.getElem?_eq_getElem hjl))⟩
section
variable {α : Type} {d : Kd α} {e base n cc g : Nat} {ok ok' okp S : Nat → Prop} {w w1 W W1 : World} {A : Option Addr} {u v v1 : Value} {xs : List α} {x : α} {c : List Value}
/-- A row of elements (type e) of the call's own; what the elements lead to is only read, and is not this row. -/
def N {α : Type} (d : Kd α) (e : Nat) (w : World) (base : Nat) (ok : Nat → Prop) (v : Value) (xs : List α) : Prop :=
  (∀ k, v.ownBlock = some k → ok k) ∧ ∃ rows : List (List Value), rows.length = xs.length ∧ (raw d.sz).R e w base (fun k => some k = v.ownBlock) v rows ∧ ∀ (j : Nat) (x : α) (c : List Value), xs[j]? = some x → rows[j]? = some c → FK d w (fun k => ok k ∧ some k ≠ v.ownBlock) x c
theorem R_N (h : d.R e w base ok v xs) : N d e w base ok v xs := by
  obtain ⟨h0, inner, ho, hr⟩ := h
  refine ⟨h0, chunks d.sz xs.length inner, chunks_length _ _ _, ⟨fun k hk => hk.symm, inner, by rw [chunks_length]; exact ho, reps_raw hr (fun x c hp => ⟨d.K_len (d.K_of_M hp), d.K_one (d.K_of_M hp)⟩)⟩, fun j x c hx hc => ?_⟩
  rw [chunks_get hc]
  exact FK_of_M (hr.2 j x hx)
theorem N_nil (d : Kd α) (e : Nat) (w : World) (base : Nat) (ok : Nat → Prop) : N d e w base ok (.slice none 0 0) [] := R_N (R_nil _ _ _ _ _)
end
end Kd
end Go.Proofs.YtcdnmnipaaooiaaW.PrintWords
end

section
namespace Go.Proofs.YtcdnmnipaaooiaaW.PrintWords
/-- One cell an element. -/
theorem Reps.one {α : Type} {R : α → List Value → Prop} {ps : List α} {cs : List Value} {p : α} {v : Value} (hp : R p [v]) (h : Reps R 1 ps cs) : Reps R 1 (p :: ps) (v :: cs) := by
  refine ⟨by simp [h.1], fun j q hq => ?_⟩
  cases j with
  | zero =>
    simp only [List.getElem?_cons_zero, Option.some.injEq] at hq
    subst hq
    simpa using hp
  | succ j =>
    simp only [List.getElem?_cons_succ] at hq
    have h1 := h.2 j q hq
    simpa [Nat.mul_one] using h1
/-- More cells an element: told apart by the cells' list. -/
theorem Reps.front {α : Type} {R : α → List Value → Prop} {size : Nat} {ps : List α} {cs c all : List Value} {p : α} (hp : R p c) (hc : c.length = size) (h : Reps R size ps cs) (ha : c ++ cs = all) : Reps R size (p :: ps) all := by
  subst ha
  refine ⟨by rw [List.length_append, hc, h.1, List.length_cons, Nat.succ_mul, Nat.add_comm], fun j q hq => ?_⟩
  cases j with
  | zero =>
    simp only [List.getElem?_cons_zero, Option.some.injEq] at hq
    subst hq
    rw [Nat.zero_mul, List.drop_zero, List.take_append_of_le_length (by omega), List.take_of_length_le (by omega)]
    exact hp
  | succ j =>
    simp only [List.getElem?_cons_succ] at hq
    have h1 := h.2 j q hq
    rw [Nat.succ_mul, List.drop_append, List.drop_of_length_le (by rw [hc]; exact Nat.le_add_left _ _), List.nil_append, hc, Nat.add_sub_cancel]
    exact h1
theorem Reps.c2 {α : Type} {R : α → List Value → Prop} {ps : List α} {cs : List Value} {p : α} {va vb : Value} (hp : R p [va, vb]) (h : Reps R 2 ps cs) : Reps R 2 (p :: ps) (va :: vb :: cs) := Reps.front hp rfl h rfl
theorem Reps.c3 {α : Type} {R : α → List Value → Prop} {ps : List α} {cs : List Value} {p : α} {va vb vc : Value} (hp : R p [va, vb, vc]) (h : Reps R 3 ps cs) : Reps R 3 (p :: ps) (va :: vb :: vc :: cs) := Reps.front hp rfl h rfl
theorem Reps.c4 {α : Type} {R : α → List Value → Prop} {ps : List α} {cs : List Value} {p : α} {va vb vc vd : Value} (hp : R p [va, vb, vc, vd]) (h : Reps R 4 ps cs) : Reps R 4 (p :: ps) (va :: vb :: vc :: vd :: cs) := Reps.front hp rfl h rfl
theorem Reps.c5 {α : Type} {R : α → List Value → Prop} {ps : List α} {cs : List Value} {p : α} {va vb vc vd ve : Value} (hp : R p [va, vb, vc, vd, ve]) (h : Reps R 5 ps cs) : Reps R 5 (p :: ps) (va :: vb :: vc :: vd :: ve :: cs) := Reps.front hp rfl h rfl
theorem Reps.c6 {α : Type} {R : α → List Value → Prop} {ps : List α} {cs : List Value} {p : α} {va vb vc vd ve vf : Value} (hp : R p [va, vb, vc, vd, ve, vf]) (h : Reps R 6 ps cs) : Reps R 6 (p :: ps) (va :: vb :: vc :: vd :: ve :: vf :: cs) := Reps.front hp rfl h rfl
theorem Reps.c7 {α : Type} {R : α → List Value → Prop} {ps : List α} {cs : List Value} {p : α} {va vb vc vd ve vf vg : Value} (hp : R p [va, vb, vc, vd, ve, vf, vg]) (h : Reps R 7 ps cs) : Reps R 7 (p :: ps) (va :: vb :: vc :: vd :: ve :: vf :: vg :: cs) := Reps.front hp rfl h rfl
theorem Reps.c8 {α : Type} {R : α → List Value → Prop} {ps : List α} {cs : List Value} {p : α} {va vb vc vd ve vf vg vh : Value} (hp : R p [va, vb, vc, vd, ve, vf, vg, vh]) (h : Reps R 8 ps cs) : Reps R 8 (p :: ps) (va :: vb :: vc :: vd :: ve :: vf :: vg :: vh :: cs) := Reps.front hp rfl h rfl
theorem Reps.c9 {α : Type} {R : α → List Value → Prop} {ps : List α} {cs : List Value} {p : α} {va vb vc vd ve vf vg vh vi : Value} (hp : R p [va, vb, vc, vd, ve, vf, vg, vh, vi]) (h : Reps R 9 ps cs) : Reps R 9 (p :: ps) (va :: vb :: vc :: vd :: ve :: vf :: vg :: vh :: vi :: cs) := Reps.front hp rfl h rfl
theorem Reps.c10 {α : Type} {R : α → List Value → Prop} {ps : List α} {cs : List Value} {p : α} {va vb vc vd ve vf vg vh vi vj : Value} (hp : R p [va, vb, vc, vd, ve, vf, vg, vh, vi, vj]) (h : Reps R 10 ps cs) : Reps R 10 (p :: ps) (va :: vb :: vc :: vd :: ve :: vf :: vg :: vh :: vi :: vj :: cs) := Reps.front hp rfl h rfl
end Go.Proofs.YtcdnmnipaaooiaaW.PrintWords
end

section
namespace Go.Proofs.YtcdnmnipaaooiaaW.PrintLast
/-- Number i is listed too. -/
def up (b : Nat → Bool) (i : Nat) : Nat → Bool := fun j => if j = i then true else b j
theorem up_self (b : Nat → Bool) (i : Nat) : up b i i = true := by simp [up]
theorem up_ne {b : Nat → Bool} {i j : Nat} (h : j ≠ i) : up b i j = b j := by simp [up, h]
/-- What is listed: O's operations by b, all else already. -/
def lof (n : Nat) (O : List Nat) (b : Nat → Bool) : List Bool := (List.range n).map fun j => if O.contains j then b j else true
section
variable {P : Program} {ops : Array Oper} {Q : Exit → Act → World → Prop} {md : Region.Mode} {T : Bool × List (List Nat × List Nat)} {B : List Nat} {O : List Nat} {b : Nat → Bool} {i j n : Nat}
theorem lof_length : (lof n O b).length = n := by simp [lof]
theorem lof_get {d : Bool} (hj : j < n) : (lof n O b).getD j d = if O.contains j then b j else true := by
  simp [lof, List.getD_eq_getElem?_getD, hj]
theorem lof_up (hi : O.contains i = true) : (lof n O b).set i true = lof n O (up b i) := by
  apply List.ext_getElem?
  intro j
  by_cases hj : j < n
  · by_cases hij : i = j
    · subst hij
      have hl : i < (lof n O b).length := by rw [lof_length]; exact hj
      rw [List.getElem?_set_self hl]
      simp only [lof, List.getElem?_map, List.getElem?_range hj, Option.map_some, hi, if_true, up_self]
    · rw [List.getElem?_set_ne hij]
      simp only [lof, List.getElem?_map, List.getElem?_range hj, Option.map_some]
      rw [up_ne (Ne.symm hij)]
  · rw [List.getElem?_eq_none (by simp [lof]; omega), List.getElem?_eq_none (by simp [lof]; omega)]
/-- The step of operation i: out of the relation, it not being listed, all it waits for being so, and nothing that waits for it. -/
def StepAt (P : Program) (ops : Array Oper) (Q : Exit → Act → World → Prop) (B : List Nat) (O : List Nat) (I : (Nat → Bool) → Act → World → Prop) (i : Nat) : Prop :=
  ∀ b a w, I b a w → b i = false → (∀ j, (O.contains j && (B.getD i 0).testBit j) = true → b j = true) → (∀ d, (O.contains d && (B.getD d 0).testBit i) = true → b d = false) →
    ∃ oi, ops[i]? = some oi ∧ ∀ K : Act → World → Prop, Shut (∀ a' w', I (up b i) a' w' → K a' w') → if Region.wanted oi (yielded ops a.tmps) = true then Oper.wp P oi a w K Q else K (a.put oi.dst undef) w
/-- Every edge goes to an earlier operation; what is listed already waits for nothing of O; O's numbers are the region's, each once. -/
def baseOk (T : List (List Nat × List Nat)) (O : List Nat) : Bool :=
  (List.range T.length).all (fun d => match T[d]? with
    | some r => (O.contains d || r.1.all fun n => !O.contains n) && r.1.all fun n => decide (n < d)
    | none => false) && O.all (fun i => decide (i < T.length)) && decide O.Nodup
theorem baseOk_row {T : List (List Nat × List Nat)} (h : baseOk T O = true) {d : Nat} {r : List Nat × List Nat} (hr : T[d]? = some r) : (O.contains d = false → ∀ n ∈ r.1, O.contains n = false) ∧ ∀ n ∈ r.1, n < d := by
  simp only [baseOk, Bool.and_eq_true] at h
  have h1 := List.all_eq_true.1 h.1.1 d (List.mem_range.2 (List.getElem?_eq_some_iff.1 hr).1)
  rw [hr] at h1
  simp only [Bool.and_eq_true, Bool.or_eq_true, List.all_eq_true, decide_eq_true_eq] at h1
  refine ⟨fun hd n hn => ?_, h1.2⟩
  rcases h1.1 with h2 | h2
  · rw [hd] at h2; cases h2
  · simpa using h2 n hn
theorem baseOk_lt {T : List (List Nat × List Nat)} (h : baseOk T O = true) {i : Nat} (hi : i ∈ O) : i < T.length := by
  simp only [baseOk, Bool.and_eq_true] at h
  simpa using List.all_eq_true.1 h.1.2 i hi
theorem baseOk_nodup {T : List (List Nat × List Nat)} (h : baseOk T O = true) : O.Nodup := by
  simp only [baseOk, Bool.and_eq_true] at h
  exact of_decide_eq_true h.2
def Closed (T : List (List Nat × List Nat)) (O : List Nat) (b : Nat → Bool) : Prop := ∀ d r, T[d]? = some r → O.contains d = true → b d = true → ∀ n ∈ r.1, O.contains n = true → b n = true
/-- What waits for nothing of O has none of it in its bits. -/
theorem bits_out {T : List (List Nat × List Nat)} (hw : waitsOk T B = true) (hk : baseOk T O = true) : ∀ (m d : Nat), d ≤ m → d < T.length → O.contains d = false → ∀ j, (B.getD d 0).testBit j = true → O.contains j = false := by
  intro m
  induction m with
  | zero =>
    intro d hd hl hO j hj
    have hd0 : d = 0 := by omega
    subst hd0
    have hr : T[0]? = some T[0] := List.getElem?_eq_getElem hl
    have h1 := List.all_eq_true.1 hw 0 (List.mem_range.2 hl)
    rw [hr] at h1
    simp only [beq_iff_eq] at h1
    have h2 : (upM B 0 T[0].1).testBit j = true := by rw [← h1, Nat.testBit_or, hj, Bool.true_or]
    obtain ⟨n, hn, h3⟩ := upM_bit h2
    have := (baseOk_row hk hr).2 n hn
    omega
  | succ m ih =>
    intro d hd hl hO j hj
    have hr : T[d]? = some T[d] := List.getElem?_eq_getElem hl
    have h1 := List.all_eq_true.1 hw d (List.mem_range.2 hl)
    rw [hr] at h1
    simp only [beq_iff_eq] at h1
    have h2 : (upM B d T[d].1).testBit j = true := by rw [← h1, Nat.testBit_or, hj, Bool.true_or]
    obtain ⟨n, hn, h3⟩ := upM_bit h2
    have hO2 := (baseOk_row hk hr).1 hO n hn
    rcases h3 with rfl | ⟨h4, h5⟩
    · exact hO2
    · exact ih n (by omega) (by omega) hO2 j h5
theorem closed_bits {T : List (List Nat × List Nat)} (hw : waitsOk T B = true) (hk : baseOk T O = true) (hc : Closed T O b) : ∀ (m d : Nat), d ≤ m → d < T.length → O.contains d = true → b d = true → ∀ j, O.contains j = true → (B.getD d 0).testBit j = true → b j = true := by
  intro m
  induction m with
  | zero =>
    intro d hd hl hO hb j hjO hj
    have hd0 : d = 0 := by omega
    subst hd0
    have hr : T[0]? = some T[0] := List.getElem?_eq_getElem hl
    have h1 := List.all_eq_true.1 hw 0 (List.mem_range.2 hl)
    rw [hr] at h1
    simp only [beq_iff_eq] at h1
    have h2 : (upM B 0 T[0].1).testBit j = true := by rw [← h1, Nat.testBit_or, hj, Bool.true_or]
    obtain ⟨n, hn, h3⟩ := upM_bit h2
    have := (baseOk_row hk hr).2 n hn
    omega
  | succ m ih =>
    intro d hd hl hO hb j hjO hj
    have hr : T[d]? = some T[d] := List.getElem?_eq_getElem hl
    have h1 := List.all_eq_true.1 hw d (List.mem_range.2 hl)
    rw [hr] at h1
    simp only [beq_iff_eq] at h1
    have h2 : (upM B d T[d].1).testBit j = true := by rw [← h1, Nat.testBit_or, hj, Bool.true_or]
    obtain ⟨n, hn, h3⟩ := upM_bit h2
    rcases h3 with rfl | ⟨h4, h5⟩
    · exact hc d _ hr hO hb n hn hjO
    · cases hO2 : O.contains n with
      | true => exact ih n (by omega) (by omega) hO2 (hc d _ hr hO hb n hn hO2) j hjO h5
      | false =>
        have := bits_out hw hk n n (Nat.le_refl _) (by omega) hO2 j h5
        rw [hjO] at this
        cases this
theorem up_count : ∀ {O : List Nat}, O.Nodup → i ∈ O → b i = false → (O.filter fun j => !up b i j).length + 1 = (O.filter fun j => !b j).length
  | [], _, hi, _ => by cases hi
  | x :: r, hn, hi, hb => by
    rw [List.nodup_cons] at hn
    rcases List.mem_cons.1 hi with rfl | hi
    · have h1 : (r.filter fun j => !up b i j) = r.filter fun j => !b j := by
        refine List.filter_congr (fun j hj => ?_)
        rw [up_ne (fun e => hn.1 (by rw [← e]; exact hj))]
      rw [List.filter_cons, List.filter_cons]
      simp [up_self, hb, h1]
    · have hxi : x ≠ i := fun e => hn.1 (e ▸ hi)
      have h1 := up_count hn.2 hi hb
      rw [List.filter_cons, List.filter_cons, up_ne hxi]
      cases hbx : b x
      · simp only [Bool.not_false, if_true, List.length_cons]
        omega
      · simpa using h1
theorem inv_all (hT : rtab md ops = T) (hw : waitsOk T.2 B = true) (hk : baseOk T.2 O = true) (I : (Nat → Bool) → Act → World → Prop) (hs : ∀ i ∈ O, StepAt P ops Q B O I i)
    (hend : ∀ b a w, (∀ j, O.contains j = true → b j = true) → I b a w → Q .normal a w) :
    ∀ (m : Nat) (b : Nat → Bool) (a : Act) (w : World), (O.filter fun j => !b j).length = m → Closed T.2 O b → I b a w → wpAnyLast P md ops Q (fun _ => True) [] m (lof T.2.length O b).toArray a w := by
  subst hT
  have mem_ready' : ∀ {b : Nat → Bool} {i : Nat}, i ∈ Region.ready md ops (lof (rtab md ops).2.length O b).toArray → i < (rtab md ops).2.length ∧ O.contains i = true ∧ b i = false ∧ ∀ r, (rtab md ops).2[i]? = some r → ∀ n ∈ r.1, n < (rtab md ops).2.length → O.contains n = true → b n = true := by
    intro b i hi
    rw [ready_eq] at hi
    unfold readyT at hi
    rw [List.mem_filter, List.mem_range] at hi
    obtain ⟨hl, h1⟩ := hi
    unfold readyAt at h1
    rw [Bool.and_eq_true, lof_get hl] at h1
    obtain ⟨h2, h3⟩ := h1
    have h4 : O.contains i = true := by
      cases h : O.contains i with
      | true => rfl
      | false => rw [h] at h2; simp at h2
    rw [h4] at h2
    refine ⟨hl, h4, by simpa using h2, fun r hr n hn hnl hO => ?_⟩
    rw [hr] at h3
    simp only [List.all_eq_true] at h3
    have h5 := h3 n hn
    rw [lof_get hnl, hO] at h5
    simpa using h5
  intro m
  induction m with
  | zero =>
    intro b a w hm hc hI
    have hall : ∀ j, O.contains j = true → b j = true := by
      intro j hj
      cases hb : b j with
      | true => rfl
      | false =>
        have : j ∈ O.filter fun j => !b j := List.mem_filter.2 ⟨List.contains_iff_mem.1 hj, by simp [hb]⟩
        rw [List.eq_nil_of_length_eq_zero hm] at this
        cases this
    refine ⟨?_, hend b a w hall hI⟩
    refine List.eq_nil_iff_forall_not_mem.2 (fun i hi => ?_)
    obtain ⟨_, h1, h2, _⟩ := mem_ready' hi
    rw [hall i h1] at h2
    cases h2
  | succ m ih =>
    intro b a w hm hc hI
    refine ⟨fun hr => ?_, fun i hi => ?_⟩
    · exfalso
      -- the smallest number that isn't listed is ready
      have hex : ∃ i, O.contains i = true ∧ b i = false := by
        cases hf : O.filter (fun j => !b j) with
        | nil => rw [hf] at hm; simp at hm
        | cons x r =>
          have hx : x ∈ O.filter (fun j => !b j) := by rw [hf]; exact List.mem_cons_self
          rw [List.mem_filter] at hx
          exact ⟨x, List.contains_iff_mem.2 hx.1, by simpa using hx.2⟩
      have hmin : ∀ k, (∃ i, i ≤ k ∧ O.contains i = true ∧ b i = false) → ∃ i, O.contains i = true ∧ b i = false ∧ ∀ j, j < i → O.contains j = true → b j = true := by
        intro k
        induction k with
        | zero =>
          rintro ⟨i, hi, h1, h2⟩
          exact ⟨i, h1, h2, fun j hj => by omega⟩
        | succ k ihk =>
          rintro ⟨i, hi, h1, h2⟩
          by_cases hlow : ∃ j, j ≤ k ∧ O.contains j = true ∧ b j = false
          · exact ihk hlow
          · refine ⟨i, h1, h2, fun j hj hO => ?_⟩
            cases hb : b j with
            | true => rfl
            | false => exact absurd ⟨j, by omega, hO, hb⟩ hlow
      obtain ⟨i0, h1, h2⟩ := hex
      obtain ⟨i, hO, hb, hlow⟩ := hmin i0 ⟨i0, Nat.le_refl _, h1, h2⟩
      have hl := baseOk_lt hk (List.contains_iff_mem.1 hO)
      have hin : i ∈ Region.ready md ops (lof (rtab md ops).2.length O b).toArray := by
        rw [ready_eq]
        unfold readyT
        rw [List.mem_filter, List.mem_range]
        refine ⟨hl, ?_⟩
        unfold readyAt
        rw [lof_get hl, hO, hb]
        have hr2 : (rtab md ops).2[i]? = some (rtab md ops).2[i] := List.getElem?_eq_getElem hl
        rw [hr2]
        simp only [if_true, Bool.not_false, Bool.true_and, List.all_eq_true]
        intro n hn
        have hni := (baseOk_row hk hr2).2 n hn
        rw [lof_get (by omega)]
        cases hOn : O.contains n with
        | true => simpa using hlow n hni hOn
        | false => simp
      rw [hr] at hin
      cases hin
    · obtain ⟨hl, hO, hb, hneed⟩ := mem_ready' hi
      have hon : ∀ j, (O.contains j && (B.getD i 0).testBit j) = true → b j = true := by
        intro j hj
        rw [Bool.and_eq_true] at hj
        have hr2 : (rtab md ops).2[i]? = some (rtab md ops).2[i] := List.getElem?_eq_getElem hl
        have h1 := List.all_eq_true.1 hw i (List.mem_range.2 hl)
        rw [hr2] at h1
        simp only [beq_iff_eq] at h1
        have h2 : (upM B i (rtab md ops).2[i].1).testBit j = true := by rw [← h1, Nat.testBit_or, hj.2, Bool.true_or]
        obtain ⟨n, hn, h3⟩ := upM_bit h2
        have hni := (baseOk_row hk hr2).2 n hn
        rcases h3 with rfl | ⟨h4, h5⟩
        · exact hneed _ hr2 n hn (by omega) hj.1
        · cases hO2 : O.contains n with
          | true => exact closed_bits hw hk hc n n (Nat.le_refl _) (by omega) hO2 (hneed _ hr2 n hn (by omega) hO2) j hj.1 h5
          | false =>
            have := bits_out hw hk n n (Nat.le_refl _) (by omega) hO2 j h5
            rw [hj.1] at this
            cases this
      have hoff : ∀ d, (O.contains d && (B.getD d 0).testBit i) = true → b d = false := by
        intro d hd
        rw [Bool.and_eq_true] at hd
        cases hbd : b d with
        | false => rfl
        | true =>
          have hdl := baseOk_lt hk (List.contains_iff_mem.1 hd.1)
          have := closed_bits hw hk hc d d (Nat.le_refl _) hdl hd.1 hbd i hO hd.2
          rw [hb] at this
          cases this
      obtain ⟨oi, hoi, hK⟩ := hs i (List.contains_iff_mem.1 hO) b a w hI hb hon hoff
      refine wpOp_step hoi (fun K' hK' => hK K' (fun a' w' hI' => hK' a' w' ⟨fun _ _ => trivial, ?_⟩))
      have hset : (lof (rtab md ops).2.length O b).toArray.setIfInBounds i true = (lof (rtab md ops).2.length O (up b i)).toArray := by
        apply Array.ext'
        rw [Array.toList_setIfInBounds]
        exact lof_up hO
      rw [hset]
      refine ih (up b i) a' w' ?_ ?_ hI'
      · have := up_count (baseOk_nodup hk) (List.contains_iff_mem.1 hO) hb
        omega
      · intro d r hr hOd hbd n hn hOn
        by_cases hni : n = i
        · rw [hni, up_self]
        · rw [up_ne hni]
          by_cases hdi : d = i
          · subst hdi
            exact hneed r hr n hn (by have := (baseOk_row hk hr).2 n hn; omega) hOn
          · rw [up_ne hdi] at hbd
            exact hc d r hr hOd hbd n hn hOn
/-- THE REGION FROM HERE TO ITS END, by one relation I: l has all listed but O's operations; I holds with none of them listed; each step; with all listed what follows. -/
theorem inv_ {l : Array Bool} {fuel : Nat} {a : Act} {w : World} (O : List Nat) (I : (Nat → Bool) → Act → World → Prop) (hT : rtab md ops = T) (hw : waitsOk T.2 B = true) (hk : baseOk T.2 O = true)
    (hl : (lof T.2.length O (fun _ => false) == l.toList && O.length == fuel) = true) (h0 : I (fun _ => false) a w) (hs : ∀ i ∈ O, StepAt P ops Q B O I i)
    (hend : ∀ b a w, (∀ j, O.contains j = true → b j = true) → I b a w → Q .normal a w) : wpAnyLast P md ops Q (fun _ => True) [] fuel l a w := by
  rw [Bool.and_eq_true, beq_iff_eq, beq_iff_eq] at hl
  have h1 := inv_all hT hw hk I hs hend fuel (fun _ => false) a w (by rw [← hl.2]; simp) (fun d r _ _ hb => by cases hb) h0
  have h2 : (lof T.2.length O (fun _ => false)).toArray = l := by apply Array.ext'; exact hl.1
  rw [h2] at h1
  exact h1
/-- inv_ with the relation told from the frame that stands now (a0_). -/
theorem inv_at {l : Array Bool} {fuel : Nat} {a : Act} {w : World} (O : List Nat) (I : Act → (Nat → Bool) → Act → World → Prop) (hT : rtab md ops = T) (hw : waitsOk T.2 B = true) (hk : baseOk T.2 O = true)
    (hl : (lof T.2.length O (fun _ => false) == l.toList && O.length == fuel) = true) (h0 : I a (fun _ => false) a w) (hs : ∀ i ∈ O, StepAt P ops Q B O (I a) i)
    (hend : ∀ b a' w, (∀ j, O.contains j = true → b j = true) → I a b a' w → Q .normal a' w) : wpAnyLast P md ops Q (fun _ => True) [] fuel l a w := inv_ O (I a) hT hw hk hl h0 hs hend
end
end Go.Proofs.YtcdnmnipaaooiaaW.PrintLast
end

section
namespace Go.Proofs.YtcdnmnipaaooiaaW.PrintWords
open Go.RowKit
section
variable {P : Program} {ops : Array Oper} {rest : List Oper} {o : Oper} {a : Act} {Q : Exit → Act → World → Prop} {W : World}
/-- The gate takes the guard off (hw: 'by rfl', 'by kernel_rfl': the guard's slot holds what is wanted). -/
theorem gate_guard (hw : Region.wanted o (yielded ops a.tmps) = true) (h : wpList P ops Q ({ o with guard := none } :: rest) a W) : wpList P ops Q (o :: rest) a W := by
  have h1 : Region.wanted { o with guard := none } (yielded ops a.tmps) = true := rfl
  unfold wpList at h ⊢
  rw [if_pos h1] at h
  rw [if_pos hw]
  exact h
end
end Go.Proofs.YtcdnmnipaaooiaaW.PrintWords
end

section
namespace Go.Proofs.YtcdnmnipaaooiaaW.PrintMore
open Go.RowKit Go.Proofs.YtcdnmnipaaooiaaW.PrintWords
namespace Kd
open Go.Proofs.YtcdnmnipaaooiaaW.PrintWords.Kd
end Kd
namespace Kd
open Go.Proofs.YtcdnmnipaaooiaaW.PrintWords.Kd
section
variable {α : Type} {d : Kd α} {e base g N : Nat} {ok : Nat → Prop} {W w1 : World} {u v : Value} {xs : List α}
/-- An elder row over an event that only makes: its blocks are elder than what was made. -/
theorem R_old (hu : d.R e W base ok u xs) (hb : Below W.heap.size W w1) : d.R e w1 base (fun k => ok k ∧ k < W.heap.size) u xs :=
  R_mono (R_below (R_bound hu) hb) (fun _ h => ⟨h.1, h.2.2.1⟩)
/-- It is none of the rows made since. -/
theorem R_told (h : d.R e w1 base (fun k => ok k ∧ k < N) u xs) (hbase : ∀ k, v.ownBlock = some k → N ≤ k) : d.R e w1 base (fun k => (ok k ∧ some k ≠ v.ownBlock) ∧ k < N) u xs :=
  R_mono h (fun k hk => ⟨⟨hk.1, fun e => Nat.lt_irrefl _ (Nat.lt_of_lt_of_le hk.2 (hbase k e.symm))⟩, hk.2⟩)
end
end Kd
/-- 'max' and 'min' of two whole numbers. -/
theorem max2_int (k k' : IntKind) (x y : Int) : Builtin.max2 (.int k x) (.int k' y) = pure (.int k (if x < y then y else x)) := by simp only [Builtin.max2, gt_iff_lt]
theorem min2_int (k k' : IntKind) (x y : Int) : Builtin.min2 (.int k x) (.int k' y) = pure (.int k (if y < x then y else x)) := by simp only [Builtin.min2]
theorem max_two (ats : Array TypeId) (ty : TypeId) (a b : Value) : Builtin.max_ ats ty #[a, b] = (Builtin.max2 a b >>= fun s => pure s) := by simp only [Builtin.max_, List.foldlM_cons, List.foldlM_nil]
theorem min_two (ats : Array TypeId) (ty : TypeId) (a b : Value) : Builtin.min_ ats ty #[a, b] = (Builtin.min2 a b >>= fun s => pure s) := by simp only [Builtin.min_, List.foldlM_cons, List.foldlM_nil]
theorem max_three (ats : Array TypeId) (ty : TypeId) (a b c : Value) : Builtin.max_ ats ty #[a, b, c] = (Builtin.max2 a b >>= fun s => Builtin.max2 s c >>= fun s => pure s) := by simp only [Builtin.max_, List.foldlM_cons, List.foldlM_nil]
theorem min_three (ats : Array TypeId) (ty : TypeId) (a b c : Value) : Builtin.min_ ats ty #[a, b, c] = (Builtin.min2 a b >>= fun s => Builtin.min2 s c >>= fun s => pure s) := by simp only [Builtin.min_, List.foldlM_cons, List.foldlM_nil]
theorem max_four (ats : Array TypeId) (ty : TypeId) (a b c d : Value) : Builtin.max_ ats ty #[a, b, c, d] = (Builtin.max2 a b >>= fun s => Builtin.max2 s c >>= fun s => Builtin.max2 s d >>= fun s => pure s) := by simp only [Builtin.max_, List.foldlM_cons, List.foldlM_nil]
theorem min_four (ats : Array TypeId) (ty : TypeId) (a b c d : Value) : Builtin.min_ ats ty #[a, b, c, d] = (Builtin.min2 a b >>= fun s => Builtin.min2 s c >>= fun s => Builtin.min2 s d >>= fun s => pure s) := by simp only [Builtin.min_, List.foldlM_cons, List.foldlM_nil]
end Go.Proofs.YtcdnmnipaaooiaaW.PrintMore
namespace Go.Proofs.YtcdnmnipaaooiaaW.PrintWords
open Go.RowKit
section
variable {P : Program} {ops : Array Oper} {rest : List Oper} {o : Oper} {a : Act} {Q : Exit → Act → World → Prop} {W : World}
/-- The operation is a call of this function (a cheap look ahead of a dear step). -/
theorem gate_callee {f : FuncId} {aas : Array Operand} {ts : Array TypeId} (_ho : o.op = .call { callee := .value (.func f), args := aas, argTypes := ts }) (h : wpList P ops Q (o :: rest) a W) : wpList P ops Q (o :: rest) a W := h
/-- The operation is a builtin over these places. -/
theorem gate_builtin {b : Builtin} {xs : Array Operand} {ts : Array TypeId} (_ho : o.op = .call { callee := .builtin b, args := xs, argTypes := ts }) (h : wpList P ops Q (o :: rest) a W) : wpList P ops Q (o :: rest) a W := h
end
/-- The greater of two whole numbers, aas Go's max tells it. -/
def mx (a b : Int) : Int := if a < b then b else a
namespace Kd
section
variable {α : Type} {d : Kd α} {e base : Nat} {ok : Nat → Prop} {W w1 : World} {v : Value} {xs : List α}
end
section
variable {α : Type} {d : Kd α} {e base g n cap : Nat} {ok oki okp : Nat → Prop} {W : World} {xs : List α} {i : Int} {c : List Value}
end
section
variable {α : Type} {d : Kd α} {e base b b' g N : Nat} {ok ok1 : Nat → Prop} {W W2 w1 : World} {u v : Value} {xs ys : List α} {S : Nat → Prop}
theorem R_reok (hE : d.E = []) (h : d.R e W base ok1 v xs) (hok : ∀ k, v.ownBlock = some k → ok k) : d.R e W base ok v xs := R_mono (R_tight hE h) (fun k hk => hok k hk.symm)
theorem R_keptB (h : d.R e W base ok v xs) (hk : Kept W W2 S) (hne : ∀ k, ok k → ¬ S k) : d.R e W2 base (fun k => ok k ∧ (¬ S k ∧ k < W.heap.size)) v xs :=
  R_kept (R_mono (R_bound h) (fun k hk => ⟨hk.1, hne k hk.1, hk.2.2.1⟩)) hk (fun _ hk => hk.2.1)
end
end Kd
end Go.Proofs.YtcdnmnipaaooiaaW.PrintWords
namespace Go.Proofs.YtcdnmnipaaooiaaW.PrintWords
open Go.RowKit
namespace Kd
/-- A row that is only read, told by its value: its form, its length, what it leads to (in ok). e and base say nothing; they make it aas the others are. -/
def V {α : Type} (d : Kd α) (_e : Nat) (W : World) (_base : Nat) (ok : Nat → Prop) (v : Value) (xs : List α) : Prop := ∃ A c, v = .slice A xs.length c ∧ xs.length ≤ c ∧ F d W ok A xs.length xs
section
variable {α β : Type} {d : Kd α} {e base base' n m c g N' lo hi : Nat} {ok ok' S : Nat → Prop} {w W w1 : World} {A : Option Addr} {ad : Addr} {u v v1 : Value} {xs : List α}
theorem V_nil (d : Kd α) (e : Nat) (W : World) (base : Nat) (ok : Nat → Prop) : V d e W base ok (.slice none 0 0) [] := ⟨none, 0, rfl, Nat.le_refl _, F_nil d W ok⟩
end
end Kd
end Go.Proofs.YtcdnmnipaaooiaaW.PrintWords
end

section
namespace Go.Proofs.Ytcdnmnipaaooiaa.P
open Go.RowKit Go.Shelf Go.Proofs.YtcdnmnipaaooiaaW.PrintWords Go.Proofs.Ytcdnmnipaaooiaa.Num
set_option linter.unusedVariables false
/-- What is made of two rows. -/
def both (f : Nat) (l0 l1 : List Int) : List Int := (List.range l0.length).map (outs f l0 l1)
def share (f : Nat) (l0 l1 : List Int) : List Int × Bool := if okAll l0 l1 then (both f l0 l1, true) else ([], false)
def impl_ShareSum.f (l0 l1 : List Int) : Option (List Int × Bool) := some (share 47 l0 l1)
def impl_ShareBack.f (l0 l1 : List Int) : Option (List Int × Bool) := some (share 47 l0 l1)
def impl_ShareDrawn.f (l0 l1 : List Int) : Option (List Int × Bool) := some (share 49 l0 l1)
def impl_ShareMake.f (l0 l1 : List Int) : Option (List Int × List Int × Bool) := some (if okAll l0 l1 then (both 49 l0 l1, both 50 l0 l1, true) else ([], [], false))
/-- The core's result, aas a row of the call's own. -/
theorem core_row {f : Nat} {va vb : Value} {l0 l1 : List Int} {w : World} {r s : Value} {w' : World} (hE : CoreEnd f va vb l0.length l0 l1 w r s w') :
    s = .bool (share f l0 l1).2 ∧ (∀ (base : Nat) (ok : Nat → Prop), base ≤ w.heap.size → (∀ k, r.ownBlock = some k → ok k) → Kd.R (Kd.int .i64) 3 w' base ok r (share f l0 l1).1) ∧ (okAll l0 l1 = true → r.ownBlock = some (w.heap.size + 3)) ∧ Below w.heap.size w w' ∧ (okAll l0 l1 = true → w.heap.size + 6 ≤ w'.heap.size) := by
  have hb := hE.below
  rcases hE with ⟨ho, rfl, rfl, rfl⟩ | ⟨ho, rfl, rfl, rfl⟩
  · refine ⟨by simp [share, ho], fun base ok _ _ => ?_, fun h => (by rw [ho] at h; cases h), hb, fun h => (by rw [ho] at h; cases h)⟩
    simp only [share, ho, Bool.false_eq_true, if_false]
    exact Kd.R_nil _ _ _ _ _
  · have hsz : (boxes w va vb f).heap.size = w.heap.size + 3 := by simp [boxes]
    obtain ⟨b0, b1, _⟩ := begun_at (n := l0.length) hsz
    obtain ⟨arr, r1, r2, r3, _⟩ := ran_row (g := outs f l0 l1) b1 (size_madeCells _ _) l0.length (Nat.le_refl _)
    have h20 : l0.length ≤ 20 := by
      unfold okAll at ho
      simp only [Bool.and_eq_true, decide_eq_true_eq] at ho
      exact ho.1.1.1
    refine ⟨by simp [share, ho], fun base ok hbase hok => ?_, fun _ => rfl, hb, fun _ => by rw [ran_size, b0]; omega⟩
    simp only [share, ho, if_true]
    refine Kd.R_of_own ⟨by simp [encs], .inr ⟨w.heap.size + 3, l0.length, arr, by simp [both], by omega, r1, by simp [both], by simp [maxLen]; omega, by omega, ?_⟩⟩ hok
    apply List.ext_getElem?
    intro j
    by_cases hj : j < l0.length
    · rw [List.getElem?_take_of_lt (by simp [both]; exact hj), Array.getElem?_toList, r3 j hj]
      simp [encs, both, hj]
    · rw [List.getElem?_eq_none (by simp [both, r2]; omega), List.getElem?_eq_none (by simp [encs, both]; omega)]
theorem impl_ShareSum.calls (A0 : Option Addr) (c0 : Nat) (l0 : List Int) (A1 : Option Addr) (c1 : Nat) (l1 : List Int) (r1 : List Int) (r2 : Bool) (w : World) (hr0 : Kd.C (Kd.int .i64) w A0 l0.length l0) (hc0 : l0.length ≤ c0) (hr1 : Kd.C (Kd.int .i64) w A1 l1.length l1) (hc1 : l1.length ≤ c1) (h : impl_ShareSum.f l0 l1 = some (r1, r2)) :
    Calls Twin.prog 17 #[.slice A0 l0.length c0, .slice A1 l1.length c1] w fun e w' => ∃ v0_ : Value, e = .returned (.tuple #[v0_, .bool r2]) ∧ Kd.R (Kd.int .i64) 3 w' w.heap.size (fun _ => True) v0_ r1 ∧ Below w.heap.size w w' := by
  have h' := Option.some.inj h
  refine (lone17 [] hr0 hr1).mono ?_
  rintro e w' ⟨r, s, rfl, hE⟩
  obtain ⟨hs, hR, _, hB, _⟩ := core_row hE
  rw [h'] at hs hR
  exact ⟨r, by rw [hs], hR _ _ (Nat.le_refl _) fun _ _ => trivial, hB⟩
theorem impl_ShareBack.calls (A0 : Option Addr) (c0 : Nat) (l0 : List Int) (A1 : Option Addr) (c1 : Nat) (l1 : List Int) (r1 : List Int) (r2 : Bool) (w : World) (hr0 : Kd.C (Kd.int .i64) w A0 l0.length l0) (hc0 : l0.length ≤ c0) (hr1 : Kd.C (Kd.int .i64) w A1 l1.length l1) (hc1 : l1.length ≤ c1) (h : impl_ShareBack.f l0 l1 = some (r1, r2)) :
    Calls Twin.prog 21 #[.slice A0 l0.length c0, .slice A1 l1.length c1] w fun e w' => ∃ v0_ : Value, e = .returned (.tuple #[v0_, .bool r2]) ∧ Kd.R (Kd.int .i64) 3 w' w.heap.size (fun _ => True) v0_ r1 ∧ Below w.heap.size w w' := by
  have h' := Option.some.inj h
  refine (lone21 [] hr0 hr1).mono ?_
  rintro e w' ⟨r, s, rfl, hE⟩
  obtain ⟨hs, hR, _, hB, _⟩ := core_row hE
  rw [h'] at hs hR
  exact ⟨r, by rw [hs], hR _ _ (Nat.le_refl _) fun _ _ => trivial, hB⟩
theorem impl_ShareDrawn.calls (A0 : Option Addr) (c0 : Nat) (l0 : List Int) (A1 : Option Addr) (c1 : Nat) (l1 : List Int) (r1 : List Int) (r2 : Bool) (w : World) (hr0 : Kd.C (Kd.int .i64) w A0 l0.length l0) (hc0 : l0.length ≤ c0) (hr1 : Kd.C (Kd.int .i64) w A1 l1.length l1) (hc1 : l1.length ≤ c1) (h : impl_ShareDrawn.f l0 l1 = some (r1, r2)) :
    Calls Twin.prog 24 #[.slice A0 l0.length c0, .slice A1 l1.length c1] w fun e w' => ∃ v0_ : Value, e = .returned (.tuple #[v0_, .bool r2]) ∧ Kd.R (Kd.int .i64) 3 w' w.heap.size (fun _ => True) v0_ r1 ∧ Below w.heap.size w w' := by
  have h' := Option.some.inj h
  refine (lone24 [] hr0 hr1).mono ?_
  rintro e w' ⟨r, s, rfl, hE⟩
  obtain ⟨hs, hR, _, hB, _⟩ := core_row hE
  rw [h'] at hs hR
  exact ⟨r, by rw [hs], hR _ _ (Nat.le_refl _) fun _ _ => trivial, hB⟩
theorem impl_ShareMake.calls (A0 : Option Addr) (c0 : Nat) (l0 : List Int) (A1 : Option Addr) (c1 : Nat) (l1 : List Int) (r1 : List Int) (r2 : List Int) (r3 : Bool) (w : World) (hr0 : Kd.C (Kd.int .i64) w A0 l0.length l0) (hc0 : l0.length ≤ c0) (hr1 : Kd.C (Kd.int .i64) w A1 l1.length l1) (hc1 : l1.length ≤ c1) (h : impl_ShareMake.f l0 l1 = some (r1, r2, r3)) :
    Calls Twin.prog 20 #[.slice A0 l0.length c0, .slice A1 l1.length c1] w fun e w' => ∃ v0_ v1_ : Value, e = .returned (.tuple #[v0_, v1_, .bool r3]) ∧ Kd.R (Kd.int .i64) 3 w' w.heap.size (fun k_ => some k_ ≠ (v1_ : Value).ownBlock) v0_ r1 ∧ Kd.R (Kd.int .i64) 3 w' w.heap.size (fun k_ => some k_ ≠ (v0_ : Value).ownBlock) v1_ r2 ∧ Below w.heap.size w w' := by
  have h' := Option.some.inj h
  refine (lone20 [] hr0 hr1).mono ?_
  rintro e w' ⟨r, s, t, rfl, hE⟩
  rcases hE with ⟨rfl, rfl, rfl, hE⟩ | ⟨rfl, w1, hE, hE2⟩
  · obtain ⟨hs, _, _, hB, _⟩ := core_row hE
    have ho : okAll l0 l1 = false := by
      cases ho : okAll l0 l1 with
      | false => rfl
      | true => simp [share, ho] at hs
    simp only [ho, Bool.false_eq_true, if_false, Prod.mk.injEq] at h'
    obtain ⟨rfl, rfl, rfl⟩ := h'
    exact ⟨_, _, rfl, Kd.R_nil _ _ _ _ _, Kd.R_nil _ _ _ _ _, hB⟩
  · obtain ⟨hs, hR, ho1, hB, hz⟩ := core_row hE
    obtain ⟨hs2, hR2, ho2, hB2, _⟩ := core_row hE2
    have ho : okAll l0 l1 = true := by
      cases ho : okAll l0 l1 with
      | true => rfl
      | false => simp [share, ho] at hs
    have hz1 := hz ho
    have hne : (w.heap.size + 3 : Nat) ≠ w1.heap.size + 3 := by omega
    rw [ho] at h'
    simp only [if_true, Prod.mk.injEq] at h'
    obtain ⟨rfl, rfl, rfl⟩ := h'
    have e1 : (share 49 l0 l1).1 = both 49 l0 l1 := by simp [share, ho]
    have e2 : (share 50 l0 l1).1 = both 50 l0 l1 := by simp [share, ho]
    rw [e1] at hR
    rw [e2] at hR2
    have hBB : Below w.heap.size w w' := ⟨hB2.os.trans hB.os, hB2.tape.trans hB.tape, hB2.output.trans hB.output, Nat.le_trans hB.size hB2.size, fun b hb => (hB2.block b (Nat.lt_of_lt_of_le hb hB.size)).trans (hB.block b hb)⟩
    refine ⟨r, s, rfl, ?_, ?_, hBB⟩
    · have := hR w.heap.size (fun k_ => some k_ ≠ s.ownBlock ∧ k_ < w1.heap.size) (Nat.le_refl _) fun k hk => by
        rw [ho1 ho] at hk
        cases hk
        exact ⟨by rw [ho2 ho]; simpa using hne, by omega⟩
      exact Kd.R_mono (Kd.R_step this fun k _ hk => hB2.block k hk) fun k hk => hk.1
    · exact hR2 w.heap.size (fun k_ => some k_ ≠ r.ownBlock) (by have := hB.size; omega) fun k hk => by
        rw [ho2 ho] at hk
        cases hk
        rw [ho1 ho]
        simpa using hne.symm
end Go.Proofs.Ytcdnmnipaaooiaa.P
end
