/- The polynomial through drawn values has them; and of another polynomial's values it is that one. No condition. -/
import Derived.Test.YtdamainjflpgpaaThAll
import Derived.Test.YtdamainjflpgpaaPx25
namespace Go.Proofs.Ytdamainjflpgpaa.Pure
open Go.RowKit Go.Proofs.Ytdamainjflpgpaa.P Go.Proofs.Ytdamainjflpgpaa.Num Go.Proofs.YtdamainjflpgpaaW.PrintWords Go.Proofs.YtdamainjflpgpaaW.PrintLast
set_option linter.unusedSimpArgs false
set_option linter.unusedVariables false

theorem through_loop {p q c : List Int} (hp : p.length ≤ 9) (hv : ∀ i : Nat, i < p.length → polyAt q (i : Int) = cof p i) (hq : q.length = p.length) (hc : c.length = p.length) (hthr : polyThrough (tab p.length (fun i => polyAt c (i : Int))) = c) :
    ∀ (d i : Nat), i + d = p.length → Ev (fun k => laws_FnThrough.l0 k p q c (tab i (fun j => polyAt c (j : Int))) (i : Int)) true
  | 0, i, hi => by
    obtain ⟨K, h⟩ := loInts_ev c c (by omega)
    dsimp only at h
    refine ⟨K + 1, fun k hk => ?_⟩
    obtain ⟨k, rfl⟩ : ∃ m, k = m + 1 := ⟨k - 1, by omega⟩
    dsimp only
    rw [laws_FnThrough.l0, if_neg (by omega), if_pos (by omega), iPolyThrough, show i = p.length by omega, hthr]
    simp only [Option.bind_some]
    rw [h k (by omega)]; simp
  | d + 1, i, hi => by
    obtain ⟨K, h⟩ := through_loop hp hv hq hc hthr d (i + 1) (by omega)
    refine ⟨K + 1, fun k hk => ?_⟩
    obtain ⟨k, rfl⟩ : ∃ m, k = m + 1 := ⟨k - 1, by omega⟩
    dsimp only
    rw [laws_FnThrough.l0, if_pos (by omega), iPolyAt]
    simp only [Option.bind_some]
    rw [if_pos (by omega), hv i (by omega), rd_cof, if_pos rfl, iPolyAt]
    simp only [Option.bind_some]
    rw [if_pos (by rw [tab_length]; omega), w64 (by omega)]
    have e : tab i (fun j => polyAt c (j : Int)) ++ [polyAt c (i : Int)] = tab (i + 1) (fun j => polyAt c (j : Int)) := by simp [tab, List.range_succ]
    rw [e]
    exact h k (by omega)
theorem FnThrough : laws_FnThrough.Pure := by
  intro l m h0 _ hb h1 _ _
  unfold laws_FnThrough.f
  by_cases h : (l.length : Int) > 1048576
  · exact ⟨1, by rw [if_pos h]; rfl⟩
  by_cases h' : (m.length : Int) > 1048576
  · exact ⟨1, by rw [if_neg h, decide_eq_true h']; rfl⟩
  obtain ⟨p, ⟨K1, e1⟩, hp⟩ := drawPolyThrough_ev (bytes_of hb)
  have hr := polyThrough_length p
  obtain ⟨r, er⟩ : ∃ r, polyThrough p = r := ⟨_, rfl⟩
  rw [er] at hr
  obtain ⟨K2, e2⟩ := sPolyThrough p (by omega)
  obtain ⟨K3, e3⟩ := loInts_ev r r (by omega)
  obtain ⟨K4, e4⟩ := sPolyOk p (by omega)
  dsimp only at e1 e2 e3 e4
  rw [er] at e2
  cases hk : polyOk p
  · rw [hk] at e4
    refine ⟨K1 + K2 + K3 + K4 + 3, ?_⟩
    rw [if_neg h, decide_eq_false h', show K1 + K2 + K3 + K4 + 3 = (K1 + K2 + K3 + K4 + 2) + 1 by omega, laws_FnThrough.j0, if_neg (by simp), e1 _ (by omega)]
    simp only [Option.bind_some]
    rw [iPolyThrough, er]
    simp only [Option.bind_some]
    rw [e2 _ (by omega)]
    simp only [Option.bind_some]
    rw [e3 _ (by omega)]
    simp only [Option.bind_some, decide_true, if_true]
    rw [e4 _ (by omega)]
    simp only [Option.bind_some, Bool.not_false]
    rw [show K1 + K2 + K3 + K4 + 2 = (K1 + K2 + K3 + K4 + 1) + 1 by omega, laws_FnThrough.j1, if_pos rfl, e2 _ (by omega)]
    simp only [Option.bind_some]
    rw [e3 _ (by omega)]; simp
  · rw [hk] at e4
    obtain ⟨o1, o2⟩ := polyOk_iff.1 hk
    obtain ⟨s1, s2, s3⟩ := lagr_spec o1 o2
    have er' : lagr p = r := by rw [← er, polyThrough, hk]; rfl
    rw [er'] at s1 s2 s3
    have hrk : polyOk r = true := polyOk_iff.2 ⟨s2, by omega⟩
    have hv : ∀ i : Nat, i < p.length → polyAt r (i : Int) = cof p i := fun i hi => by rw [polyAt_ok hrk (okF_iff.2 (by omega)), s3 i hi]
    obtain ⟨c, ⟨K5, e5⟩, hcl, hcr⟩ := loSome_ev (m.length : Int) (by omega) p.length (by omega)
    have hcok : allOk c = true := allOk_iff.2 fun x hx => okF_iff.2 (hcr x hx)
    have hck : polyOk c = true := polyOk_iff.2 ⟨hcok, by omega⟩
    have htl : (tab p.length (fun i => polyAt c (i : Int))).length = p.length := tab_length _ _
    have htok : allOk (tab p.length (fun i => polyAt c (i : Int))) = true := allOk_iff.2 fun x hx => by
      simp only [tab, List.mem_map] at hx
      obtain ⟨j, _, rfl⟩ := hx
      exact polyAt_field _ _
    have htk : polyOk (tab p.length (fun i => polyAt c (i : Int))) = true := polyOk_iff.2 ⟨htok, by omega⟩
    have hthr : polyThrough (tab p.length (fun i => polyAt c (i : Int))) = c := by
      rw [polyThrough, htk]
      simp only [if_true]
      obtain ⟨t1, t2, t3⟩ := lagr_spec htok (by omega)
      refine same_of_values (n := p.length) (by omega) (by omega) hcl t2 hcok fun i hi => ?_
      rw [t3 i (by omega), tab_cof hi, polyAt_ok hck (okF_iff.2 (by omega))]
    obtain ⟨K6, e6⟩ := through_loop hp hv s1 hcl hthr p.length 0 (by omega)
    dsimp only at e5 e6
    refine ⟨K1 + K2 + K3 + K4 + K5 + K6 + 3, ?_⟩
    rw [if_neg h, decide_eq_false h', show K1 + K2 + K3 + K4 + K5 + K6 + 3 = (K1 + K2 + K3 + K4 + K5 + K6 + 2) + 1 by omega, laws_FnThrough.j0, if_neg (by simp), e1 _ (by omega)]
    simp only [Option.bind_some]
    rw [iPolyThrough, er]
    simp only [Option.bind_some]
    rw [e2 _ (by omega)]
    simp only [Option.bind_some]
    rw [e3 _ (by omega)]
    simp only [Option.bind_some, decide_true, if_true]
    rw [e4 _ (by omega)]
    simp only [Option.bind_some, Bool.not_true]
    rw [show K1 + K2 + K3 + K4 + K5 + K6 + 2 = (K1 + K2 + K3 + K4 + K5 + K6 + 1) + 1 by omega, laws_FnThrough.j1, if_neg (by simp), e5 _ (by omega)]
    simp only [Option.bind_some]
    exact e6 _ (by omega)

end Go.Proofs.Ytdamainjflpgpaa.Pure
