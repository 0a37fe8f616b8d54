/- PolyThrough, of the program and of the reference: the one polynomial of as many numbers as there are values, with these values; none, where they are no polynomial's. Conditions: lists of fewer than 2^40 numbers. -/
import Derived.Test.YtdamainjflpgpaaNewton
import Derived.Test.YtdamainjflpgpaaLagr
import Derived.Test.YtdamainjflpgpaaPolyOk
import Derived.Test.YtdamainjflpgpaaPx11
namespace Go.Proofs.Ytdamainjflpgpaa.P
open Go.RowKit Go.Proofs.Ytdamainjflpgpaa.Num Go.Proofs.YtdamainjflpgpaaW.PrintWords

theorem newton_lagr {l : List Int} (hl : allOk l = true) (hn : l.length ≤ 9) : newton l = lagr l := by
  obtain ⟨a1, a2, a3⟩ := newton_spec hl hn
  obtain ⟨b1, b2, b3⟩ := lagr_spec hl hn
  exact same_of_values (n := l.length) (by omega) a1 b1 a2 b2 fun i hi => by rw [a3 i hi, b3 i hi]
def polyThrough (l : List Int) : List Int := if polyOk l then lagr l else []
theorem polyThrough_length (l : List Int) : (polyThrough l).length ≤ 9 := by
  unfold polyThrough
  split
  · rename_i h
    obtain ⟨h1, h2⟩ := polyOk_iff.1 h
    rw [(lagr_spec h1 h2).1]; exact h2
  · simp
theorem iPolyThrough (l : List Int) : impl_PolyThrough.f l = some (polyThrough l) := by
  unfold impl_PolyThrough.f polyThrough
  rw [iPolyOk]
  cases h : polyOk l
  · rfl
  · obtain ⟨h1, h2⟩ := polyOk_iff.1 h
    simp only [Option.bind_some, if_true]
    rw [through_ev h1 h2, newton_lagr h1 h2]; rfl
theorem sPolyThrough (l : List Int) (hm : l.length < 1099511627776) : Ev (fun k => spec_PolyThrough.f k l) (polyThrough l) := by
  obtain ⟨K, h⟩ := sPolyOk l hm
  dsimp only at h
  unfold polyThrough
  cases hp : polyOk l
  · exact ⟨K, fun k hk => by dsimp only; unfold spec_PolyThrough.f; rw [h k hk, hp]; rfl⟩
  · obtain ⟨h1, h2⟩ := polyOk_iff.1 hp
    obtain ⟨K2, h3⟩ := l2Through_ev h1 h2
    dsimp only at h3
    exact ⟨K + K2, fun k hk => by dsimp only; unfold spec_PolyThrough.f; rw [h k (by omega), hp]; simp only [Option.bind_some, if_true]; rw [h3 k (by omega)]; rfl⟩

end Go.Proofs.Ytdamainjflpgpaa.P
