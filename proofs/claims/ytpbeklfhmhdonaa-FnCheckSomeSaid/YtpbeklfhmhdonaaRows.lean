/-
  No cell of these rows narrows 'for every input' (looked for: loops, veiled, ifaces, maps, wideKeys, modest, calm, conditions, laid).
  DERIVED. THE GIVEN ROWS OF THIS SEAT. 5 by the template 'for every input the law returns true; each argument reads behind the call as it read before'; 0 by the template 'total and deterministic' (their statements: YtpbeklfhmhdonaaTotals.lean).
  GIVEN WITH THE SEED: the statements are not yours to turn. If you find one false, say at which input.
  Laid BY PROGRAM, IN A SANDBOX (cutbox-rows.mjs): the forced cells as the released guide's own fill.sh prints them over the translation 08f8510fc3b0c861… (all of the seat's roots in one cut). By AI agents, Wed Nov 11 2026. No macro, syntax, notation, axiom, sorry.
-/
import Derived.Test.YtpbeklfhmhdonaaChecked
import GoSem.Claim
import GoSem.ClaimJoined
import GoSem.ClaimMapViews
import Derived.JoinedTies
import Derived.KernelRfl
namespace Go.Proofs.Ytpbeklfhmhdonaa
/- THE CELL 'sum', in the pinned program and in every row, IS THE sha256 OF THE DUMP (.gsa) THAT YtpbeklfhmhdonaaProg.lean LOADS. Nothing in Lean hashes anything: it is a label: what it is worth is what the hold of that sum in a sandbox is worth. -/
noncomputable def Try.pinned : Pinned := { name := "ytpbeklfhmhdonaa", sum := "08f8510fc3b0c8612bc377db2d1209caf7b2903055c1dd452d4af59f0d9d1820", checked := Try.checked }
namespace Rows
def none {H : Type} : Left H := { results := [], args := [] }

/-- 'laws.FnExactTypeCheck': WHATEVER THE INPUT: true; the input reads as it did. -/
def fnExactTypeCheckSpec : ChangeSpec := { name := "fnExactTypeCheck", fn := fun _ => fun
  | [d1, d2, d3] => { results := [.lit (.bool true)], args := [d1, d2, d3] }
  | _ => none }
def fnExactTypeCheckRow : OpenClaim := { program := "ytpbeklfhmhdonaa", sum := "08f8510fc3b0c8612bc377db2d1209caf7b2903055c1dd452d4af59f0d9d1820", func := "loop.example/scrutineer/laws.FnExactTypeCheck", spec := "fnExactTypeCheck", unfollowed := true, recurses := true, apart := false }
def FnExactTypeCheckSaid : Prop := fnExactTypeCheckRow.holds Try.pinned (OpenSpec.ofChange fnExactTypeCheckSpec)

/-- ITS FALSE NEIGHBOUR: 'it returns false'. Refute it at one input. -/
def fnExactTypeCheckWrong : ChangeSpec := { name := "fnExactTypeCheck", fn := fun _ => fun
  | [d1, d2, d3] => { results := [.lit (.bool false)], args := [d1, d2, d3] }
  | _ => none }
def FnExactTypeCheckWrongFalsely : Prop := fnExactTypeCheckRow.holds Try.pinned (OpenSpec.ofChange fnExactTypeCheckWrong)

/-- 'laws.FnTypeOk': WHATEVER THE INPUT: true; the input reads as it did. -/
def fnTypeOkSpec : ChangeSpec := { name := "fnTypeOk", fn := fun _ => fun
  | [d] => { results := [.lit (.bool true)], args := [d] }
  | _ => none }
def fnTypeOkRow : OpenClaim := { program := "ytpbeklfhmhdonaa", sum := "08f8510fc3b0c8612bc377db2d1209caf7b2903055c1dd452d4af59f0d9d1820", func := "loop.example/scrutineer/laws.FnTypeOk", spec := "fnTypeOk", unfollowed := true, recurses := true, apart := false }
def FnTypeOkSaid : Prop := fnTypeOkRow.holds Try.pinned (OpenSpec.ofChange fnTypeOkSpec)

/-- ITS FALSE NEIGHBOUR: 'it returns false'. Refute it at one input. -/
def fnTypeOkWrong : ChangeSpec := { name := "fnTypeOk", fn := fun _ => fun
  | [d] => { results := [.lit (.bool false)], args := [d] }
  | _ => none }
def FnTypeOkWrongFalsely : Prop := fnTypeOkRow.holds Try.pinned (OpenSpec.ofChange fnTypeOkWrong)

/-- 'laws.FnCheckEach': WHATEVER THE INPUT: true; the input reads as it did. -/
def fnCheckEachSpec : ChangeSpec := { name := "fnCheckEach", fn := fun _ => fun
  | [d1, d2] => { results := [.lit (.bool true)], args := [d1, d2] }
  | _ => none }
def fnCheckEachRow : OpenClaim := { program := "ytpbeklfhmhdonaa", sum := "08f8510fc3b0c8612bc377db2d1209caf7b2903055c1dd452d4af59f0d9d1820", func := "loop.example/scrutineer/laws.FnCheckEach", spec := "fnCheckEach", unfollowed := true, recurses := true, apart := false }
def FnCheckEachSaid : Prop := fnCheckEachRow.holds Try.pinned (OpenSpec.ofChange fnCheckEachSpec)

/-- ITS FALSE NEIGHBOUR: 'it returns false'. Refute it at one input. -/
def fnCheckEachWrong : ChangeSpec := { name := "fnCheckEach", fn := fun _ => fun
  | [d1, d2] => { results := [.lit (.bool false)], args := [d1, d2] }
  | _ => none }
def FnCheckEachWrongFalsely : Prop := fnCheckEachRow.holds Try.pinned (OpenSpec.ofChange fnCheckEachWrong)

/-- 'laws.FnCheckNone': WHATEVER THE INPUT: true; the input reads as it did. -/
def fnCheckNoneSpec : ChangeSpec := { name := "fnCheckNone", fn := fun _ => fun
  | [d] => { results := [.lit (.bool true)], args := [d] }
  | _ => none }
def fnCheckNoneRow : OpenClaim := { program := "ytpbeklfhmhdonaa", sum := "08f8510fc3b0c8612bc377db2d1209caf7b2903055c1dd452d4af59f0d9d1820", func := "loop.example/scrutineer/laws.FnCheckNone", spec := "fnCheckNone", unfollowed := true, recurses := true, apart := false }
def FnCheckNoneSaid : Prop := fnCheckNoneRow.holds Try.pinned (OpenSpec.ofChange fnCheckNoneSpec)

/-- ITS FALSE NEIGHBOUR: 'it returns false'. Refute it at one input. -/
def fnCheckNoneWrong : ChangeSpec := { name := "fnCheckNone", fn := fun _ => fun
  | [d] => { results := [.lit (.bool false)], args := [d] }
  | _ => none }
def FnCheckNoneWrongFalsely : Prop := fnCheckNoneRow.holds Try.pinned (OpenSpec.ofChange fnCheckNoneWrong)

/-- 'laws.FnCheckSome': WHATEVER THE INPUT: true; the input reads as it did. -/
def fnCheckSomeSpec : ChangeSpec := { name := "fnCheckSome", fn := fun _ => fun
  | [d] => { results := [.lit (.bool true)], args := [d] }
  | _ => none }
def fnCheckSomeRow : OpenClaim := { program := "ytpbeklfhmhdonaa", sum := "08f8510fc3b0c8612bc377db2d1209caf7b2903055c1dd452d4af59f0d9d1820", func := "loop.example/scrutineer/laws.FnCheckSome", spec := "fnCheckSome", unfollowed := true, recurses := true, apart := false }
def FnCheckSomeSaid : Prop := fnCheckSomeRow.holds Try.pinned (OpenSpec.ofChange fnCheckSomeSpec)

/-- ITS FALSE NEIGHBOUR: 'it returns false'. Refute it at one input. -/
def fnCheckSomeWrong : ChangeSpec := { name := "fnCheckSome", fn := fun _ => fun
  | [d] => { results := [.lit (.bool false)], args := [d] }
  | _ => none }
def FnCheckSomeWrongFalsely : Prop := fnCheckSomeRow.holds Try.pinned (OpenSpec.ofChange fnCheckSomeWrong)

/- THE SECOND FORM. 'bulk': how many values and letters a reading holds, each counted each time it is reached (what is shared counts as often as it is met; a slice's spare places count too). A statement '..UptoSaid' is the law's where the arguments, and the package variables that the reading takes, are together of bulk at most 1048576: NARROWER than '..Said'. Prove '..Said' where nothing that the law and all that it calls make is longer than what came in: it says more and counts as full. Else prove '..UptoSaid'. A law counts once. -/
mutual
def uptoBulk {H : Type} : DataW H → Nat
  | .lit (.string bytes) => bytes.length + 1
  | .lit _ => 1
  | .nil => 1
  | .ptr d => uptoBulk d + 1
  | .slice elems spare => uptoBulkAll elems + uptoBulkAll spare + 1
  | .agg parts => uptoBulkAll parts + 1
  | .iface _ d => uptoBulk d + 1
  | .map entries => uptoBulkEntries entries + 1
  | .held _ => 1
def uptoBulkAll {H : Type} : List (DataW H) → Nat
  | [] => 0
  | d :: r => uptoBulk d + uptoBulkAll r
def uptoBulkEntries {H : Type} : List (Lit × DataW H) → Nat
  | [] => 0
  | x :: r => uptoBulkEntry x + uptoBulkEntries r
def uptoBulkEntry {H : Type} : Lit × DataW H → Nat
  | (.string bytes, d) => bytes.length + uptoBulk d + 1
  | (_, d) => uptoBulk d + 1
 end
def uptoSmall : (H : Type) → List (DataW H) → Bool := fun _ ds => decide (uptoBulkAll ds ≤ 1048576)
def OpenSpec.upto (s : _root_.Go.ChangeSpec) : _root_.Go.OpenSpec := { _root_.Go.OpenSpec.ofChange s with cond := some uptoSmall }

/-- 'laws.FnExactTypeCheck', WHERE WHAT IT READS IS OF BULK AT MOST 1048576: true; the input reads as it did. -/
def fnExactTypeCheckUptoRow : OpenClaim := { program := "ytpbeklfhmhdonaa", sum := "08f8510fc3b0c8612bc377db2d1209caf7b2903055c1dd452d4af59f0d9d1820", func := "loop.example/scrutineer/laws.FnExactTypeCheck", spec := "fnExactTypeCheck", unfollowed := true, recurses := true, apart := false, narrowed := true }
def FnExactTypeCheckUptoSaid : Prop := fnExactTypeCheckUptoRow.holds Try.pinned (OpenSpec.upto fnExactTypeCheckSpec)

/-- 'laws.FnTypeOk', WHERE WHAT IT READS IS OF BULK AT MOST 1048576: true; the input reads as it did. -/
def fnTypeOkUptoRow : OpenClaim := { program := "ytpbeklfhmhdonaa", sum := "08f8510fc3b0c8612bc377db2d1209caf7b2903055c1dd452d4af59f0d9d1820", func := "loop.example/scrutineer/laws.FnTypeOk", spec := "fnTypeOk", unfollowed := true, recurses := true, apart := false, narrowed := true }
def FnTypeOkUptoSaid : Prop := fnTypeOkUptoRow.holds Try.pinned (OpenSpec.upto fnTypeOkSpec)

/-- 'laws.FnCheckEach', WHERE WHAT IT READS IS OF BULK AT MOST 1048576: true; the input reads as it did. -/
def fnCheckEachUptoRow : OpenClaim := { program := "ytpbeklfhmhdonaa", sum := "08f8510fc3b0c8612bc377db2d1209caf7b2903055c1dd452d4af59f0d9d1820", func := "loop.example/scrutineer/laws.FnCheckEach", spec := "fnCheckEach", unfollowed := true, recurses := true, apart := false, narrowed := true }
def FnCheckEachUptoSaid : Prop := fnCheckEachUptoRow.holds Try.pinned (OpenSpec.upto fnCheckEachSpec)

/-- 'laws.FnCheckNone', WHERE WHAT IT READS IS OF BULK AT MOST 1048576: true; the input reads as it did. -/
def fnCheckNoneUptoRow : OpenClaim := { program := "ytpbeklfhmhdonaa", sum := "08f8510fc3b0c8612bc377db2d1209caf7b2903055c1dd452d4af59f0d9d1820", func := "loop.example/scrutineer/laws.FnCheckNone", spec := "fnCheckNone", unfollowed := true, recurses := true, apart := false, narrowed := true }
def FnCheckNoneUptoSaid : Prop := fnCheckNoneUptoRow.holds Try.pinned (OpenSpec.upto fnCheckNoneSpec)

/-- 'laws.FnCheckSome', WHERE WHAT IT READS IS OF BULK AT MOST 1048576: true; the input reads as it did. -/
def fnCheckSomeUptoRow : OpenClaim := { program := "ytpbeklfhmhdonaa", sum := "08f8510fc3b0c8612bc377db2d1209caf7b2903055c1dd452d4af59f0d9d1820", func := "loop.example/scrutineer/laws.FnCheckSome", spec := "fnCheckSome", unfollowed := true, recurses := true, apart := false, narrowed := true }
def FnCheckSomeUptoSaid : Prop := fnCheckSomeUptoRow.holds Try.pinned (OpenSpec.upto fnCheckSomeSpec)

end Rows
end Go.Proofs.Ytpbeklfhmhdonaa
