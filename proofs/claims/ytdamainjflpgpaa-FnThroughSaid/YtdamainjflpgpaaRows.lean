/-
  No cell of these rows narrows 'for every input' (looked for: loops, veiled, ifaces, maps, wideKeys, modest, calm, conditions, laid).
  DERIVED. THE GIVEN ROWS OF THIS SEAT. 12 by the template 'for every input the law returns true; each argument reads behind the call as it read before'; 0 by the template 'total and deterministic' (their statements: YtdamainjflpgpaaTotals.lean).
  GIVEN WITH THE SEED: the statements are not yours to turn. If you find one false, say at which input.
  Laid BY PROGRAM, IN A SANDBOX (cutbox-rows.mjs): the forced cells as the released guide's own fill.sh prints them over the translation d21a2fbc9991a9b4… (all of the seat's roots in one cut). By AI agents, Wed Nov 11 2026. No macro, syntax, notation, axiom, sorry.
-/
import Derived.Test.YtdamainjflpgpaaChecked
import GoSem.Claim
import GoSem.ClaimJoined
import GoSem.ClaimMapViews
import Derived.JoinedTies
import Derived.KernelRfl
namespace Go.Proofs.Ytdamainjflpgpaa
/- THE CELL 'sum', in the pinned program and in every row, IS THE sha256 OF THE DUMP (.gsa) THAT YtdamainjflpgpaaProg.lean LOADS. Nothing in Lean hashes anything: it is a label: what it is worth is what the hold of that sum in a sandbox is worth. -/
noncomputable def Try.pinned : Pinned := { name := "ytdamainjflpgpaa", sum := "d21a2fbc9991a9b49bba7d8a96f98e30a925a3de24580a9b0893ca3fb1bb9588", checked := Try.checked }
namespace Rows
def none {H : Type} : Left H := { results := [], args := [] }

/-- 'laws.FnExactPolyOk': WHATEVER THE INPUT: true; the input reads as it did. -/
def fnExactPolyOkSpec : ChangeSpec := { name := "fnExactPolyOk", fn := fun _ => fun
  | [d] => { results := [.lit (.bool true)], args := [d] }
  | _ => none }
def fnExactPolyOkRow : OpenClaim := { program := "ytdamainjflpgpaa", sum := "d21a2fbc9991a9b49bba7d8a96f98e30a925a3de24580a9b0893ca3fb1bb9588", func := "loop.example/scrutineer/laws.FnExactPolyOk", spec := "fnExactPolyOk", unfollowed := true, recurses := true, apart := false }
def FnExactPolyOkSaid : Prop := fnExactPolyOkRow.holds Try.pinned (OpenSpec.ofChange fnExactPolyOkSpec)

/-- ITS FALSE NEIGHBOUR: 'it returns false'. Refute it at one input. -/
def fnExactPolyOkWrong : ChangeSpec := { name := "fnExactPolyOk", fn := fun _ => fun
  | [d] => { results := [.lit (.bool false)], args := [d] }
  | _ => none }
def FnExactPolyOkWrongFalsely : Prop := fnExactPolyOkRow.holds Try.pinned (OpenSpec.ofChange fnExactPolyOkWrong)

/-- 'laws.FnExactPolyAt': WHATEVER THE INPUT: true; the input reads as it did. -/
def fnExactPolyAtSpec : ChangeSpec := { name := "fnExactPolyAt", fn := fun _ => fun
  | [d1, d2] => { results := [.lit (.bool true)], args := [d1, d2] }
  | _ => none }
def fnExactPolyAtRow : OpenClaim := { program := "ytdamainjflpgpaa", sum := "d21a2fbc9991a9b49bba7d8a96f98e30a925a3de24580a9b0893ca3fb1bb9588", func := "loop.example/scrutineer/laws.FnExactPolyAt", spec := "fnExactPolyAt", unfollowed := true, recurses := true, apart := false }
def FnExactPolyAtSaid : Prop := fnExactPolyAtRow.holds Try.pinned (OpenSpec.ofChange fnExactPolyAtSpec)

/-- ITS FALSE NEIGHBOUR: 'it returns false'. Refute it at one input. -/
def fnExactPolyAtWrong : ChangeSpec := { name := "fnExactPolyAt", fn := fun _ => fun
  | [d1, d2] => { results := [.lit (.bool false)], args := [d1, d2] }
  | _ => none }
def FnExactPolyAtWrongFalsely : Prop := fnExactPolyAtRow.holds Try.pinned (OpenSpec.ofChange fnExactPolyAtWrong)

/-- 'laws.FnExactPolyMul': WHATEVER THE INPUT: true; the input reads as it did. -/
def fnExactPolyMulSpec : ChangeSpec := { name := "fnExactPolyMul", fn := fun _ => fun
  | [d1, d2] => { results := [.lit (.bool true)], args := [d1, d2] }
  | _ => none }
def fnExactPolyMulRow : OpenClaim := { program := "ytdamainjflpgpaa", sum := "d21a2fbc9991a9b49bba7d8a96f98e30a925a3de24580a9b0893ca3fb1bb9588", func := "loop.example/scrutineer/laws.FnExactPolyMul", spec := "fnExactPolyMul", unfollowed := true, recurses := true, apart := false }
def FnExactPolyMulSaid : Prop := fnExactPolyMulRow.holds Try.pinned (OpenSpec.ofChange fnExactPolyMulSpec)

/-- ITS FALSE NEIGHBOUR: 'it returns false'. Refute it at one input. -/
def fnExactPolyMulWrong : ChangeSpec := { name := "fnExactPolyMul", fn := fun _ => fun
  | [d1, d2] => { results := [.lit (.bool false)], args := [d1, d2] }
  | _ => none }
def FnExactPolyMulWrongFalsely : Prop := fnExactPolyMulRow.holds Try.pinned (OpenSpec.ofChange fnExactPolyMulWrong)

/-- 'laws.FnExactPolyThrough': WHATEVER THE INPUT: true; the input reads as it did. -/
def fnExactPolyThroughSpec : ChangeSpec := { name := "fnExactPolyThrough", fn := fun _ => fun
  | [d] => { results := [.lit (.bool true)], args := [d] }
  | _ => none }
def fnExactPolyThroughRow : OpenClaim := { program := "ytdamainjflpgpaa", sum := "d21a2fbc9991a9b49bba7d8a96f98e30a925a3de24580a9b0893ca3fb1bb9588", func := "loop.example/scrutineer/laws.FnExactPolyThrough", spec := "fnExactPolyThrough", unfollowed := true, recurses := true, apart := false }
def FnExactPolyThroughSaid : Prop := fnExactPolyThroughRow.holds Try.pinned (OpenSpec.ofChange fnExactPolyThroughSpec)

/-- ITS FALSE NEIGHBOUR: 'it returns false'. Refute it at one input. -/
def fnExactPolyThroughWrong : ChangeSpec := { name := "fnExactPolyThrough", fn := fun _ => fun
  | [d] => { results := [.lit (.bool false)], args := [d] }
  | _ => none }
def FnExactPolyThroughWrongFalsely : Prop := fnExactPolyThroughRow.holds Try.pinned (OpenSpec.ofChange fnExactPolyThroughWrong)

/-- 'laws.FnPolyForm': WHATEVER THE INPUT: true; the input reads as it did. -/
def fnPolyFormSpec : ChangeSpec := { name := "fnPolyForm", fn := fun _ => fun
  | [d1, d2] => { results := [.lit (.bool true)], args := [d1, d2] }
  | _ => none }
def fnPolyFormRow : OpenClaim := { program := "ytdamainjflpgpaa", sum := "d21a2fbc9991a9b49bba7d8a96f98e30a925a3de24580a9b0893ca3fb1bb9588", func := "loop.example/scrutineer/laws.FnPolyForm", spec := "fnPolyForm", unfollowed := true, recurses := true, apart := false }
def FnPolyFormSaid : Prop := fnPolyFormRow.holds Try.pinned (OpenSpec.ofChange fnPolyFormSpec)

/-- ITS FALSE NEIGHBOUR: 'it returns false'. Refute it at one input. -/
def fnPolyFormWrong : ChangeSpec := { name := "fnPolyForm", fn := fun _ => fun
  | [d1, d2] => { results := [.lit (.bool false)], args := [d1, d2] }
  | _ => none }
def FnPolyFormWrongFalsely : Prop := fnPolyFormRow.holds Try.pinned (OpenSpec.ofChange fnPolyFormWrong)

/-- 'laws.FnPolyRoots': WHATEVER THE INPUT: true; the input reads as it did. -/
def fnPolyRootsSpec : ChangeSpec := { name := "fnPolyRoots", fn := fun _ => fun
  | [d] => { results := [.lit (.bool true)], args := [d] }
  | _ => none }
def fnPolyRootsRow : OpenClaim := { program := "ytdamainjflpgpaa", sum := "d21a2fbc9991a9b49bba7d8a96f98e30a925a3de24580a9b0893ca3fb1bb9588", func := "loop.example/scrutineer/laws.FnPolyRoots", spec := "fnPolyRoots", unfollowed := true, recurses := true, apart := false }
def FnPolyRootsSaid : Prop := fnPolyRootsRow.holds Try.pinned (OpenSpec.ofChange fnPolyRootsSpec)

/-- ITS FALSE NEIGHBOUR: 'it returns false'. Refute it at one input. -/
def fnPolyRootsWrong : ChangeSpec := { name := "fnPolyRoots", fn := fun _ => fun
  | [d] => { results := [.lit (.bool false)], args := [d] }
  | _ => none }
def FnPolyRootsWrongFalsely : Prop := fnPolyRootsRow.holds Try.pinned (OpenSpec.ofChange fnPolyRootsWrong)

/-- 'laws.FnMulOne': WHATEVER THE INPUT: true; the input reads as it did. -/
def fnMulOneSpec : ChangeSpec := { name := "fnMulOne", fn := fun _ => fun
  | [d] => { results := [.lit (.bool true)], args := [d] }
  | _ => none }
def fnMulOneRow : OpenClaim := { program := "ytdamainjflpgpaa", sum := "d21a2fbc9991a9b49bba7d8a96f98e30a925a3de24580a9b0893ca3fb1bb9588", func := "loop.example/scrutineer/laws.FnMulOne", spec := "fnMulOne", unfollowed := true, recurses := true, apart := false }
def FnMulOneSaid : Prop := fnMulOneRow.holds Try.pinned (OpenSpec.ofChange fnMulOneSpec)

/-- ITS FALSE NEIGHBOUR: 'it returns false'. Refute it at one input. -/
def fnMulOneWrong : ChangeSpec := { name := "fnMulOne", fn := fun _ => fun
  | [d] => { results := [.lit (.bool false)], args := [d] }
  | _ => none }
def FnMulOneWrongFalsely : Prop := fnMulOneRow.holds Try.pinned (OpenSpec.ofChange fnMulOneWrong)

/-- 'laws.FnPolyAt': WHATEVER THE INPUT: true; the input reads as it did. -/
def fnPolyAtSpec : ChangeSpec := { name := "fnPolyAt", fn := fun _ => fun
  | [d] => { results := [.lit (.bool true)], args := [d] }
  | _ => none }
def fnPolyAtRow : OpenClaim := { program := "ytdamainjflpgpaa", sum := "d21a2fbc9991a9b49bba7d8a96f98e30a925a3de24580a9b0893ca3fb1bb9588", func := "loop.example/scrutineer/laws.FnPolyAt", spec := "fnPolyAt", unfollowed := true, recurses := true, apart := false }
def FnPolyAtSaid : Prop := fnPolyAtRow.holds Try.pinned (OpenSpec.ofChange fnPolyAtSpec)

/-- ITS FALSE NEIGHBOUR: 'it returns false'. Refute it at one input. -/
def fnPolyAtWrong : ChangeSpec := { name := "fnPolyAt", fn := fun _ => fun
  | [d] => { results := [.lit (.bool false)], args := [d] }
  | _ => none }
def FnPolyAtWrongFalsely : Prop := fnPolyAtRow.holds Try.pinned (OpenSpec.ofChange fnPolyAtWrong)

/-- 'laws.FnMulThree': WHATEVER THE INPUT: true; the input reads as it did. -/
def fnMulThreeSpec : ChangeSpec := { name := "fnMulThree", fn := fun _ => fun
  | [d1, d2] => { results := [.lit (.bool true)], args := [d1, d2] }
  | _ => none }
def fnMulThreeRow : OpenClaim := { program := "ytdamainjflpgpaa", sum := "d21a2fbc9991a9b49bba7d8a96f98e30a925a3de24580a9b0893ca3fb1bb9588", func := "loop.example/scrutineer/laws.FnMulThree", spec := "fnMulThree", unfollowed := true, recurses := true, apart := false }
def FnMulThreeSaid : Prop := fnMulThreeRow.holds Try.pinned (OpenSpec.ofChange fnMulThreeSpec)

/-- ITS FALSE NEIGHBOUR: 'it returns false'. Refute it at one input. -/
def fnMulThreeWrong : ChangeSpec := { name := "fnMulThree", fn := fun _ => fun
  | [d1, d2] => { results := [.lit (.bool false)], args := [d1, d2] }
  | _ => none }
def FnMulThreeWrongFalsely : Prop := fnMulThreeRow.holds Try.pinned (OpenSpec.ofChange fnMulThreeWrong)

/-- 'laws.FnPolyMul': WHATEVER THE INPUT: true; the input reads as it did. -/
def fnPolyMulSpec : ChangeSpec := { name := "fnPolyMul", fn := fun _ => fun
  | [d1, d2] => { results := [.lit (.bool true)], args := [d1, d2] }
  | _ => none }
def fnPolyMulRow : OpenClaim := { program := "ytdamainjflpgpaa", sum := "d21a2fbc9991a9b49bba7d8a96f98e30a925a3de24580a9b0893ca3fb1bb9588", func := "loop.example/scrutineer/laws.FnPolyMul", spec := "fnPolyMul", unfollowed := true, recurses := true, apart := false }
def FnPolyMulSaid : Prop := fnPolyMulRow.holds Try.pinned (OpenSpec.ofChange fnPolyMulSpec)

/-- ITS FALSE NEIGHBOUR: 'it returns false'. Refute it at one input. -/
def fnPolyMulWrong : ChangeSpec := { name := "fnPolyMul", fn := fun _ => fun
  | [d1, d2] => { results := [.lit (.bool false)], args := [d1, d2] }
  | _ => none }
def FnPolyMulWrongFalsely : Prop := fnPolyMulRow.holds Try.pinned (OpenSpec.ofChange fnPolyMulWrong)

/-- 'laws.FnThrough': WHATEVER THE INPUT: true; the input reads as it did. -/
def fnThroughSpec : ChangeSpec := { name := "fnThrough", fn := fun _ => fun
  | [d1, d2] => { results := [.lit (.bool true)], args := [d1, d2] }
  | _ => none }
def fnThroughRow : OpenClaim := { program := "ytdamainjflpgpaa", sum := "d21a2fbc9991a9b49bba7d8a96f98e30a925a3de24580a9b0893ca3fb1bb9588", func := "loop.example/scrutineer/laws.FnThrough", spec := "fnThrough", unfollowed := true, recurses := true, apart := false }
def FnThroughSaid : Prop := fnThroughRow.holds Try.pinned (OpenSpec.ofChange fnThroughSpec)

/-- ITS FALSE NEIGHBOUR: 'it returns false'. Refute it at one input. -/
def fnThroughWrong : ChangeSpec := { name := "fnThrough", fn := fun _ => fun
  | [d1, d2] => { results := [.lit (.bool false)], args := [d1, d2] }
  | _ => none }
def FnThroughWrongFalsely : Prop := fnThroughRow.holds Try.pinned (OpenSpec.ofChange fnThroughWrong)

/-- 'laws.FnExactShareOk': WHATEVER THE INPUT: true; the input reads as it did. -/
def fnExactShareOkSpec : ChangeSpec := { name := "fnExactShareOk", fn := fun _ => fun
  | [d] => { results := [.lit (.bool true)], args := [d] }
  | _ => none }
def fnExactShareOkRow : OpenClaim := { program := "ytdamainjflpgpaa", sum := "d21a2fbc9991a9b49bba7d8a96f98e30a925a3de24580a9b0893ca3fb1bb9588", func := "loop.example/scrutineer/laws.FnExactShareOk", spec := "fnExactShareOk", unfollowed := true, recurses := true, apart := false }
def FnExactShareOkSaid : Prop := fnExactShareOkRow.holds Try.pinned (OpenSpec.ofChange fnExactShareOkSpec)

/-- ITS FALSE NEIGHBOUR: 'it returns false'. Refute it at one input. -/
def fnExactShareOkWrong : ChangeSpec := { name := "fnExactShareOk", fn := fun _ => fun
  | [d] => { results := [.lit (.bool false)], args := [d] }
  | _ => none }
def FnExactShareOkWrongFalsely : Prop := fnExactShareOkRow.holds Try.pinned (OpenSpec.ofChange fnExactShareOkWrong)

/- THE SECOND FORM. 'bulk': how many values and letters a reading holds, each counted each time it is reached (what is shared counts as often as it is met; a slice's spare places count too). A statement '..UptoSaid' is the law's where the arguments, and the package variables that the reading takes, are together of bulk at most 1048576: NARROWER than '..Said'. Prove '..Said' where nothing that the law and all that it calls make is longer than what came in: it says more and counts as full. Else prove '..UptoSaid'. A law counts once. -/
mutual
def uptoBulk {H : Type} : DataW H → Nat
  | .lit (.string bytes) => bytes.length + 1
  | .lit _ => 1
  | .nil => 1
  | .ptr d => uptoBulk d + 1
  | .slice elems spare => uptoBulkAll elems + uptoBulkAll spare + 1
  | .agg parts => uptoBulkAll parts + 1
  | .iface _ d => uptoBulk d + 1
  | .map entries => uptoBulkEntries entries + 1
  | .held _ => 1
def uptoBulkAll {H : Type} : List (DataW H) → Nat
  | [] => 0
  | d :: r => uptoBulk d + uptoBulkAll r
def uptoBulkEntries {H : Type} : List (Lit × DataW H) → Nat
  | [] => 0
  | x :: r => uptoBulkEntry x + uptoBulkEntries r
def uptoBulkEntry {H : Type} : Lit × DataW H → Nat
  | (.string bytes, d) => bytes.length + uptoBulk d + 1
  | (_, d) => uptoBulk d + 1
 end
def uptoSmall : (H : Type) → List (DataW H) → Bool := fun _ ds => decide (uptoBulkAll ds ≤ 1048576)
def OpenSpec.upto (s : _root_.Go.ChangeSpec) : _root_.Go.OpenSpec := { _root_.Go.OpenSpec.ofChange s with cond := some uptoSmall }

/-- 'laws.FnExactPolyOk', WHERE WHAT IT READS IS OF BULK AT MOST 1048576: true; the input reads as it did. -/
def fnExactPolyOkUptoRow : OpenClaim := { program := "ytdamainjflpgpaa", sum := "d21a2fbc9991a9b49bba7d8a96f98e30a925a3de24580a9b0893ca3fb1bb9588", func := "loop.example/scrutineer/laws.FnExactPolyOk", spec := "fnExactPolyOk", unfollowed := true, recurses := true, apart := false, narrowed := true }
def FnExactPolyOkUptoSaid : Prop := fnExactPolyOkUptoRow.holds Try.pinned (OpenSpec.upto fnExactPolyOkSpec)

/-- 'laws.FnExactPolyAt', WHERE WHAT IT READS IS OF BULK AT MOST 1048576: true; the input reads as it did. -/
def fnExactPolyAtUptoRow : OpenClaim := { program := "ytdamainjflpgpaa", sum := "d21a2fbc9991a9b49bba7d8a96f98e30a925a3de24580a9b0893ca3fb1bb9588", func := "loop.example/scrutineer/laws.FnExactPolyAt", spec := "fnExactPolyAt", unfollowed := true, recurses := true, apart := false, narrowed := true }
def FnExactPolyAtUptoSaid : Prop := fnExactPolyAtUptoRow.holds Try.pinned (OpenSpec.upto fnExactPolyAtSpec)

/-- 'laws.FnExactPolyMul', WHERE WHAT IT READS IS OF BULK AT MOST 1048576: true; the input reads as it did. -/
def fnExactPolyMulUptoRow : OpenClaim := { program := "ytdamainjflpgpaa", sum := "d21a2fbc9991a9b49bba7d8a96f98e30a925a3de24580a9b0893ca3fb1bb9588", func := "loop.example/scrutineer/laws.FnExactPolyMul", spec := "fnExactPolyMul", unfollowed := true, recurses := true, apart := false, narrowed := true }
def FnExactPolyMulUptoSaid : Prop := fnExactPolyMulUptoRow.holds Try.pinned (OpenSpec.upto fnExactPolyMulSpec)

/-- 'laws.FnExactPolyThrough', WHERE WHAT IT READS IS OF BULK AT MOST 1048576: true; the input reads as it did. -/
def fnExactPolyThroughUptoRow : OpenClaim := { program := "ytdamainjflpgpaa", sum := "d21a2fbc9991a9b49bba7d8a96f98e30a925a3de24580a9b0893ca3fb1bb9588", func := "loop.example/scrutineer/laws.FnExactPolyThrough", spec := "fnExactPolyThrough", unfollowed := true, recurses := true, apart := false, narrowed := true }
def FnExactPolyThroughUptoSaid : Prop := fnExactPolyThroughUptoRow.holds Try.pinned (OpenSpec.upto fnExactPolyThroughSpec)

/-- 'laws.FnPolyForm', WHERE WHAT IT READS IS OF BULK AT MOST 1048576: true; the input reads as it did. -/
def fnPolyFormUptoRow : OpenClaim := { program := "ytdamainjflpgpaa", sum := "d21a2fbc9991a9b49bba7d8a96f98e30a925a3de24580a9b0893ca3fb1bb9588", func := "loop.example/scrutineer/laws.FnPolyForm", spec := "fnPolyForm", unfollowed := true, recurses := true, apart := false, narrowed := true }
def FnPolyFormUptoSaid : Prop := fnPolyFormUptoRow.holds Try.pinned (OpenSpec.upto fnPolyFormSpec)

/-- 'laws.FnPolyRoots', WHERE WHAT IT READS IS OF BULK AT MOST 1048576: true; the input reads as it did. -/
def fnPolyRootsUptoRow : OpenClaim := { program := "ytdamainjflpgpaa", sum := "d21a2fbc9991a9b49bba7d8a96f98e30a925a3de24580a9b0893ca3fb1bb9588", func := "loop.example/scrutineer/laws.FnPolyRoots", spec := "fnPolyRoots", unfollowed := true, recurses := true, apart := false, narrowed := true }
def FnPolyRootsUptoSaid : Prop := fnPolyRootsUptoRow.holds Try.pinned (OpenSpec.upto fnPolyRootsSpec)

/-- 'laws.FnMulOne', WHERE WHAT IT READS IS OF BULK AT MOST 1048576: true; the input reads as it did. -/
def fnMulOneUptoRow : OpenClaim := { program := "ytdamainjflpgpaa", sum := "d21a2fbc9991a9b49bba7d8a96f98e30a925a3de24580a9b0893ca3fb1bb9588", func := "loop.example/scrutineer/laws.FnMulOne", spec := "fnMulOne", unfollowed := true, recurses := true, apart := false, narrowed := true }
def FnMulOneUptoSaid : Prop := fnMulOneUptoRow.holds Try.pinned (OpenSpec.upto fnMulOneSpec)

/-- 'laws.FnPolyAt', WHERE WHAT IT READS IS OF BULK AT MOST 1048576: true; the input reads as it did. -/
def fnPolyAtUptoRow : OpenClaim := { program := "ytdamainjflpgpaa", sum := "d21a2fbc9991a9b49bba7d8a96f98e30a925a3de24580a9b0893ca3fb1bb9588", func := "loop.example/scrutineer/laws.FnPolyAt", spec := "fnPolyAt", unfollowed := true, recurses := true, apart := false, narrowed := true }
def FnPolyAtUptoSaid : Prop := fnPolyAtUptoRow.holds Try.pinned (OpenSpec.upto fnPolyAtSpec)

/-- 'laws.FnMulThree', WHERE WHAT IT READS IS OF BULK AT MOST 1048576: true; the input reads as it did. -/
def fnMulThreeUptoRow : OpenClaim := { program := "ytdamainjflpgpaa", sum := "d21a2fbc9991a9b49bba7d8a96f98e30a925a3de24580a9b0893ca3fb1bb9588", func := "loop.example/scrutineer/laws.FnMulThree", spec := "fnMulThree", unfollowed := true, recurses := true, apart := false, narrowed := true }
def FnMulThreeUptoSaid : Prop := fnMulThreeUptoRow.holds Try.pinned (OpenSpec.upto fnMulThreeSpec)

/-- 'laws.FnPolyMul', WHERE WHAT IT READS IS OF BULK AT MOST 1048576: true; the input reads as it did. -/
def fnPolyMulUptoRow : OpenClaim := { program := "ytdamainjflpgpaa", sum := "d21a2fbc9991a9b49bba7d8a96f98e30a925a3de24580a9b0893ca3fb1bb9588", func := "loop.example/scrutineer/laws.FnPolyMul", spec := "fnPolyMul", unfollowed := true, recurses := true, apart := false, narrowed := true }
def FnPolyMulUptoSaid : Prop := fnPolyMulUptoRow.holds Try.pinned (OpenSpec.upto fnPolyMulSpec)

/-- 'laws.FnThrough', WHERE WHAT IT READS IS OF BULK AT MOST 1048576: true; the input reads as it did. -/
def fnThroughUptoRow : OpenClaim := { program := "ytdamainjflpgpaa", sum := "d21a2fbc9991a9b49bba7d8a96f98e30a925a3de24580a9b0893ca3fb1bb9588", func := "loop.example/scrutineer/laws.FnThrough", spec := "fnThrough", unfollowed := true, recurses := true, apart := false, narrowed := true }
def FnThroughUptoSaid : Prop := fnThroughUptoRow.holds Try.pinned (OpenSpec.upto fnThroughSpec)

/-- 'laws.FnExactShareOk', WHERE WHAT IT READS IS OF BULK AT MOST 1048576: true; the input reads as it did. -/
def fnExactShareOkUptoRow : OpenClaim := { program := "ytdamainjflpgpaa", sum := "d21a2fbc9991a9b49bba7d8a96f98e30a925a3de24580a9b0893ca3fb1bb9588", func := "loop.example/scrutineer/laws.FnExactShareOk", spec := "fnExactShareOk", unfollowed := true, recurses := true, apart := false, narrowed := true }
def FnExactShareOkUptoSaid : Prop := fnExactShareOkUptoRow.holds Try.pinned (OpenSpec.upto fnExactShareOkSpec)

end Rows
end Go.Proofs.Ytdamainjflpgpaa
