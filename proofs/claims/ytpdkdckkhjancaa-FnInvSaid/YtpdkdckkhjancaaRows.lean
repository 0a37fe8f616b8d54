/-
  No cell of these rows narrows 'for every input' (looked for: loops, veiled, ifaces, maps, wideKeys, modest, calm, conditions, laid).
  DERIVED. THE GIVEN ROWS OF THIS SEAT. 9 by the template 'for every input the law returns true; each argument reads behind the call as it read before'; 0 by the template 'total and deterministic' (their statements: YtpdkdckkhjancaaTotals.lean).
  GIVEN WITH THE SEED: the statements are not yours to turn. If you find one false, say at which input.
  Laid BY PROGRAM, IN A SANDBOX (cutbox-rows.mjs): the forced cells as the released guide's own fill.sh prints them over the translation f601319ad2525a3f… (all of the seat's roots in one cut). By AI agents, Wed Nov 11 2026. No macro, syntax, notation, axiom, sorry.
-/
import Derived.Test.YtpdkdckkhjancaaChecked
import GoSem.Claim
import GoSem.ClaimJoined
import GoSem.ClaimMapViews
import Derived.JoinedTies
import Derived.KernelRfl
namespace Go.Proofs.Ytpdkdckkhjancaa
/- THE CELL 'sum', in the pinned program and in every row, IS THE sha256 OF THE DUMP (.gsa) THAT YtpdkdckkhjancaaProg.lean LOADS. Nothing in Lean hashes anything: it is a label: what it is worth is what the hold of that sum in a sandbox is worth. -/
noncomputable def Try.pinned : Pinned := { name := "ytpdkdckkhjancaa", sum := "f601319ad2525a3fd4a735b446b530adae065e33db768e8309cceedee276bc87", checked := Try.checked }
namespace Rows
def none {H : Type} : Left H := { results := [], args := [] }

/-- 'laws.FnExactRandAt': WHATEVER THE INPUT: true; the input reads as it did. -/
def fnExactRandAtSpec : ChangeSpec := { name := "fnExactRandAt", fn := fun _ => fun
  | [d1, d2] => { results := [.lit (.bool true)], args := [d1, d2] }
  | _ => none }
def fnExactRandAtRow : OpenClaim := { program := "ytpdkdckkhjancaa", sum := "f601319ad2525a3fd4a735b446b530adae065e33db768e8309cceedee276bc87", func := "loop.example/scrutineer/laws.FnExactRandAt", spec := "fnExactRandAt", apart := false }
def FnExactRandAtSaid : Prop := fnExactRandAtRow.holds Try.pinned (OpenSpec.ofChange fnExactRandAtSpec)

/-- ITS FALSE NEIGHBOUR: 'it returns false'. Refute it at one input. -/
def fnExactRandAtWrong : ChangeSpec := { name := "fnExactRandAt", fn := fun _ => fun
  | [d1, d2] => { results := [.lit (.bool false)], args := [d1, d2] }
  | _ => none }
def FnExactRandAtWrongFalsely : Prop := fnExactRandAtRow.holds Try.pinned (OpenSpec.ofChange fnExactRandAtWrong)

/-- 'laws.FnExactRandBoth': WHATEVER THE INPUT: true; the input reads as it did. -/
def fnExactRandBothSpec : ChangeSpec := { name := "fnExactRandBoth", fn := fun _ => fun
  | [d1, d2, d3] => { results := [.lit (.bool true)], args := [d1, d2, d3] }
  | _ => none }
def fnExactRandBothRow : OpenClaim := { program := "ytpdkdckkhjancaa", sum := "f601319ad2525a3fd4a735b446b530adae065e33db768e8309cceedee276bc87", func := "loop.example/scrutineer/laws.FnExactRandBoth", spec := "fnExactRandBoth", apart := false }
def FnExactRandBothSaid : Prop := fnExactRandBothRow.holds Try.pinned (OpenSpec.ofChange fnExactRandBothSpec)

/-- ITS FALSE NEIGHBOUR: 'it returns false'. Refute it at one input. -/
def fnExactRandBothWrong : ChangeSpec := { name := "fnExactRandBoth", fn := fun _ => fun
  | [d1, d2, d3] => { results := [.lit (.bool false)], args := [d1, d2, d3] }
  | _ => none }
def FnExactRandBothWrongFalsely : Prop := fnExactRandBothRow.holds Try.pinned (OpenSpec.ofChange fnExactRandBothWrong)

/-- 'laws.FnExactRandVec': WHATEVER THE INPUT: true; the input reads as it did. -/
def fnExactRandVecSpec : ChangeSpec := { name := "fnExactRandVec", fn := fun _ => fun
  | [d1, d2] => { results := [.lit (.bool true)], args := [d1, d2] }
  | _ => none }
def fnExactRandVecRow : OpenClaim := { program := "ytpdkdckkhjancaa", sum := "f601319ad2525a3fd4a735b446b530adae065e33db768e8309cceedee276bc87", func := "loop.example/scrutineer/laws.FnExactRandVec", spec := "fnExactRandVec", unfollowed := true, recurses := true, apart := false }
def FnExactRandVecSaid : Prop := fnExactRandVecRow.holds Try.pinned (OpenSpec.ofChange fnExactRandVecSpec)

/-- ITS FALSE NEIGHBOUR: 'it returns false'. Refute it at one input. -/
def fnExactRandVecWrong : ChangeSpec := { name := "fnExactRandVec", fn := fun _ => fun
  | [d1, d2] => { results := [.lit (.bool false)], args := [d1, d2] }
  | _ => none }
def FnExactRandVecWrongFalsely : Prop := fnExactRandVecRow.holds Try.pinned (OpenSpec.ofChange fnExactRandVecWrong)

/-- 'laws.FnRandEven': WHATEVER THE INPUT: true; the input reads as it did. -/
def fnRandEvenSpec : ChangeSpec := { name := "fnRandEven", fn := fun _ => fun
  | [d] => { results := [.lit (.bool true)], args := [d] }
  | _ => none }
def fnRandEvenRow : OpenClaim := { program := "ytpdkdckkhjancaa", sum := "f601319ad2525a3fd4a735b446b530adae065e33db768e8309cceedee276bc87", func := "loop.example/scrutineer/laws.FnRandEven", spec := "fnRandEven", apart := false }
def FnRandEvenSaid : Prop := fnRandEvenRow.holds Try.pinned (OpenSpec.ofChange fnRandEvenSpec)

/-- ITS FALSE NEIGHBOUR: 'it returns false'. Refute it at one input. -/
def fnRandEvenWrong : ChangeSpec := { name := "fnRandEven", fn := fun _ => fun
  | [d] => { results := [.lit (.bool false)], args := [d] }
  | _ => none }
def FnRandEvenWrongFalsely : Prop := fnRandEvenRow.holds Try.pinned (OpenSpec.ofChange fnRandEvenWrong)

/-- 'laws.FnRandPlaces': WHATEVER THE INPUT: true; the input reads as it did. -/
def fnRandPlacesSpec : ChangeSpec := { name := "fnRandPlaces", fn := fun _ => fun
  | [d] => { results := [.lit (.bool true)], args := [d] }
  | _ => none }
def fnRandPlacesRow : OpenClaim := { program := "ytpdkdckkhjancaa", sum := "f601319ad2525a3fd4a735b446b530adae065e33db768e8309cceedee276bc87", func := "loop.example/scrutineer/laws.FnRandPlaces", spec := "fnRandPlaces", apart := false }
def FnRandPlacesSaid : Prop := fnRandPlacesRow.holds Try.pinned (OpenSpec.ofChange fnRandPlacesSpec)

/-- ITS FALSE NEIGHBOUR: 'it returns false'. Refute it at one input. -/
def fnRandPlacesWrong : ChangeSpec := { name := "fnRandPlaces", fn := fun _ => fun
  | [d] => { results := [.lit (.bool false)], args := [d] }
  | _ => none }
def FnRandPlacesWrongFalsely : Prop := fnRandPlacesRow.holds Try.pinned (OpenSpec.ofChange fnRandPlacesWrong)

/-- 'laws.FnRandBoth': WHATEVER THE INPUT: true; the input reads as it did. -/
def fnRandBothSpec : ChangeSpec := { name := "fnRandBoth", fn := fun _ => fun
  | [d1, d2] => { results := [.lit (.bool true)], args := [d1, d2] }
  | _ => none }
def fnRandBothRow : OpenClaim := { program := "ytpdkdckkhjancaa", sum := "f601319ad2525a3fd4a735b446b530adae065e33db768e8309cceedee276bc87", func := "loop.example/scrutineer/laws.FnRandBoth", spec := "fnRandBoth", apart := false }
def FnRandBothSaid : Prop := fnRandBothRow.holds Try.pinned (OpenSpec.ofChange fnRandBothSpec)

/-- ITS FALSE NEIGHBOUR: 'it returns false'. Refute it at one input. -/
def fnRandBothWrong : ChangeSpec := { name := "fnRandBoth", fn := fun _ => fun
  | [d1, d2] => { results := [.lit (.bool false)], args := [d1, d2] }
  | _ => none }
def FnRandBothWrongFalsely : Prop := fnRandBothRow.holds Try.pinned (OpenSpec.ofChange fnRandBothWrong)

/-- 'laws.FnRandVec': WHATEVER THE INPUT: true; the input reads as it did. -/
def fnRandVecSpec : ChangeSpec := { name := "fnRandVec", fn := fun _ => fun
  | [d1, d2] => { results := [.lit (.bool true)], args := [d1, d2] }
  | _ => none }
def fnRandVecRow : OpenClaim := { program := "ytpdkdckkhjancaa", sum := "f601319ad2525a3fd4a735b446b530adae065e33db768e8309cceedee276bc87", func := "loop.example/scrutineer/laws.FnRandVec", spec := "fnRandVec", unfollowed := true, recurses := true, apart := false }
def FnRandVecSaid : Prop := fnRandVecRow.holds Try.pinned (OpenSpec.ofChange fnRandVecSpec)

/-- ITS FALSE NEIGHBOUR: 'it returns false'. Refute it at one input. -/
def fnRandVecWrong : ChangeSpec := { name := "fnRandVec", fn := fun _ => fun
  | [d1, d2] => { results := [.lit (.bool false)], args := [d1, d2] }
  | _ => none }
def FnRandVecWrongFalsely : Prop := fnRandVecRow.holds Try.pinned (OpenSpec.ofChange fnRandVecWrong)

/-- 'laws.FnMulLaws': WHATEVER THE INPUT: true; the input reads as it did. -/
def fnMulLawsSpec : ChangeSpec := { name := "fnMulLaws", fn := fun _ => fun
  | [d1, d2] => { results := [.lit (.bool true)], args := [d1, d2] }
  | _ => none }
def fnMulLawsRow : OpenClaim := { program := "ytpdkdckkhjancaa", sum := "f601319ad2525a3fd4a735b446b530adae065e33db768e8309cceedee276bc87", func := "loop.example/scrutineer/laws.FnMulLaws", spec := "fnMulLaws", apart := false }
def FnMulLawsSaid : Prop := fnMulLawsRow.holds Try.pinned (OpenSpec.ofChange fnMulLawsSpec)

/-- ITS FALSE NEIGHBOUR: 'it returns false'. Refute it at one input. -/
def fnMulLawsWrong : ChangeSpec := { name := "fnMulLaws", fn := fun _ => fun
  | [d1, d2] => { results := [.lit (.bool false)], args := [d1, d2] }
  | _ => none }
def FnMulLawsWrongFalsely : Prop := fnMulLawsRow.holds Try.pinned (OpenSpec.ofChange fnMulLawsWrong)

/-- 'laws.FnInv': WHATEVER THE INPUT: true; the input reads as it did. -/
def fnInvSpec : ChangeSpec := { name := "fnInv", fn := fun _ => fun
  | [d1, d2] => { results := [.lit (.bool true)], args := [d1, d2] }
  | _ => none }
def fnInvRow : OpenClaim := { program := "ytpdkdckkhjancaa", sum := "f601319ad2525a3fd4a735b446b530adae065e33db768e8309cceedee276bc87", func := "loop.example/scrutineer/laws.FnInv", spec := "fnInv", apart := false }
def FnInvSaid : Prop := fnInvRow.holds Try.pinned (OpenSpec.ofChange fnInvSpec)

/-- ITS FALSE NEIGHBOUR: 'it returns false'. Refute it at one input. -/
def fnInvWrong : ChangeSpec := { name := "fnInv", fn := fun _ => fun
  | [d1, d2] => { results := [.lit (.bool false)], args := [d1, d2] }
  | _ => none }
def FnInvWrongFalsely : Prop := fnInvRow.holds Try.pinned (OpenSpec.ofChange fnInvWrong)

/- THE SECOND FORM. 'bulk': how many values and letters a reading holds, each counted each time it is reached (what is shared counts as often as it is met; a slice's spare places count too). A statement '..UptoSaid' is the law's where the arguments, and the package variables that the reading takes, are together of bulk at most 1048576: NARROWER than '..Said'. Prove '..Said' where nothing that the law and all that it calls make is longer than what came in: it says more and counts as full. Else prove '..UptoSaid'. A law counts once. -/
mutual
def uptoBulk {H : Type} : DataW H → Nat
  | .lit (.string bytes) => bytes.length + 1
  | .lit _ => 1
  | .nil => 1
  | .ptr d => uptoBulk d + 1
  | .slice elems spare => uptoBulkAll elems + uptoBulkAll spare + 1
  | .agg parts => uptoBulkAll parts + 1
  | .iface _ d => uptoBulk d + 1
  | .map entries => uptoBulkEntries entries + 1
  | .held _ => 1
def uptoBulkAll {H : Type} : List (DataW H) → Nat
  | [] => 0
  | d :: r => uptoBulk d + uptoBulkAll r
def uptoBulkEntries {H : Type} : List (Lit × DataW H) → Nat
  | [] => 0
  | x :: r => uptoBulkEntry x + uptoBulkEntries r
def uptoBulkEntry {H : Type} : Lit × DataW H → Nat
  | (.string bytes, d) => bytes.length + uptoBulk d + 1
  | (_, d) => uptoBulk d + 1
 end
def uptoSmall : (H : Type) → List (DataW H) → Bool := fun _ ds => decide (uptoBulkAll ds ≤ 1048576)
def OpenSpec.upto (s : _root_.Go.ChangeSpec) : _root_.Go.OpenSpec := { _root_.Go.OpenSpec.ofChange s with cond := some uptoSmall }

/-- 'laws.FnExactRandAt', WHERE WHAT IT READS IS OF BULK AT MOST 1048576: true; the input reads as it did. -/
def fnExactRandAtUptoRow : OpenClaim := { program := "ytpdkdckkhjancaa", sum := "f601319ad2525a3fd4a735b446b530adae065e33db768e8309cceedee276bc87", func := "loop.example/scrutineer/laws.FnExactRandAt", spec := "fnExactRandAt", apart := false, narrowed := true }
def FnExactRandAtUptoSaid : Prop := fnExactRandAtUptoRow.holds Try.pinned (OpenSpec.upto fnExactRandAtSpec)

/-- 'laws.FnExactRandBoth', WHERE WHAT IT READS IS OF BULK AT MOST 1048576: true; the input reads as it did. -/
def fnExactRandBothUptoRow : OpenClaim := { program := "ytpdkdckkhjancaa", sum := "f601319ad2525a3fd4a735b446b530adae065e33db768e8309cceedee276bc87", func := "loop.example/scrutineer/laws.FnExactRandBoth", spec := "fnExactRandBoth", apart := false, narrowed := true }
def FnExactRandBothUptoSaid : Prop := fnExactRandBothUptoRow.holds Try.pinned (OpenSpec.upto fnExactRandBothSpec)

/-- 'laws.FnExactRandVec', WHERE WHAT IT READS IS OF BULK AT MOST 1048576: true; the input reads as it did. -/
def fnExactRandVecUptoRow : OpenClaim := { program := "ytpdkdckkhjancaa", sum := "f601319ad2525a3fd4a735b446b530adae065e33db768e8309cceedee276bc87", func := "loop.example/scrutineer/laws.FnExactRandVec", spec := "fnExactRandVec", unfollowed := true, recurses := true, apart := false, narrowed := true }
def FnExactRandVecUptoSaid : Prop := fnExactRandVecUptoRow.holds Try.pinned (OpenSpec.upto fnExactRandVecSpec)

/-- 'laws.FnRandEven', WHERE WHAT IT READS IS OF BULK AT MOST 1048576: true; the input reads as it did. -/
def fnRandEvenUptoRow : OpenClaim := { program := "ytpdkdckkhjancaa", sum := "f601319ad2525a3fd4a735b446b530adae065e33db768e8309cceedee276bc87", func := "loop.example/scrutineer/laws.FnRandEven", spec := "fnRandEven", apart := false, narrowed := true }
def FnRandEvenUptoSaid : Prop := fnRandEvenUptoRow.holds Try.pinned (OpenSpec.upto fnRandEvenSpec)

/-- 'laws.FnRandPlaces', WHERE WHAT IT READS IS OF BULK AT MOST 1048576: true; the input reads as it did. -/
def fnRandPlacesUptoRow : OpenClaim := { program := "ytpdkdckkhjancaa", sum := "f601319ad2525a3fd4a735b446b530adae065e33db768e8309cceedee276bc87", func := "loop.example/scrutineer/laws.FnRandPlaces", spec := "fnRandPlaces", apart := false, narrowed := true }
def FnRandPlacesUptoSaid : Prop := fnRandPlacesUptoRow.holds Try.pinned (OpenSpec.upto fnRandPlacesSpec)

/-- 'laws.FnRandBoth', WHERE WHAT IT READS IS OF BULK AT MOST 1048576: true; the input reads as it did. -/
def fnRandBothUptoRow : OpenClaim := { program := "ytpdkdckkhjancaa", sum := "f601319ad2525a3fd4a735b446b530adae065e33db768e8309cceedee276bc87", func := "loop.example/scrutineer/laws.FnRandBoth", spec := "fnRandBoth", apart := false, narrowed := true }
def FnRandBothUptoSaid : Prop := fnRandBothUptoRow.holds Try.pinned (OpenSpec.upto fnRandBothSpec)

/-- 'laws.FnRandVec', WHERE WHAT IT READS IS OF BULK AT MOST 1048576: true; the input reads as it did. -/
def fnRandVecUptoRow : OpenClaim := { program := "ytpdkdckkhjancaa", sum := "f601319ad2525a3fd4a735b446b530adae065e33db768e8309cceedee276bc87", func := "loop.example/scrutineer/laws.FnRandVec", spec := "fnRandVec", unfollowed := true, recurses := true, apart := false, narrowed := true }
def FnRandVecUptoSaid : Prop := fnRandVecUptoRow.holds Try.pinned (OpenSpec.upto fnRandVecSpec)

/-- 'laws.FnMulLaws', WHERE WHAT IT READS IS OF BULK AT MOST 1048576: true; the input reads as it did. -/
def fnMulLawsUptoRow : OpenClaim := { program := "ytpdkdckkhjancaa", sum := "f601319ad2525a3fd4a735b446b530adae065e33db768e8309cceedee276bc87", func := "loop.example/scrutineer/laws.FnMulLaws", spec := "fnMulLaws", apart := false, narrowed := true }
def FnMulLawsUptoSaid : Prop := fnMulLawsUptoRow.holds Try.pinned (OpenSpec.upto fnMulLawsSpec)

/-- 'laws.FnInv', WHERE WHAT IT READS IS OF BULK AT MOST 1048576: true; the input reads as it did. -/
def fnInvUptoRow : OpenClaim := { program := "ytpdkdckkhjancaa", sum := "f601319ad2525a3fd4a735b446b530adae065e33db768e8309cceedee276bc87", func := "loop.example/scrutineer/laws.FnInv", spec := "fnInv", apart := false, narrowed := true }
def FnInvUptoSaid : Prop := fnInvUptoRow.holds Try.pinned (OpenSpec.upto fnInvSpec)

end Rows
end Go.Proofs.Ytpdkdckkhjancaa
