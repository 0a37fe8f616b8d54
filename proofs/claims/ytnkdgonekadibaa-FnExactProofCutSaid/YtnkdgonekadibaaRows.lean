/-
  No cell of these rows narrows 'for every input' (looked for: loops, veiled, ifaces, maps, wideKeys, modest, calm, conditions, laid).
  DERIVED. THE GIVEN ROWS OF THIS SEAT. 12 by the template 'for every input the law returns true; each argument reads behind the call as it read before'; 0 by the template 'total and deterministic' (their statements: YtnkdgonekadibaaTotals.lean).
  GIVEN WITH THE SEED: the statements are not yours to turn. If you find one false, say at which input.
  Laid BY PROGRAM, IN A SANDBOX (cutbox-rows.mjs): the forced cells as the released guide's own fill.sh prints them over the translation 2fd40c52eb4ef813… (all of the seat's roots in one cut). By AI agents, Wed Nov 11 2026. No macro, syntax, notation, axiom, sorry.
-/
import Derived.Test.YtnkdgonekadibaaChecked
import GoSem.Claim
import GoSem.ClaimJoined
import GoSem.ClaimMapViews
import Derived.JoinedTies
import Derived.KernelRfl
namespace Go.Proofs.Ytnkdgonekadibaa
/- THE CELL 'sum', in the pinned program and in every row, IS THE sha256 OF THE DUMP (.gsa) THAT YtnkdgonekadibaaProg.lean LOADS. Nothing in Lean hashes anything: it is a label: what it is worth is what the hold of that sum in a sandbox is worth. -/
noncomputable def Try.pinned : Pinned := { name := "ytnkdgonekadibaa", sum := "2fd40c52eb4ef8137fb30c0024e7c3e19247da0a56ef5ff4081821b62dfb5421", checked := Try.checked }
namespace Rows
def none {H : Type} : Left H := { results := [], args := [] }

/-- 'laws.FnExactTypeLen': WHATEVER THE INPUT: true; the input reads as it did. -/
def fnExactTypeLenSpec : ChangeSpec := { name := "fnExactTypeLen", fn := fun _ => fun
  | [d] => { results := [.lit (.bool true)], args := [d] }
  | _ => none }
def fnExactTypeLenRow : OpenClaim := { program := "ytnkdgonekadibaa", sum := "2fd40c52eb4ef8137fb30c0024e7c3e19247da0a56ef5ff4081821b62dfb5421", func := "loop.example/scrutineer/laws.FnExactTypeLen", spec := "fnExactTypeLen", unfollowed := true, recurses := true, apart := false }
def FnExactTypeLenSaid : Prop := fnExactTypeLenRow.holds Try.pinned (OpenSpec.ofChange fnExactTypeLenSpec)

/-- ITS FALSE NEIGHBOUR: 'it returns false'. Refute it at one input. -/
def fnExactTypeLenWrong : ChangeSpec := { name := "fnExactTypeLen", fn := fun _ => fun
  | [d] => { results := [.lit (.bool false)], args := [d] }
  | _ => none }
def FnExactTypeLenWrongFalsely : Prop := fnExactTypeLenRow.holds Try.pinned (OpenSpec.ofChange fnExactTypeLenWrong)

/-- 'laws.FnExactProofLen': WHATEVER THE INPUT: true; the input reads as it did. -/
def fnExactProofLenSpec : ChangeSpec := { name := "fnExactProofLen", fn := fun _ => fun
  | [d] => { results := [.lit (.bool true)], args := [d] }
  | _ => none }
def fnExactProofLenRow : OpenClaim := { program := "ytnkdgonekadibaa", sum := "2fd40c52eb4ef8137fb30c0024e7c3e19247da0a56ef5ff4081821b62dfb5421", func := "loop.example/scrutineer/laws.FnExactProofLen", spec := "fnExactProofLen", unfollowed := true, recurses := true, apart := false }
def FnExactProofLenSaid : Prop := fnExactProofLenRow.holds Try.pinned (OpenSpec.ofChange fnExactProofLenSpec)

/-- ITS FALSE NEIGHBOUR: 'it returns false'. Refute it at one input. -/
def fnExactProofLenWrong : ChangeSpec := { name := "fnExactProofLen", fn := fun _ => fun
  | [d] => { results := [.lit (.bool false)], args := [d] }
  | _ => none }
def FnExactProofLenWrongFalsely : Prop := fnExactProofLenRow.holds Try.pinned (OpenSpec.ofChange fnExactProofLenWrong)

/-- 'laws.FnExactTypeMake': WHATEVER THE INPUT: true; the input reads as it did. -/
def fnExactTypeMakeSpec : ChangeSpec := { name := "fnExactTypeMake", fn := fun _ => fun
  | [d1, d2] => { results := [.lit (.bool true)], args := [d1, d2] }
  | _ => none }
def fnExactTypeMakeRow : OpenClaim := { program := "ytnkdgonekadibaa", sum := "2fd40c52eb4ef8137fb30c0024e7c3e19247da0a56ef5ff4081821b62dfb5421", func := "loop.example/scrutineer/laws.FnExactTypeMake", spec := "fnExactTypeMake", unfollowed := true, recurses := true, apart := false }
def FnExactTypeMakeSaid : Prop := fnExactTypeMakeRow.holds Try.pinned (OpenSpec.ofChange fnExactTypeMakeSpec)

/-- ITS FALSE NEIGHBOUR: 'it returns false'. Refute it at one input. -/
def fnExactTypeMakeWrong : ChangeSpec := { name := "fnExactTypeMake", fn := fun _ => fun
  | [d1, d2] => { results := [.lit (.bool false)], args := [d1, d2] }
  | _ => none }
def FnExactTypeMakeWrongFalsely : Prop := fnExactTypeMakeRow.holds Try.pinned (OpenSpec.ofChange fnExactTypeMakeWrong)

/-- 'laws.FnExactTypeOk': WHATEVER THE INPUT: true; the input reads as it did. -/
def fnExactTypeOkSpec : ChangeSpec := { name := "fnExactTypeOk", fn := fun _ => fun
  | [d1, d2] => { results := [.lit (.bool true)], args := [d1, d2] }
  | _ => none }
def fnExactTypeOkRow : OpenClaim := { program := "ytnkdgonekadibaa", sum := "2fd40c52eb4ef8137fb30c0024e7c3e19247da0a56ef5ff4081821b62dfb5421", func := "loop.example/scrutineer/laws.FnExactTypeOk", spec := "fnExactTypeOk", unfollowed := true, recurses := true, apart := false }
def FnExactTypeOkSaid : Prop := fnExactTypeOkRow.holds Try.pinned (OpenSpec.ofChange fnExactTypeOkSpec)

/-- ITS FALSE NEIGHBOUR: 'it returns false'. Refute it at one input. -/
def fnExactTypeOkWrong : ChangeSpec := { name := "fnExactTypeOk", fn := fun _ => fun
  | [d1, d2] => { results := [.lit (.bool false)], args := [d1, d2] }
  | _ => none }
def FnExactTypeOkWrongFalsely : Prop := fnExactTypeOkRow.holds Try.pinned (OpenSpec.ofChange fnExactTypeOkWrong)

/-- 'laws.FnExactTypeVal': WHATEVER THE INPUT: true; the input reads as it did. -/
def fnExactTypeValSpec : ChangeSpec := { name := "fnExactTypeVal", fn := fun _ => fun
  | [d1, d2] => { results := [.lit (.bool true)], args := [d1, d2] }
  | _ => none }
def fnExactTypeValRow : OpenClaim := { program := "ytnkdgonekadibaa", sum := "2fd40c52eb4ef8137fb30c0024e7c3e19247da0a56ef5ff4081821b62dfb5421", func := "loop.example/scrutineer/laws.FnExactTypeVal", spec := "fnExactTypeVal", unfollowed := true, recurses := true, apart := false }
def FnExactTypeValSaid : Prop := fnExactTypeValRow.holds Try.pinned (OpenSpec.ofChange fnExactTypeValSpec)

/-- ITS FALSE NEIGHBOUR: 'it returns false'. Refute it at one input. -/
def fnExactTypeValWrong : ChangeSpec := { name := "fnExactTypeVal", fn := fun _ => fun
  | [d1, d2] => { results := [.lit (.bool false)], args := [d1, d2] }
  | _ => none }
def FnExactTypeValWrongFalsely : Prop := fnExactTypeValRow.holds Try.pinned (OpenSpec.ofChange fnExactTypeValWrong)

/-- 'laws.FnExactProofCut': WHATEVER THE INPUT: true; the input reads as it did. -/
def fnExactProofCutSpec : ChangeSpec := { name := "fnExactProofCut", fn := fun _ => fun
  | [d1, d2] => { results := [.lit (.bool true)], args := [d1, d2] }
  | _ => none }
def fnExactProofCutRow : OpenClaim := { program := "ytnkdgonekadibaa", sum := "2fd40c52eb4ef8137fb30c0024e7c3e19247da0a56ef5ff4081821b62dfb5421", func := "loop.example/scrutineer/laws.FnExactProofCut", spec := "fnExactProofCut", unfollowed := true, recurses := true, apart := false }
def FnExactProofCutSaid : Prop := fnExactProofCutRow.holds Try.pinned (OpenSpec.ofChange fnExactProofCutSpec)

/-- ITS FALSE NEIGHBOUR: 'it returns false'. Refute it at one input. -/
def fnExactProofCutWrong : ChangeSpec := { name := "fnExactProofCut", fn := fun _ => fun
  | [d1, d2] => { results := [.lit (.bool false)], args := [d1, d2] }
  | _ => none }
def FnExactProofCutWrongFalsely : Prop := fnExactProofCutRow.holds Try.pinned (OpenSpec.ofChange fnExactProofCutWrong)

/-- 'laws.FnTypeLen': WHATEVER THE INPUT: true; the input reads as it did. -/
def fnTypeLenSpec : ChangeSpec := { name := "fnTypeLen", fn := fun _ => fun
  | [d] => { results := [.lit (.bool true)], args := [d] }
  | _ => none }
def fnTypeLenRow : OpenClaim := { program := "ytnkdgonekadibaa", sum := "2fd40c52eb4ef8137fb30c0024e7c3e19247da0a56ef5ff4081821b62dfb5421", func := "loop.example/scrutineer/laws.FnTypeLen", spec := "fnTypeLen", unfollowed := true, recurses := true, apart := false }
def FnTypeLenSaid : Prop := fnTypeLenRow.holds Try.pinned (OpenSpec.ofChange fnTypeLenSpec)

/-- ITS FALSE NEIGHBOUR: 'it returns false'. Refute it at one input. -/
def fnTypeLenWrong : ChangeSpec := { name := "fnTypeLen", fn := fun _ => fun
  | [d] => { results := [.lit (.bool false)], args := [d] }
  | _ => none }
def FnTypeLenWrongFalsely : Prop := fnTypeLenRow.holds Try.pinned (OpenSpec.ofChange fnTypeLenWrong)

/-- 'laws.FnProofLen': WHATEVER THE INPUT: true; the input reads as it did. -/
def fnProofLenSpec : ChangeSpec := { name := "fnProofLen", fn := fun _ => fun
  | [d] => { results := [.lit (.bool true)], args := [d] }
  | _ => none }
def fnProofLenRow : OpenClaim := { program := "ytnkdgonekadibaa", sum := "2fd40c52eb4ef8137fb30c0024e7c3e19247da0a56ef5ff4081821b62dfb5421", func := "loop.example/scrutineer/laws.FnProofLen", spec := "fnProofLen", unfollowed := true, recurses := true, apart := false }
def FnProofLenSaid : Prop := fnProofLenRow.holds Try.pinned (OpenSpec.ofChange fnProofLenSpec)

/-- ITS FALSE NEIGHBOUR: 'it returns false'. Refute it at one input. -/
def fnProofLenWrong : ChangeSpec := { name := "fnProofLen", fn := fun _ => fun
  | [d] => { results := [.lit (.bool false)], args := [d] }
  | _ => none }
def FnProofLenWrongFalsely : Prop := fnProofLenRow.holds Try.pinned (OpenSpec.ofChange fnProofLenWrong)

/-- 'laws.FnTypeAll': WHATEVER THE INPUT: true; the input reads as it did. -/
def fnTypeAllSpec : ChangeSpec := { name := "fnTypeAll", fn := fun _ => fun
  | [d] => { results := [.lit (.bool true)], args := [d] }
  | _ => none }
def fnTypeAllRow : OpenClaim := { program := "ytnkdgonekadibaa", sum := "2fd40c52eb4ef8137fb30c0024e7c3e19247da0a56ef5ff4081821b62dfb5421", func := "loop.example/scrutineer/laws.FnTypeAll", spec := "fnTypeAll", unfollowed := true, recurses := true, apart := false }
def FnTypeAllSaid : Prop := fnTypeAllRow.holds Try.pinned (OpenSpec.ofChange fnTypeAllSpec)

/-- ITS FALSE NEIGHBOUR: 'it returns false'. Refute it at one input. -/
def fnTypeAllWrong : ChangeSpec := { name := "fnTypeAll", fn := fun _ => fun
  | [d] => { results := [.lit (.bool false)], args := [d] }
  | _ => none }
def FnTypeAllWrongFalsely : Prop := fnTypeAllRow.holds Try.pinned (OpenSpec.ofChange fnTypeAllWrong)

/-- 'laws.FnTypeTwo': WHATEVER THE INPUT: true; the input reads as it did. -/
def fnTypeTwoSpec : ChangeSpec := { name := "fnTypeTwo", fn := fun _ => fun
  | [d1, d2] => { results := [.lit (.bool true)], args := [d1, d2] }
  | _ => none }
def fnTypeTwoRow : OpenClaim := { program := "ytnkdgonekadibaa", sum := "2fd40c52eb4ef8137fb30c0024e7c3e19247da0a56ef5ff4081821b62dfb5421", func := "loop.example/scrutineer/laws.FnTypeTwo", spec := "fnTypeTwo", unfollowed := true, recurses := true, apart := false }
def FnTypeTwoSaid : Prop := fnTypeTwoRow.holds Try.pinned (OpenSpec.ofChange fnTypeTwoSpec)

/-- ITS FALSE NEIGHBOUR: 'it returns false'. Refute it at one input. -/
def fnTypeTwoWrong : ChangeSpec := { name := "fnTypeTwo", fn := fun _ => fun
  | [d1, d2] => { results := [.lit (.bool false)], args := [d1, d2] }
  | _ => none }
def FnTypeTwoWrongFalsely : Prop := fnTypeTwoRow.holds Try.pinned (OpenSpec.ofChange fnTypeTwoWrong)

/-- 'laws.FnTypeBack': WHATEVER THE INPUT: true; the input reads as it did. -/
def fnTypeBackSpec : ChangeSpec := { name := "fnTypeBack", fn := fun _ => fun
  | [d] => { results := [.lit (.bool true)], args := [d] }
  | _ => none }
def fnTypeBackRow : OpenClaim := { program := "ytnkdgonekadibaa", sum := "2fd40c52eb4ef8137fb30c0024e7c3e19247da0a56ef5ff4081821b62dfb5421", func := "loop.example/scrutineer/laws.FnTypeBack", spec := "fnTypeBack", unfollowed := true, recurses := true, apart := false }
def FnTypeBackSaid : Prop := fnTypeBackRow.holds Try.pinned (OpenSpec.ofChange fnTypeBackSpec)

/-- ITS FALSE NEIGHBOUR: 'it returns false'. Refute it at one input. -/
def fnTypeBackWrong : ChangeSpec := { name := "fnTypeBack", fn := fun _ => fun
  | [d] => { results := [.lit (.bool false)], args := [d] }
  | _ => none }
def FnTypeBackWrongFalsely : Prop := fnTypeBackRow.holds Try.pinned (OpenSpec.ofChange fnTypeBackWrong)

/-- 'laws.FnTypeStrict': WHATEVER THE INPUT: true; the input reads as it did. -/
def fnTypeStrictSpec : ChangeSpec := { name := "fnTypeStrict", fn := fun _ => fun
  | [d] => { results := [.lit (.bool true)], args := [d] }
  | _ => none }
def fnTypeStrictRow : OpenClaim := { program := "ytnkdgonekadibaa", sum := "2fd40c52eb4ef8137fb30c0024e7c3e19247da0a56ef5ff4081821b62dfb5421", func := "loop.example/scrutineer/laws.FnTypeStrict", spec := "fnTypeStrict", unfollowed := true, recurses := true, apart := false }
def FnTypeStrictSaid : Prop := fnTypeStrictRow.holds Try.pinned (OpenSpec.ofChange fnTypeStrictSpec)

/-- ITS FALSE NEIGHBOUR: 'it returns false'. Refute it at one input. -/
def fnTypeStrictWrong : ChangeSpec := { name := "fnTypeStrict", fn := fun _ => fun
  | [d] => { results := [.lit (.bool false)], args := [d] }
  | _ => none }
def FnTypeStrictWrongFalsely : Prop := fnTypeStrictRow.holds Try.pinned (OpenSpec.ofChange fnTypeStrictWrong)

/- THE SECOND FORM. 'bulk': how many values and letters a reading holds, each counted each time it is reached (what is shared counts as often as it is met; a slice's spare places count too). A statement '..UptoSaid' is the law's where the arguments, and the package variables that the reading takes, are together of bulk at most 1048576: NARROWER than '..Said'. Prove '..Said' where nothing that the law and all that it calls make is longer than what came in: it says more and counts as full. Else prove '..UptoSaid'. A law counts once. -/
mutual
def uptoBulk {H : Type} : DataW H → Nat
  | .lit (.string bytes) => bytes.length + 1
  | .lit _ => 1
  | .nil => 1
  | .ptr d => uptoBulk d + 1
  | .slice elems spare => uptoBulkAll elems + uptoBulkAll spare + 1
  | .agg parts => uptoBulkAll parts + 1
  | .iface _ d => uptoBulk d + 1
  | .map entries => uptoBulkEntries entries + 1
  | .held _ => 1
def uptoBulkAll {H : Type} : List (DataW H) → Nat
  | [] => 0
  | d :: r => uptoBulk d + uptoBulkAll r
def uptoBulkEntries {H : Type} : List (Lit × DataW H) → Nat
  | [] => 0
  | x :: r => uptoBulkEntry x + uptoBulkEntries r
def uptoBulkEntry {H : Type} : Lit × DataW H → Nat
  | (.string bytes, d) => bytes.length + uptoBulk d + 1
  | (_, d) => uptoBulk d + 1
 end
def uptoSmall : (H : Type) → List (DataW H) → Bool := fun _ ds => decide (uptoBulkAll ds ≤ 1048576)
def OpenSpec.upto (s : _root_.Go.ChangeSpec) : _root_.Go.OpenSpec := { _root_.Go.OpenSpec.ofChange s with cond := some uptoSmall }

/-- 'laws.FnExactTypeLen', WHERE WHAT IT READS IS OF BULK AT MOST 1048576: true; the input reads as it did. -/
def fnExactTypeLenUptoRow : OpenClaim := { program := "ytnkdgonekadibaa", sum := "2fd40c52eb4ef8137fb30c0024e7c3e19247da0a56ef5ff4081821b62dfb5421", func := "loop.example/scrutineer/laws.FnExactTypeLen", spec := "fnExactTypeLen", unfollowed := true, recurses := true, apart := false, narrowed := true }
def FnExactTypeLenUptoSaid : Prop := fnExactTypeLenUptoRow.holds Try.pinned (OpenSpec.upto fnExactTypeLenSpec)

/-- 'laws.FnExactProofLen', WHERE WHAT IT READS IS OF BULK AT MOST 1048576: true; the input reads as it did. -/
def fnExactProofLenUptoRow : OpenClaim := { program := "ytnkdgonekadibaa", sum := "2fd40c52eb4ef8137fb30c0024e7c3e19247da0a56ef5ff4081821b62dfb5421", func := "loop.example/scrutineer/laws.FnExactProofLen", spec := "fnExactProofLen", unfollowed := true, recurses := true, apart := false, narrowed := true }
def FnExactProofLenUptoSaid : Prop := fnExactProofLenUptoRow.holds Try.pinned (OpenSpec.upto fnExactProofLenSpec)

/-- 'laws.FnExactTypeMake', WHERE WHAT IT READS IS OF BULK AT MOST 1048576: true; the input reads as it did. -/
def fnExactTypeMakeUptoRow : OpenClaim := { program := "ytnkdgonekadibaa", sum := "2fd40c52eb4ef8137fb30c0024e7c3e19247da0a56ef5ff4081821b62dfb5421", func := "loop.example/scrutineer/laws.FnExactTypeMake", spec := "fnExactTypeMake", unfollowed := true, recurses := true, apart := false, narrowed := true }
def FnExactTypeMakeUptoSaid : Prop := fnExactTypeMakeUptoRow.holds Try.pinned (OpenSpec.upto fnExactTypeMakeSpec)

/-- 'laws.FnExactTypeOk', WHERE WHAT IT READS IS OF BULK AT MOST 1048576: true; the input reads as it did. -/
def fnExactTypeOkUptoRow : OpenClaim := { program := "ytnkdgonekadibaa", sum := "2fd40c52eb4ef8137fb30c0024e7c3e19247da0a56ef5ff4081821b62dfb5421", func := "loop.example/scrutineer/laws.FnExactTypeOk", spec := "fnExactTypeOk", unfollowed := true, recurses := true, apart := false, narrowed := true }
def FnExactTypeOkUptoSaid : Prop := fnExactTypeOkUptoRow.holds Try.pinned (OpenSpec.upto fnExactTypeOkSpec)

/-- 'laws.FnExactTypeVal', WHERE WHAT IT READS IS OF BULK AT MOST 1048576: true; the input reads as it did. -/
def fnExactTypeValUptoRow : OpenClaim := { program := "ytnkdgonekadibaa", sum := "2fd40c52eb4ef8137fb30c0024e7c3e19247da0a56ef5ff4081821b62dfb5421", func := "loop.example/scrutineer/laws.FnExactTypeVal", spec := "fnExactTypeVal", unfollowed := true, recurses := true, apart := false, narrowed := true }
def FnExactTypeValUptoSaid : Prop := fnExactTypeValUptoRow.holds Try.pinned (OpenSpec.upto fnExactTypeValSpec)

/-- 'laws.FnExactProofCut', WHERE WHAT IT READS IS OF BULK AT MOST 1048576: true; the input reads as it did. -/
def fnExactProofCutUptoRow : OpenClaim := { program := "ytnkdgonekadibaa", sum := "2fd40c52eb4ef8137fb30c0024e7c3e19247da0a56ef5ff4081821b62dfb5421", func := "loop.example/scrutineer/laws.FnExactProofCut", spec := "fnExactProofCut", unfollowed := true, recurses := true, apart := false, narrowed := true }
def FnExactProofCutUptoSaid : Prop := fnExactProofCutUptoRow.holds Try.pinned (OpenSpec.upto fnExactProofCutSpec)

/-- 'laws.FnTypeLen', WHERE WHAT IT READS IS OF BULK AT MOST 1048576: true; the input reads as it did. -/
def fnTypeLenUptoRow : OpenClaim := { program := "ytnkdgonekadibaa", sum := "2fd40c52eb4ef8137fb30c0024e7c3e19247da0a56ef5ff4081821b62dfb5421", func := "loop.example/scrutineer/laws.FnTypeLen", spec := "fnTypeLen", unfollowed := true, recurses := true, apart := false, narrowed := true }
def FnTypeLenUptoSaid : Prop := fnTypeLenUptoRow.holds Try.pinned (OpenSpec.upto fnTypeLenSpec)

/-- 'laws.FnProofLen', WHERE WHAT IT READS IS OF BULK AT MOST 1048576: true; the input reads as it did. -/
def fnProofLenUptoRow : OpenClaim := { program := "ytnkdgonekadibaa", sum := "2fd40c52eb4ef8137fb30c0024e7c3e19247da0a56ef5ff4081821b62dfb5421", func := "loop.example/scrutineer/laws.FnProofLen", spec := "fnProofLen", unfollowed := true, recurses := true, apart := false, narrowed := true }
def FnProofLenUptoSaid : Prop := fnProofLenUptoRow.holds Try.pinned (OpenSpec.upto fnProofLenSpec)

/-- 'laws.FnTypeAll', WHERE WHAT IT READS IS OF BULK AT MOST 1048576: true; the input reads as it did. -/
def fnTypeAllUptoRow : OpenClaim := { program := "ytnkdgonekadibaa", sum := "2fd40c52eb4ef8137fb30c0024e7c3e19247da0a56ef5ff4081821b62dfb5421", func := "loop.example/scrutineer/laws.FnTypeAll", spec := "fnTypeAll", unfollowed := true, recurses := true, apart := false, narrowed := true }
def FnTypeAllUptoSaid : Prop := fnTypeAllUptoRow.holds Try.pinned (OpenSpec.upto fnTypeAllSpec)

/-- 'laws.FnTypeTwo', WHERE WHAT IT READS IS OF BULK AT MOST 1048576: true; the input reads as it did. -/
def fnTypeTwoUptoRow : OpenClaim := { program := "ytnkdgonekadibaa", sum := "2fd40c52eb4ef8137fb30c0024e7c3e19247da0a56ef5ff4081821b62dfb5421", func := "loop.example/scrutineer/laws.FnTypeTwo", spec := "fnTypeTwo", unfollowed := true, recurses := true, apart := false, narrowed := true }
def FnTypeTwoUptoSaid : Prop := fnTypeTwoUptoRow.holds Try.pinned (OpenSpec.upto fnTypeTwoSpec)

/-- 'laws.FnTypeBack', WHERE WHAT IT READS IS OF BULK AT MOST 1048576: true; the input reads as it did. -/
def fnTypeBackUptoRow : OpenClaim := { program := "ytnkdgonekadibaa", sum := "2fd40c52eb4ef8137fb30c0024e7c3e19247da0a56ef5ff4081821b62dfb5421", func := "loop.example/scrutineer/laws.FnTypeBack", spec := "fnTypeBack", unfollowed := true, recurses := true, apart := false, narrowed := true }
def FnTypeBackUptoSaid : Prop := fnTypeBackUptoRow.holds Try.pinned (OpenSpec.upto fnTypeBackSpec)

/-- 'laws.FnTypeStrict', WHERE WHAT IT READS IS OF BULK AT MOST 1048576: true; the input reads as it did. -/
def fnTypeStrictUptoRow : OpenClaim := { program := "ytnkdgonekadibaa", sum := "2fd40c52eb4ef8137fb30c0024e7c3e19247da0a56ef5ff4081821b62dfb5421", func := "loop.example/scrutineer/laws.FnTypeStrict", spec := "fnTypeStrict", unfollowed := true, recurses := true, apart := false, narrowed := true }
def FnTypeStrictUptoSaid : Prop := fnTypeStrictUptoRow.holds Try.pinned (OpenSpec.upto fnTypeStrictSpec)

end Rows
end Go.Proofs.Ytnkdgonekadibaa
