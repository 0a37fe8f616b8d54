/-
  No cell of these rows narrows 'for every input' (looked for: loops, veiled, ifaces, maps, wideKeys, modest, calm, conditions, laid).
  DERIVED. THE GIVEN ROWS OF THIS SEAT. 12 by the template 'for every input the law returns true; each argument reads behind the call as it read before'; 0 by the template 'total and deterministic' (their statements: YtcdnmnipaaooiaaTotals.lean).
  GIVEN WITH THE SEED: the statements are not yours to turn. If you find one false, say at which input.
  Laid BY PROGRAM, IN A SANDBOX (cutbox-rows.mjs): the forced cells as the released guide's own fill.sh prints them over the translation ae118265c03d015e… (all of the seat's roots in one cut). By AI agents, Wed Nov 11 2026. No macro, syntax, notation, axiom, sorry.
-/
import Derived.Test.YtcdnmnipaaooiaaChecked
import GoSem.Claim
import GoSem.ClaimJoined
import GoSem.ClaimMapViews
import Derived.JoinedTies
import Derived.KernelRfl
namespace Go.Proofs.Ytcdnmnipaaooiaa
/- THE CELL 'sum', in the pinned program and in every row, IS THE sha256 OF THE DUMP (.gsa) THAT YtcdnmnipaaooiaaProg.lean LOADS. Nothing in Lean hashes anything: it is a label: what it is worth is what the hold of that sum in a sandbox is worth. -/
noncomputable def Try.pinned : Pinned := { name := "ytcdnmnipaaooiaa", sum := "ae118265c03d015ef64c49f794ce7f1f26d14d634909cbeddf599bcf7d270f0e", checked := Try.checked }
namespace Rows
def none {H : Type} : Left H := { results := [], args := [] }

/-- 'laws.FnShareSum': WHATEVER THE INPUT: true; the input reads as it did. -/
def fnShareSumSpec : ChangeSpec := { name := "fnShareSum", fn := fun _ => fun
  | [d1, d2] => { results := [.lit (.bool true)], args := [d1, d2] }
  | _ => none }
def fnShareSumRow : OpenClaim := { program := "ytcdnmnipaaooiaa", sum := "ae118265c03d015ef64c49f794ce7f1f26d14d634909cbeddf599bcf7d270f0e", func := "loop.example/scrutineer/laws.FnShareSum", spec := "fnShareSum", inPlace := ["(*sync.WaitGroup).Add", "internal/race.ReleaseMerge", "internal/race.Disable", "internal/race.Enable", "internal/synctest.IsInBubble", "internal/synctest.Associate[sync.WaitGroup]", "sync.fatal", "sync/atomic.OrUint64", "sync/atomic.AddUint64", "internal/race.Read", "sync/atomic.LoadUint64", "sync/atomic.StoreUint64", "internal/synctest.Disassociate[sync.WaitGroup]", "sync.runtime_Semrelease", "(*sync.WaitGroup).Done", "(*sync.WaitGroup).Wait", "internal/race.Acquire", "internal/synctest.IsAssociated[sync.WaitGroup]", "sync/atomic.CompareAndSwapUint64", "internal/race.Write", "sync.runtime_SemacquireWaitGroup"], unfollowed := true, recurses := true, leaving := true, apart := false }
def FnShareSumSaid : Prop := fnShareSumRow.holds Try.pinned (OpenSpec.ofChange fnShareSumSpec)

/-- ITS FALSE NEIGHBOUR: 'it returns false'. Refute it at one input. -/
def fnShareSumWrong : ChangeSpec := { name := "fnShareSum", fn := fun _ => fun
  | [d1, d2] => { results := [.lit (.bool false)], args := [d1, d2] }
  | _ => none }
def FnShareSumWrongFalsely : Prop := fnShareSumRow.holds Try.pinned (OpenSpec.ofChange fnShareSumWrong)

/-- 'laws.FnShareHide': WHATEVER THE INPUT: true; the input reads as it did. -/
def fnShareHideSpec : ChangeSpec := { name := "fnShareHide", fn := fun _ => fun
  | [d1, d2] => { results := [.lit (.bool true)], args := [d1, d2] }
  | _ => none }
def fnShareHideRow : OpenClaim := { program := "ytcdnmnipaaooiaa", sum := "ae118265c03d015ef64c49f794ce7f1f26d14d634909cbeddf599bcf7d270f0e", func := "loop.example/scrutineer/laws.FnShareHide", spec := "fnShareHide", inPlace := ["(*sync.WaitGroup).Add", "internal/race.ReleaseMerge", "internal/race.Disable", "internal/race.Enable", "internal/synctest.IsInBubble", "internal/synctest.Associate[sync.WaitGroup]", "sync.fatal", "sync/atomic.OrUint64", "sync/atomic.AddUint64", "internal/race.Read", "sync/atomic.LoadUint64", "sync/atomic.StoreUint64", "internal/synctest.Disassociate[sync.WaitGroup]", "sync.runtime_Semrelease", "(*sync.WaitGroup).Done", "(*sync.WaitGroup).Wait", "internal/race.Acquire", "internal/synctest.IsAssociated[sync.WaitGroup]", "sync/atomic.CompareAndSwapUint64", "internal/race.Write", "sync.runtime_SemacquireWaitGroup"], unfollowed := true, recurses := true, leaving := true, apart := false }
def FnShareHideSaid : Prop := fnShareHideRow.holds Try.pinned (OpenSpec.ofChange fnShareHideSpec)

/-- ITS FALSE NEIGHBOUR: 'it returns false'. Refute it at one input. -/
def fnShareHideWrong : ChangeSpec := { name := "fnShareHide", fn := fun _ => fun
  | [d1, d2] => { results := [.lit (.bool false)], args := [d1, d2] }
  | _ => none }
def FnShareHideWrongFalsely : Prop := fnShareHideRow.holds Try.pinned (OpenSpec.ofChange fnShareHideWrong)

/-- 'laws.FnThroughSum': WHATEVER THE INPUT: true; the input reads as it did. -/
def fnThroughSumSpec : ChangeSpec := { name := "fnThroughSum", fn := fun _ => fun
  | [d1, d2] => { results := [.lit (.bool true)], args := [d1, d2] }
  | _ => none }
def fnThroughSumRow : OpenClaim := { program := "ytcdnmnipaaooiaa", sum := "ae118265c03d015ef64c49f794ce7f1f26d14d634909cbeddf599bcf7d270f0e", func := "loop.example/scrutineer/laws.FnThroughSum", spec := "fnThroughSum", inPlace := ["(*sync.WaitGroup).Add", "internal/race.ReleaseMerge", "internal/race.Disable", "internal/race.Enable", "internal/synctest.IsInBubble", "internal/synctest.Associate[sync.WaitGroup]", "sync.fatal", "sync/atomic.OrUint64", "sync/atomic.AddUint64", "internal/race.Read", "sync/atomic.LoadUint64", "sync/atomic.StoreUint64", "internal/synctest.Disassociate[sync.WaitGroup]", "sync.runtime_Semrelease", "(*sync.WaitGroup).Done", "(*sync.WaitGroup).Wait", "internal/race.Acquire", "internal/synctest.IsAssociated[sync.WaitGroup]", "sync/atomic.CompareAndSwapUint64", "internal/race.Write", "sync.runtime_SemacquireWaitGroup"], unfollowed := true, recurses := true, leaving := true, apart := false }
def FnThroughSumSaid : Prop := fnThroughSumRow.holds Try.pinned (OpenSpec.ofChange fnThroughSumSpec)

/-- ITS FALSE NEIGHBOUR: 'it returns false'. Refute it at one input. -/
def fnThroughSumWrong : ChangeSpec := { name := "fnThroughSum", fn := fun _ => fun
  | [d1, d2] => { results := [.lit (.bool false)], args := [d1, d2] }
  | _ => none }
def FnThroughSumWrongFalsely : Prop := fnThroughSumRow.holds Try.pinned (OpenSpec.ofChange fnThroughSumWrong)

/-- 'laws.FnShareForm': WHATEVER THE INPUT: true; the input reads as it did. -/
def fnShareFormSpec : ChangeSpec := { name := "fnShareForm", fn := fun _ => fun
  | [d1, d2] => { results := [.lit (.bool true)], args := [d1, d2] }
  | _ => none }
def fnShareFormRow : OpenClaim := { program := "ytcdnmnipaaooiaa", sum := "ae118265c03d015ef64c49f794ce7f1f26d14d634909cbeddf599bcf7d270f0e", func := "loop.example/scrutineer/laws.FnShareForm", spec := "fnShareForm", inPlace := ["(*sync.WaitGroup).Add", "internal/race.ReleaseMerge", "internal/race.Disable", "internal/race.Enable", "internal/synctest.IsInBubble", "internal/synctest.Associate[sync.WaitGroup]", "sync.fatal", "sync/atomic.OrUint64", "sync/atomic.AddUint64", "internal/race.Read", "sync/atomic.LoadUint64", "sync/atomic.StoreUint64", "internal/synctest.Disassociate[sync.WaitGroup]", "sync.runtime_Semrelease", "(*sync.WaitGroup).Done", "(*sync.WaitGroup).Wait", "internal/race.Acquire", "internal/synctest.IsAssociated[sync.WaitGroup]", "sync/atomic.CompareAndSwapUint64", "internal/race.Write", "sync.runtime_SemacquireWaitGroup"], unfollowed := true, recurses := true, leaving := true, apart := false }
def FnShareFormSaid : Prop := fnShareFormRow.holds Try.pinned (OpenSpec.ofChange fnShareFormSpec)

/-- ITS FALSE NEIGHBOUR: 'it returns false'. Refute it at one input. -/
def fnShareFormWrong : ChangeSpec := { name := "fnShareForm", fn := fun _ => fun
  | [d1, d2] => { results := [.lit (.bool false)], args := [d1, d2] }
  | _ => none }
def FnShareFormWrongFalsely : Prop := fnShareFormRow.holds Try.pinned (OpenSpec.ofChange fnShareFormWrong)

/-- 'laws.FnExactShareBack': WHATEVER THE INPUT: true; the input reads as it did. -/
def fnExactShareBackSpec : ChangeSpec := { name := "fnExactShareBack", fn := fun _ => fun
  | [d1, d2] => { results := [.lit (.bool true)], args := [d1, d2] }
  | _ => none }
def fnExactShareBackRow : OpenClaim := { program := "ytcdnmnipaaooiaa", sum := "ae118265c03d015ef64c49f794ce7f1f26d14d634909cbeddf599bcf7d270f0e", func := "loop.example/scrutineer/laws.FnExactShareBack", spec := "fnExactShareBack", inPlace := ["(*sync.WaitGroup).Add", "internal/race.ReleaseMerge", "internal/race.Disable", "internal/race.Enable", "internal/synctest.IsInBubble", "internal/synctest.Associate[sync.WaitGroup]", "sync.fatal", "sync/atomic.OrUint64", "sync/atomic.AddUint64", "internal/race.Read", "sync/atomic.LoadUint64", "sync/atomic.StoreUint64", "internal/synctest.Disassociate[sync.WaitGroup]", "sync.runtime_Semrelease", "(*sync.WaitGroup).Done", "(*sync.WaitGroup).Wait", "internal/race.Acquire", "internal/synctest.IsAssociated[sync.WaitGroup]", "sync/atomic.CompareAndSwapUint64", "internal/race.Write", "sync.runtime_SemacquireWaitGroup"], unfollowed := true, recurses := true, leaving := true, apart := false }
def FnExactShareBackSaid : Prop := fnExactShareBackRow.holds Try.pinned (OpenSpec.ofChange fnExactShareBackSpec)

/-- ITS FALSE NEIGHBOUR: 'it returns false'. Refute it at one input. -/
def fnExactShareBackWrong : ChangeSpec := { name := "fnExactShareBack", fn := fun _ => fun
  | [d1, d2] => { results := [.lit (.bool false)], args := [d1, d2] }
  | _ => none }
def FnExactShareBackWrongFalsely : Prop := fnExactShareBackRow.holds Try.pinned (OpenSpec.ofChange fnExactShareBackWrong)

/-- 'laws.FnExactShareDrawn': WHATEVER THE INPUT: true; the input reads as it did. -/
def fnExactShareDrawnSpec : ChangeSpec := { name := "fnExactShareDrawn", fn := fun _ => fun
  | [d1, d2] => { results := [.lit (.bool true)], args := [d1, d2] }
  | _ => none }
def fnExactShareDrawnRow : OpenClaim := { program := "ytcdnmnipaaooiaa", sum := "ae118265c03d015ef64c49f794ce7f1f26d14d634909cbeddf599bcf7d270f0e", func := "loop.example/scrutineer/laws.FnExactShareDrawn", spec := "fnExactShareDrawn", inPlace := ["(*sync.WaitGroup).Add", "internal/race.ReleaseMerge", "internal/race.Disable", "internal/race.Enable", "internal/synctest.IsInBubble", "internal/synctest.Associate[sync.WaitGroup]", "sync.fatal", "sync/atomic.OrUint64", "sync/atomic.AddUint64", "internal/race.Read", "sync/atomic.LoadUint64", "sync/atomic.StoreUint64", "internal/synctest.Disassociate[sync.WaitGroup]", "sync.runtime_Semrelease", "(*sync.WaitGroup).Done", "(*sync.WaitGroup).Wait", "internal/race.Acquire", "internal/synctest.IsAssociated[sync.WaitGroup]", "sync/atomic.CompareAndSwapUint64", "internal/race.Write", "sync.runtime_SemacquireWaitGroup"], unfollowed := true, recurses := true, leaving := true, apart := false }
def FnExactShareDrawnSaid : Prop := fnExactShareDrawnRow.holds Try.pinned (OpenSpec.ofChange fnExactShareDrawnSpec)

/-- ITS FALSE NEIGHBOUR: 'it returns false'. Refute it at one input. -/
def fnExactShareDrawnWrong : ChangeSpec := { name := "fnExactShareDrawn", fn := fun _ => fun
  | [d1, d2] => { results := [.lit (.bool false)], args := [d1, d2] }
  | _ => none }
def FnExactShareDrawnWrongFalsely : Prop := fnExactShareDrawnRow.holds Try.pinned (OpenSpec.ofChange fnExactShareDrawnWrong)

/-- 'laws.FnExactShareSum': WHATEVER THE INPUT: true; the input reads as it did. -/
def fnExactShareSumSpec : ChangeSpec := { name := "fnExactShareSum", fn := fun _ => fun
  | [d1, d2] => { results := [.lit (.bool true)], args := [d1, d2] }
  | _ => none }
def fnExactShareSumRow : OpenClaim := { program := "ytcdnmnipaaooiaa", sum := "ae118265c03d015ef64c49f794ce7f1f26d14d634909cbeddf599bcf7d270f0e", func := "loop.example/scrutineer/laws.FnExactShareSum", spec := "fnExactShareSum", inPlace := ["(*sync.WaitGroup).Add", "internal/race.ReleaseMerge", "internal/race.Disable", "internal/race.Enable", "internal/synctest.IsInBubble", "internal/synctest.Associate[sync.WaitGroup]", "sync.fatal", "sync/atomic.OrUint64", "sync/atomic.AddUint64", "internal/race.Read", "sync/atomic.LoadUint64", "sync/atomic.StoreUint64", "internal/synctest.Disassociate[sync.WaitGroup]", "sync.runtime_Semrelease", "(*sync.WaitGroup).Done", "(*sync.WaitGroup).Wait", "internal/race.Acquire", "internal/synctest.IsAssociated[sync.WaitGroup]", "sync/atomic.CompareAndSwapUint64", "internal/race.Write", "sync.runtime_SemacquireWaitGroup"], unfollowed := true, recurses := true, leaving := true, apart := false }
def FnExactShareSumSaid : Prop := fnExactShareSumRow.holds Try.pinned (OpenSpec.ofChange fnExactShareSumSpec)

/-- ITS FALSE NEIGHBOUR: 'it returns false'. Refute it at one input. -/
def fnExactShareSumWrong : ChangeSpec := { name := "fnExactShareSum", fn := fun _ => fun
  | [d1, d2] => { results := [.lit (.bool false)], args := [d1, d2] }
  | _ => none }
def FnExactShareSumWrongFalsely : Prop := fnExactShareSumRow.holds Try.pinned (OpenSpec.ofChange fnExactShareSumWrong)

/-- 'laws.FnExactShareMake': WHATEVER THE INPUT: true; the input reads as it did. -/
def fnExactShareMakeSpec : ChangeSpec := { name := "fnExactShareMake", fn := fun _ => fun
  | [d1, d2] => { results := [.lit (.bool true)], args := [d1, d2] }
  | _ => none }
def fnExactShareMakeRow : OpenClaim := { program := "ytcdnmnipaaooiaa", sum := "ae118265c03d015ef64c49f794ce7f1f26d14d634909cbeddf599bcf7d270f0e", func := "loop.example/scrutineer/laws.FnExactShareMake", spec := "fnExactShareMake", inPlace := ["(*sync.WaitGroup).Add", "internal/race.ReleaseMerge", "internal/race.Disable", "internal/race.Enable", "internal/synctest.IsInBubble", "internal/synctest.Associate[sync.WaitGroup]", "sync.fatal", "sync/atomic.OrUint64", "sync/atomic.AddUint64", "internal/race.Read", "sync/atomic.LoadUint64", "sync/atomic.StoreUint64", "internal/synctest.Disassociate[sync.WaitGroup]", "sync.runtime_Semrelease", "(*sync.WaitGroup).Done", "(*sync.WaitGroup).Wait", "internal/race.Acquire", "internal/synctest.IsAssociated[sync.WaitGroup]", "sync/atomic.CompareAndSwapUint64", "internal/race.Write", "sync.runtime_SemacquireWaitGroup"], unfollowed := true, recurses := true, leaving := true, apart := false }
def FnExactShareMakeSaid : Prop := fnExactShareMakeRow.holds Try.pinned (OpenSpec.ofChange fnExactShareMakeSpec)

/-- ITS FALSE NEIGHBOUR: 'it returns false'. Refute it at one input. -/
def fnExactShareMakeWrong : ChangeSpec := { name := "fnExactShareMake", fn := fun _ => fun
  | [d1, d2] => { results := [.lit (.bool false)], args := [d1, d2] }
  | _ => none }
def FnExactShareMakeWrongFalsely : Prop := fnExactShareMakeRow.holds Try.pinned (OpenSpec.ofChange fnExactShareMakeWrong)

/-- 'laws.FnShareNone': WHATEVER THE INPUT: true; the input reads as it did. -/
def fnShareNoneSpec : ChangeSpec := { name := "fnShareNone", fn := fun _ => fun
  | [d] => { results := [.lit (.bool true)], args := [d] }
  | _ => none }
def fnShareNoneRow : OpenClaim := { program := "ytcdnmnipaaooiaa", sum := "ae118265c03d015ef64c49f794ce7f1f26d14d634909cbeddf599bcf7d270f0e", func := "loop.example/scrutineer/laws.FnShareNone", spec := "fnShareNone", inPlace := ["(*sync.WaitGroup).Add", "internal/race.ReleaseMerge", "internal/race.Disable", "internal/race.Enable", "internal/synctest.IsInBubble", "internal/synctest.Associate[sync.WaitGroup]", "sync.fatal", "sync/atomic.OrUint64", "sync/atomic.AddUint64", "internal/race.Read", "sync/atomic.LoadUint64", "sync/atomic.StoreUint64", "internal/synctest.Disassociate[sync.WaitGroup]", "sync.runtime_Semrelease", "(*sync.WaitGroup).Done", "(*sync.WaitGroup).Wait", "internal/race.Acquire", "internal/synctest.IsAssociated[sync.WaitGroup]", "sync/atomic.CompareAndSwapUint64", "internal/race.Write", "sync.runtime_SemacquireWaitGroup"], unfollowed := true, recurses := true, leaving := true, apart := false }
def FnShareNoneSaid : Prop := fnShareNoneRow.holds Try.pinned (OpenSpec.ofChange fnShareNoneSpec)

/-- ITS FALSE NEIGHBOUR: 'it returns false'. Refute it at one input. -/
def fnShareNoneWrong : ChangeSpec := { name := "fnShareNone", fn := fun _ => fun
  | [d] => { results := [.lit (.bool false)], args := [d] }
  | _ => none }
def FnShareNoneWrongFalsely : Prop := fnShareNoneRow.holds Try.pinned (OpenSpec.ofChange fnShareNoneWrong)

/-- 'laws.FnShareBack': WHATEVER THE INPUT: true; the input reads as it did. -/
def fnShareBackSpec : ChangeSpec := { name := "fnShareBack", fn := fun _ => fun
  | [d] => { results := [.lit (.bool true)], args := [d] }
  | _ => none }
def fnShareBackRow : OpenClaim := { program := "ytcdnmnipaaooiaa", sum := "ae118265c03d015ef64c49f794ce7f1f26d14d634909cbeddf599bcf7d270f0e", func := "loop.example/scrutineer/laws.FnShareBack", spec := "fnShareBack", inPlace := ["(*sync.WaitGroup).Add", "internal/race.ReleaseMerge", "internal/race.Disable", "internal/race.Enable", "internal/synctest.IsInBubble", "internal/synctest.Associate[sync.WaitGroup]", "sync.fatal", "sync/atomic.OrUint64", "sync/atomic.AddUint64", "internal/race.Read", "sync/atomic.LoadUint64", "sync/atomic.StoreUint64", "internal/synctest.Disassociate[sync.WaitGroup]", "sync.runtime_Semrelease", "(*sync.WaitGroup).Done", "(*sync.WaitGroup).Wait", "internal/race.Acquire", "internal/synctest.IsAssociated[sync.WaitGroup]", "sync/atomic.CompareAndSwapUint64", "internal/race.Write", "sync.runtime_SemacquireWaitGroup"], unfollowed := true, recurses := true, leaving := true, apart := false }
def FnShareBackSaid : Prop := fnShareBackRow.holds Try.pinned (OpenSpec.ofChange fnShareBackSpec)

/-- ITS FALSE NEIGHBOUR: 'it returns false'. Refute it at one input. -/
def fnShareBackWrong : ChangeSpec := { name := "fnShareBack", fn := fun _ => fun
  | [d] => { results := [.lit (.bool false)], args := [d] }
  | _ => none }
def FnShareBackWrongFalsely : Prop := fnShareBackRow.holds Try.pinned (OpenSpec.ofChange fnShareBackWrong)

/-- 'laws.FnShareAgain': WHATEVER THE INPUT: true; the input reads as it did. -/
def fnShareAgainSpec : ChangeSpec := { name := "fnShareAgain", fn := fun _ => fun
  | [d1, d2] => { results := [.lit (.bool true)], args := [d1, d2] }
  | _ => none }
def fnShareAgainRow : OpenClaim := { program := "ytcdnmnipaaooiaa", sum := "ae118265c03d015ef64c49f794ce7f1f26d14d634909cbeddf599bcf7d270f0e", func := "loop.example/scrutineer/laws.FnShareAgain", spec := "fnShareAgain", inPlace := ["(*sync.WaitGroup).Add", "internal/race.ReleaseMerge", "internal/race.Disable", "internal/race.Enable", "internal/synctest.IsInBubble", "internal/synctest.Associate[sync.WaitGroup]", "sync.fatal", "sync/atomic.OrUint64", "sync/atomic.AddUint64", "internal/race.Read", "sync/atomic.LoadUint64", "sync/atomic.StoreUint64", "internal/synctest.Disassociate[sync.WaitGroup]", "sync.runtime_Semrelease", "(*sync.WaitGroup).Done", "(*sync.WaitGroup).Wait", "internal/race.Acquire", "internal/synctest.IsAssociated[sync.WaitGroup]", "sync/atomic.CompareAndSwapUint64", "internal/race.Write", "sync.runtime_SemacquireWaitGroup"], unfollowed := true, recurses := true, leaving := true, apart := false }
def FnShareAgainSaid : Prop := fnShareAgainRow.holds Try.pinned (OpenSpec.ofChange fnShareAgainSpec)

/-- ITS FALSE NEIGHBOUR: 'it returns false'. Refute it at one input. -/
def fnShareAgainWrong : ChangeSpec := { name := "fnShareAgain", fn := fun _ => fun
  | [d1, d2] => { results := [.lit (.bool false)], args := [d1, d2] }
  | _ => none }
def FnShareAgainWrongFalsely : Prop := fnShareAgainRow.holds Try.pinned (OpenSpec.ofChange fnShareAgainWrong)

/-- 'laws.FnTypeSum': WHATEVER THE INPUT: true; the input reads as it did. -/
def fnTypeSumSpec : ChangeSpec := { name := "fnTypeSum", fn := fun _ => fun
  | [d1, d2] => { results := [.lit (.bool true)], args := [d1, d2] }
  | _ => none }
def fnTypeSumRow : OpenClaim := { program := "ytcdnmnipaaooiaa", sum := "ae118265c03d015ef64c49f794ce7f1f26d14d634909cbeddf599bcf7d270f0e", func := "loop.example/scrutineer/laws.FnTypeSum", spec := "fnTypeSum", inPlace := ["(*sync.WaitGroup).Add", "internal/race.ReleaseMerge", "internal/race.Disable", "internal/race.Enable", "internal/synctest.IsInBubble", "internal/synctest.Associate[sync.WaitGroup]", "sync.fatal", "sync/atomic.OrUint64", "sync/atomic.AddUint64", "internal/race.Read", "sync/atomic.LoadUint64", "sync/atomic.StoreUint64", "internal/synctest.Disassociate[sync.WaitGroup]", "sync.runtime_Semrelease", "(*sync.WaitGroup).Done", "(*sync.WaitGroup).Wait", "internal/race.Acquire", "internal/synctest.IsAssociated[sync.WaitGroup]", "sync/atomic.CompareAndSwapUint64", "internal/race.Write", "sync.runtime_SemacquireWaitGroup"], unfollowed := true, recurses := true, leaving := true, apart := false }
def FnTypeSumSaid : Prop := fnTypeSumRow.holds Try.pinned (OpenSpec.ofChange fnTypeSumSpec)

/-- ITS FALSE NEIGHBOUR: 'it returns false'. Refute it at one input. -/
def fnTypeSumWrong : ChangeSpec := { name := "fnTypeSum", fn := fun _ => fun
  | [d1, d2] => { results := [.lit (.bool false)], args := [d1, d2] }
  | _ => none }
def FnTypeSumWrongFalsely : Prop := fnTypeSumRow.holds Try.pinned (OpenSpec.ofChange fnTypeSumWrong)

/- THE SECOND FORM. 'bulk': how many values and letters a reading holds, each counted each time it is reached (what is shared counts as often as it is met; a slice's spare places count too). A statement '..UptoSaid' is the law's where the arguments, and the package variables that the reading takes, are together of bulk at most 1048576: NARROWER than '..Said'. Prove '..Said' where nothing that the law and all that it calls make is longer than what came in: it says more and counts as full. Else prove '..UptoSaid'. A law counts once. -/
mutual
def uptoBulk {H : Type} : DataW H → Nat
  | .lit (.string bytes) => bytes.length + 1
  | .lit _ => 1
  | .nil => 1
  | .ptr d => uptoBulk d + 1
  | .slice elems spare => uptoBulkAll elems + uptoBulkAll spare + 1
  | .agg parts => uptoBulkAll parts + 1
  | .iface _ d => uptoBulk d + 1
  | .map entries => uptoBulkEntries entries + 1
  | .held _ => 1
def uptoBulkAll {H : Type} : List (DataW H) → Nat
  | [] => 0
  | d :: r => uptoBulk d + uptoBulkAll r
def uptoBulkEntries {H : Type} : List (Lit × DataW H) → Nat
  | [] => 0
  | x :: r => uptoBulkEntry x + uptoBulkEntries r
def uptoBulkEntry {H : Type} : Lit × DataW H → Nat
  | (.string bytes, d) => bytes.length + uptoBulk d + 1
  | (_, d) => uptoBulk d + 1
 end
def uptoSmall : (H : Type) → List (DataW H) → Bool := fun _ ds => decide (uptoBulkAll ds ≤ 1048576)
def OpenSpec.upto (s : _root_.Go.ChangeSpec) : _root_.Go.OpenSpec := { _root_.Go.OpenSpec.ofChange s with cond := some uptoSmall }

/-- 'laws.FnShareSum', WHERE WHAT IT READS IS OF BULK AT MOST 1048576: true; the input reads as it did. -/
def fnShareSumUptoRow : OpenClaim := { program := "ytcdnmnipaaooiaa", sum := "ae118265c03d015ef64c49f794ce7f1f26d14d634909cbeddf599bcf7d270f0e", func := "loop.example/scrutineer/laws.FnShareSum", spec := "fnShareSum", inPlace := ["(*sync.WaitGroup).Add", "internal/race.ReleaseMerge", "internal/race.Disable", "internal/race.Enable", "internal/synctest.IsInBubble", "internal/synctest.Associate[sync.WaitGroup]", "sync.fatal", "sync/atomic.OrUint64", "sync/atomic.AddUint64", "internal/race.Read", "sync/atomic.LoadUint64", "sync/atomic.StoreUint64", "internal/synctest.Disassociate[sync.WaitGroup]", "sync.runtime_Semrelease", "(*sync.WaitGroup).Done", "(*sync.WaitGroup).Wait", "internal/race.Acquire", "internal/synctest.IsAssociated[sync.WaitGroup]", "sync/atomic.CompareAndSwapUint64", "internal/race.Write", "sync.runtime_SemacquireWaitGroup"], unfollowed := true, recurses := true, leaving := true, apart := false, narrowed := true }
def FnShareSumUptoSaid : Prop := fnShareSumUptoRow.holds Try.pinned (OpenSpec.upto fnShareSumSpec)

/-- 'laws.FnShareHide', WHERE WHAT IT READS IS OF BULK AT MOST 1048576: true; the input reads as it did. -/
def fnShareHideUptoRow : OpenClaim := { program := "ytcdnmnipaaooiaa", sum := "ae118265c03d015ef64c49f794ce7f1f26d14d634909cbeddf599bcf7d270f0e", func := "loop.example/scrutineer/laws.FnShareHide", spec := "fnShareHide", inPlace := ["(*sync.WaitGroup).Add", "internal/race.ReleaseMerge", "internal/race.Disable", "internal/race.Enable", "internal/synctest.IsInBubble", "internal/synctest.Associate[sync.WaitGroup]", "sync.fatal", "sync/atomic.OrUint64", "sync/atomic.AddUint64", "internal/race.Read", "sync/atomic.LoadUint64", "sync/atomic.StoreUint64", "internal/synctest.Disassociate[sync.WaitGroup]", "sync.runtime_Semrelease", "(*sync.WaitGroup).Done", "(*sync.WaitGroup).Wait", "internal/race.Acquire", "internal/synctest.IsAssociated[sync.WaitGroup]", "sync/atomic.CompareAndSwapUint64", "internal/race.Write", "sync.runtime_SemacquireWaitGroup"], unfollowed := true, recurses := true, leaving := true, apart := false, narrowed := true }
def FnShareHideUptoSaid : Prop := fnShareHideUptoRow.holds Try.pinned (OpenSpec.upto fnShareHideSpec)

/-- 'laws.FnThroughSum', WHERE WHAT IT READS IS OF BULK AT MOST 1048576: true; the input reads as it did. -/
def fnThroughSumUptoRow : OpenClaim := { program := "ytcdnmnipaaooiaa", sum := "ae118265c03d015ef64c49f794ce7f1f26d14d634909cbeddf599bcf7d270f0e", func := "loop.example/scrutineer/laws.FnThroughSum", spec := "fnThroughSum", inPlace := ["(*sync.WaitGroup).Add", "internal/race.ReleaseMerge", "internal/race.Disable", "internal/race.Enable", "internal/synctest.IsInBubble", "internal/synctest.Associate[sync.WaitGroup]", "sync.fatal", "sync/atomic.OrUint64", "sync/atomic.AddUint64", "internal/race.Read", "sync/atomic.LoadUint64", "sync/atomic.StoreUint64", "internal/synctest.Disassociate[sync.WaitGroup]", "sync.runtime_Semrelease", "(*sync.WaitGroup).Done", "(*sync.WaitGroup).Wait", "internal/race.Acquire", "internal/synctest.IsAssociated[sync.WaitGroup]", "sync/atomic.CompareAndSwapUint64", "internal/race.Write", "sync.runtime_SemacquireWaitGroup"], unfollowed := true, recurses := true, leaving := true, apart := false, narrowed := true }
def FnThroughSumUptoSaid : Prop := fnThroughSumUptoRow.holds Try.pinned (OpenSpec.upto fnThroughSumSpec)

/-- 'laws.FnShareForm', WHERE WHAT IT READS IS OF BULK AT MOST 1048576: true; the input reads as it did. -/
def fnShareFormUptoRow : OpenClaim := { program := "ytcdnmnipaaooiaa", sum := "ae118265c03d015ef64c49f794ce7f1f26d14d634909cbeddf599bcf7d270f0e", func := "loop.example/scrutineer/laws.FnShareForm", spec := "fnShareForm", inPlace := ["(*sync.WaitGroup).Add", "internal/race.ReleaseMerge", "internal/race.Disable", "internal/race.Enable", "internal/synctest.IsInBubble", "internal/synctest.Associate[sync.WaitGroup]", "sync.fatal", "sync/atomic.OrUint64", "sync/atomic.AddUint64", "internal/race.Read", "sync/atomic.LoadUint64", "sync/atomic.StoreUint64", "internal/synctest.Disassociate[sync.WaitGroup]", "sync.runtime_Semrelease", "(*sync.WaitGroup).Done", "(*sync.WaitGroup).Wait", "internal/race.Acquire", "internal/synctest.IsAssociated[sync.WaitGroup]", "sync/atomic.CompareAndSwapUint64", "internal/race.Write", "sync.runtime_SemacquireWaitGroup"], unfollowed := true, recurses := true, leaving := true, apart := false, narrowed := true }
def FnShareFormUptoSaid : Prop := fnShareFormUptoRow.holds Try.pinned (OpenSpec.upto fnShareFormSpec)

/-- 'laws.FnExactShareBack', WHERE WHAT IT READS IS OF BULK AT MOST 1048576: true; the input reads as it did. -/
def fnExactShareBackUptoRow : OpenClaim := { program := "ytcdnmnipaaooiaa", sum := "ae118265c03d015ef64c49f794ce7f1f26d14d634909cbeddf599bcf7d270f0e", func := "loop.example/scrutineer/laws.FnExactShareBack", spec := "fnExactShareBack", inPlace := ["(*sync.WaitGroup).Add", "internal/race.ReleaseMerge", "internal/race.Disable", "internal/race.Enable", "internal/synctest.IsInBubble", "internal/synctest.Associate[sync.WaitGroup]", "sync.fatal", "sync/atomic.OrUint64", "sync/atomic.AddUint64", "internal/race.Read", "sync/atomic.LoadUint64", "sync/atomic.StoreUint64", "internal/synctest.Disassociate[sync.WaitGroup]", "sync.runtime_Semrelease", "(*sync.WaitGroup).Done", "(*sync.WaitGroup).Wait", "internal/race.Acquire", "internal/synctest.IsAssociated[sync.WaitGroup]", "sync/atomic.CompareAndSwapUint64", "internal/race.Write", "sync.runtime_SemacquireWaitGroup"], unfollowed := true, recurses := true, leaving := true, apart := false, narrowed := true }
def FnExactShareBackUptoSaid : Prop := fnExactShareBackUptoRow.holds Try.pinned (OpenSpec.upto fnExactShareBackSpec)

/-- 'laws.FnExactShareDrawn', WHERE WHAT IT READS IS OF BULK AT MOST 1048576: true; the input reads as it did. -/
def fnExactShareDrawnUptoRow : OpenClaim := { program := "ytcdnmnipaaooiaa", sum := "ae118265c03d015ef64c49f794ce7f1f26d14d634909cbeddf599bcf7d270f0e", func := "loop.example/scrutineer/laws.FnExactShareDrawn", spec := "fnExactShareDrawn", inPlace := ["(*sync.WaitGroup).Add", "internal/race.ReleaseMerge", "internal/race.Disable", "internal/race.Enable", "internal/synctest.IsInBubble", "internal/synctest.Associate[sync.WaitGroup]", "sync.fatal", "sync/atomic.OrUint64", "sync/atomic.AddUint64", "internal/race.Read", "sync/atomic.LoadUint64", "sync/atomic.StoreUint64", "internal/synctest.Disassociate[sync.WaitGroup]", "sync.runtime_Semrelease", "(*sync.WaitGroup).Done", "(*sync.WaitGroup).Wait", "internal/race.Acquire", "internal/synctest.IsAssociated[sync.WaitGroup]", "sync/atomic.CompareAndSwapUint64", "internal/race.Write", "sync.runtime_SemacquireWaitGroup"], unfollowed := true, recurses := true, leaving := true, apart := false, narrowed := true }
def FnExactShareDrawnUptoSaid : Prop := fnExactShareDrawnUptoRow.holds Try.pinned (OpenSpec.upto fnExactShareDrawnSpec)

/-- 'laws.FnExactShareSum', WHERE WHAT IT READS IS OF BULK AT MOST 1048576: true; the input reads as it did. -/
def fnExactShareSumUptoRow : OpenClaim := { program := "ytcdnmnipaaooiaa", sum := "ae118265c03d015ef64c49f794ce7f1f26d14d634909cbeddf599bcf7d270f0e", func := "loop.example/scrutineer/laws.FnExactShareSum", spec := "fnExactShareSum", inPlace := ["(*sync.WaitGroup).Add", "internal/race.ReleaseMerge", "internal/race.Disable", "internal/race.Enable", "internal/synctest.IsInBubble", "internal/synctest.Associate[sync.WaitGroup]", "sync.fatal", "sync/atomic.OrUint64", "sync/atomic.AddUint64", "internal/race.Read", "sync/atomic.LoadUint64", "sync/atomic.StoreUint64", "internal/synctest.Disassociate[sync.WaitGroup]", "sync.runtime_Semrelease", "(*sync.WaitGroup).Done", "(*sync.WaitGroup).Wait", "internal/race.Acquire", "internal/synctest.IsAssociated[sync.WaitGroup]", "sync/atomic.CompareAndSwapUint64", "internal/race.Write", "sync.runtime_SemacquireWaitGroup"], unfollowed := true, recurses := true, leaving := true, apart := false, narrowed := true }
def FnExactShareSumUptoSaid : Prop := fnExactShareSumUptoRow.holds Try.pinned (OpenSpec.upto fnExactShareSumSpec)

/-- 'laws.FnExactShareMake', WHERE WHAT IT READS IS OF BULK AT MOST 1048576: true; the input reads as it did. -/
def fnExactShareMakeUptoRow : OpenClaim := { program := "ytcdnmnipaaooiaa", sum := "ae118265c03d015ef64c49f794ce7f1f26d14d634909cbeddf599bcf7d270f0e", func := "loop.example/scrutineer/laws.FnExactShareMake", spec := "fnExactShareMake", inPlace := ["(*sync.WaitGroup).Add", "internal/race.ReleaseMerge", "internal/race.Disable", "internal/race.Enable", "internal/synctest.IsInBubble", "internal/synctest.Associate[sync.WaitGroup]", "sync.fatal", "sync/atomic.OrUint64", "sync/atomic.AddUint64", "internal/race.Read", "sync/atomic.LoadUint64", "sync/atomic.StoreUint64", "internal/synctest.Disassociate[sync.WaitGroup]", "sync.runtime_Semrelease", "(*sync.WaitGroup).Done", "(*sync.WaitGroup).Wait", "internal/race.Acquire", "internal/synctest.IsAssociated[sync.WaitGroup]", "sync/atomic.CompareAndSwapUint64", "internal/race.Write", "sync.runtime_SemacquireWaitGroup"], unfollowed := true, recurses := true, leaving := true, apart := false, narrowed := true }
def FnExactShareMakeUptoSaid : Prop := fnExactShareMakeUptoRow.holds Try.pinned (OpenSpec.upto fnExactShareMakeSpec)

/-- 'laws.FnShareNone', WHERE WHAT IT READS IS OF BULK AT MOST 1048576: true; the input reads as it did. -/
def fnShareNoneUptoRow : OpenClaim := { program := "ytcdnmnipaaooiaa", sum := "ae118265c03d015ef64c49f794ce7f1f26d14d634909cbeddf599bcf7d270f0e", func := "loop.example/scrutineer/laws.FnShareNone", spec := "fnShareNone", inPlace := ["(*sync.WaitGroup).Add", "internal/race.ReleaseMerge", "internal/race.Disable", "internal/race.Enable", "internal/synctest.IsInBubble", "internal/synctest.Associate[sync.WaitGroup]", "sync.fatal", "sync/atomic.OrUint64", "sync/atomic.AddUint64", "internal/race.Read", "sync/atomic.LoadUint64", "sync/atomic.StoreUint64", "internal/synctest.Disassociate[sync.WaitGroup]", "sync.runtime_Semrelease", "(*sync.WaitGroup).Done", "(*sync.WaitGroup).Wait", "internal/race.Acquire", "internal/synctest.IsAssociated[sync.WaitGroup]", "sync/atomic.CompareAndSwapUint64", "internal/race.Write", "sync.runtime_SemacquireWaitGroup"], unfollowed := true, recurses := true, leaving := true, apart := false, narrowed := true }
def FnShareNoneUptoSaid : Prop := fnShareNoneUptoRow.holds Try.pinned (OpenSpec.upto fnShareNoneSpec)

/-- 'laws.FnShareBack', WHERE WHAT IT READS IS OF BULK AT MOST 1048576: true; the input reads as it did. -/
def fnShareBackUptoRow : OpenClaim := { program := "ytcdnmnipaaooiaa", sum := "ae118265c03d015ef64c49f794ce7f1f26d14d634909cbeddf599bcf7d270f0e", func := "loop.example/scrutineer/laws.FnShareBack", spec := "fnShareBack", inPlace := ["(*sync.WaitGroup).Add", "internal/race.ReleaseMerge", "internal/race.Disable", "internal/race.Enable", "internal/synctest.IsInBubble", "internal/synctest.Associate[sync.WaitGroup]", "sync.fatal", "sync/atomic.OrUint64", "sync/atomic.AddUint64", "internal/race.Read", "sync/atomic.LoadUint64", "sync/atomic.StoreUint64", "internal/synctest.Disassociate[sync.WaitGroup]", "sync.runtime_Semrelease", "(*sync.WaitGroup).Done", "(*sync.WaitGroup).Wait", "internal/race.Acquire", "internal/synctest.IsAssociated[sync.WaitGroup]", "sync/atomic.CompareAndSwapUint64", "internal/race.Write", "sync.runtime_SemacquireWaitGroup"], unfollowed := true, recurses := true, leaving := true, apart := false, narrowed := true }
def FnShareBackUptoSaid : Prop := fnShareBackUptoRow.holds Try.pinned (OpenSpec.upto fnShareBackSpec)

/-- 'laws.FnShareAgain', WHERE WHAT IT READS IS OF BULK AT MOST 1048576: true; the input reads as it did. -/
def fnShareAgainUptoRow : OpenClaim := { program := "ytcdnmnipaaooiaa", sum := "ae118265c03d015ef64c49f794ce7f1f26d14d634909cbeddf599bcf7d270f0e", func := "loop.example/scrutineer/laws.FnShareAgain", spec := "fnShareAgain", inPlace := ["(*sync.WaitGroup).Add", "internal/race.ReleaseMerge", "internal/race.Disable", "internal/race.Enable", "internal/synctest.IsInBubble", "internal/synctest.Associate[sync.WaitGroup]", "sync.fatal", "sync/atomic.OrUint64", "sync/atomic.AddUint64", "internal/race.Read", "sync/atomic.LoadUint64", "sync/atomic.StoreUint64", "internal/synctest.Disassociate[sync.WaitGroup]", "sync.runtime_Semrelease", "(*sync.WaitGroup).Done", "(*sync.WaitGroup).Wait", "internal/race.Acquire", "internal/synctest.IsAssociated[sync.WaitGroup]", "sync/atomic.CompareAndSwapUint64", "internal/race.Write", "sync.runtime_SemacquireWaitGroup"], unfollowed := true, recurses := true, leaving := true, apart := false, narrowed := true }
def FnShareAgainUptoSaid : Prop := fnShareAgainUptoRow.holds Try.pinned (OpenSpec.upto fnShareAgainSpec)

/-- 'laws.FnTypeSum', WHERE WHAT IT READS IS OF BULK AT MOST 1048576: true; the input reads as it did. -/
def fnTypeSumUptoRow : OpenClaim := { program := "ytcdnmnipaaooiaa", sum := "ae118265c03d015ef64c49f794ce7f1f26d14d634909cbeddf599bcf7d270f0e", func := "loop.example/scrutineer/laws.FnTypeSum", spec := "fnTypeSum", inPlace := ["(*sync.WaitGroup).Add", "internal/race.ReleaseMerge", "internal/race.Disable", "internal/race.Enable", "internal/synctest.IsInBubble", "internal/synctest.Associate[sync.WaitGroup]", "sync.fatal", "sync/atomic.OrUint64", "sync/atomic.AddUint64", "internal/race.Read", "sync/atomic.LoadUint64", "sync/atomic.StoreUint64", "internal/synctest.Disassociate[sync.WaitGroup]", "sync.runtime_Semrelease", "(*sync.WaitGroup).Done", "(*sync.WaitGroup).Wait", "internal/race.Acquire", "internal/synctest.IsAssociated[sync.WaitGroup]", "sync/atomic.CompareAndSwapUint64", "internal/race.Write", "sync.runtime_SemacquireWaitGroup"], unfollowed := true, recurses := true, leaving := true, apart := false, narrowed := true }
def FnTypeSumUptoSaid : Prop := fnTypeSumUptoRow.holds Try.pinned (OpenSpec.upto fnTypeSumSpec)

end Rows
end Go.Proofs.Ytcdnmnipaaooiaa
