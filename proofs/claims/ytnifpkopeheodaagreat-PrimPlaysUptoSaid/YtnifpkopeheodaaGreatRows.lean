/-
  No cell of these rows narrows 'for every input' (looked for: loops, veiled, ifaces, maps, wideKeys, modest, calm, conditions, laid).
  DERIVED. THE GIVEN ROWS OF THIS SEAT. 6 by the template 'for every input the law returns true; each argument reads behind the call as it read before'; 0 by the template 'total and deterministic' (their statements: YtnifpkopeheodaaGreatTotals.lean).
  GIVEN WITH THE SEED: the statements are not yours to turn. If you find one false, say at which input.
  Laid BY PROGRAM, IN A SANDBOX (cutbox-rows.mjs): the forced cells as the released guide's own fill.sh prints them over the translation 9cca3d83be3c07e4… (all of the seat's roots in one cut). By AI agents, Wed Nov 11 2026. No macro, syntax, notation, axiom, sorry.
-/
import Derived.Test.YtnifpkopeheodaaGreatChecked
import GoSem.Claim
import GoSem.ClaimJoined
import GoSem.ClaimMapViews
import Derived.JoinedTies
import Derived.KernelRfl
namespace Go.Proofs.YtnifpkopeheodaaGreat
/- THE CELL 'sum', in the pinned program and in every row, IS THE sha256 OF THE DUMP (.gsa) THAT YtnifpkopeheodaaGreatProg.lean LOADS. Nothing in Lean hashes anything: it is a label: what it is worth is what the hold of that sum in a sandbox is worth. -/
noncomputable def Tryz.pinned : Pinned := { name := "ytnifpkopeheodaagreat", sum := "9cca3d83be3c07e45d72f7322718e82c84e75d3aa25f0cfcb1b7469540642565", checked := Tryz.checked }
namespace Rows
def none {H : Type} : Left H := { results := [], args := [] }

/-- 'docketlaw10.PrimPlays': WHATEVER THE INPUT: true; the input reads as it did. -/
def primPlaysSpec : ChangeSpec := { name := "primPlays", fn := fun _ => fun
  | [d1, d2] => { results := [.lit (.bool true)], args := [d1, d2] }
  | _ => none }
def primPlaysRow : OpenClaim := { program := "ytnifpkopeheodaagreat", sum := "9cca3d83be3c07e45d72f7322718e82c84e75d3aa25f0cfcb1b7469540642565", func := "docket/docketlaw10.PrimPlays", spec := "primPlays", inPlace := ["sync/atomic.StoreInt64", "sync/atomic.StorePointer", "sync/atomic.AddInt64", "sync/atomic.LoadInt64", "sync/atomic.LoadPointer", "(*sync.WaitGroup).Add", "internal/race.ReleaseMerge", "internal/race.Disable", "internal/race.Enable", "internal/synctest.IsInBubble", "internal/synctest.Associate[sync.WaitGroup]", "sync.fatal", "sync/atomic.OrUint64", "sync/atomic.AddUint64", "internal/race.Read", "sync/atomic.LoadUint64", "sync/atomic.StoreUint64", "internal/synctest.Disassociate[sync.WaitGroup]", "sync.runtime_Semrelease", "(*sync.WaitGroup).Done", "(*sync.WaitGroup).Wait", "internal/race.Acquire", "internal/synctest.IsAssociated[sync.WaitGroup]", "sync/atomic.CompareAndSwapUint64", "internal/race.Write", "sync.runtime_SemacquireWaitGroup"], unfollowed := true, recurses := true, leaving := true, apart := false }
def PrimPlaysSaid : Prop := primPlaysRow.holds Tryz.pinned (OpenSpec.ofChange primPlaysSpec)

/-- ITS FALSE NEIGHBOUR: 'it returns false'. Refute it at one input. -/
def primPlaysWrong : ChangeSpec := { name := "primPlays", fn := fun _ => fun
  | [d1, d2] => { results := [.lit (.bool false)], args := [d1, d2] }
  | _ => none }
def PrimPlaysWrongFalsely : Prop := primPlaysRow.holds Tryz.pinned (OpenSpec.ofChange primPlaysWrong)

/-- 'docketlaw10.PrimAlone': WHATEVER THE INPUT: true; the input reads as it did. -/
def primAloneSpec : ChangeSpec := { name := "primAlone", fn := fun _ => fun
  | [d1, d2] => { results := [.lit (.bool true)], args := [d1, d2] }
  | _ => none }
def primAloneRow : OpenClaim := { program := "ytnifpkopeheodaagreat", sum := "9cca3d83be3c07e45d72f7322718e82c84e75d3aa25f0cfcb1b7469540642565", func := "docket/docketlaw10.PrimAlone", spec := "primAlone", inPlace := ["sync/atomic.StoreInt64", "sync/atomic.StorePointer", "sync/atomic.AddInt64", "sync/atomic.LoadInt64", "sync/atomic.LoadPointer", "(*sync.WaitGroup).Add", "internal/race.ReleaseMerge", "internal/race.Disable", "internal/race.Enable", "internal/synctest.IsInBubble", "internal/synctest.Associate[sync.WaitGroup]", "sync.fatal", "sync/atomic.OrUint64", "sync/atomic.AddUint64", "internal/race.Read", "sync/atomic.LoadUint64", "sync/atomic.StoreUint64", "internal/synctest.Disassociate[sync.WaitGroup]", "sync.runtime_Semrelease", "(*sync.WaitGroup).Done", "(*sync.WaitGroup).Wait", "internal/race.Acquire", "internal/synctest.IsAssociated[sync.WaitGroup]", "sync/atomic.CompareAndSwapUint64", "internal/race.Write", "sync.runtime_SemacquireWaitGroup"], unfollowed := true, recurses := true, leaving := true, apart := false }
def PrimAloneSaid : Prop := primAloneRow.holds Tryz.pinned (OpenSpec.ofChange primAloneSpec)

/-- ITS FALSE NEIGHBOUR: 'it returns false'. Refute it at one input. -/
def primAloneWrong : ChangeSpec := { name := "primAlone", fn := fun _ => fun
  | [d1, d2] => { results := [.lit (.bool false)], args := [d1, d2] }
  | _ => none }
def PrimAloneWrongFalsely : Prop := primAloneRow.holds Tryz.pinned (OpenSpec.ofChange primAloneWrong)

/-- 'docketlaw10.PrimLast': WHATEVER THE INPUT: true; the input reads as it did. -/
def primLastSpec : ChangeSpec := { name := "primLast", fn := fun _ => fun
  | [d1, d2] => { results := [.lit (.bool true)], args := [d1, d2] }
  | _ => none }
def primLastRow : OpenClaim := { program := "ytnifpkopeheodaagreat", sum := "9cca3d83be3c07e45d72f7322718e82c84e75d3aa25f0cfcb1b7469540642565", func := "docket/docketlaw10.PrimLast", spec := "primLast", inPlace := ["sync/atomic.StoreInt64", "sync/atomic.StorePointer", "sync/atomic.AddInt64", "sync/atomic.LoadInt64", "sync/atomic.LoadPointer", "(*sync.WaitGroup).Add", "internal/race.ReleaseMerge", "internal/race.Disable", "internal/race.Enable", "internal/synctest.IsInBubble", "internal/synctest.Associate[sync.WaitGroup]", "sync.fatal", "sync/atomic.OrUint64", "sync/atomic.AddUint64", "internal/race.Read", "sync/atomic.LoadUint64", "sync/atomic.StoreUint64", "internal/synctest.Disassociate[sync.WaitGroup]", "sync.runtime_Semrelease", "(*sync.WaitGroup).Done", "(*sync.WaitGroup).Wait", "internal/race.Acquire", "internal/synctest.IsAssociated[sync.WaitGroup]", "sync/atomic.CompareAndSwapUint64", "internal/race.Write", "sync.runtime_SemacquireWaitGroup"], unfollowed := true, recurses := true, leaving := true, apart := false }
def PrimLastSaid : Prop := primLastRow.holds Tryz.pinned (OpenSpec.ofChange primLastSpec)

/-- ITS FALSE NEIGHBOUR: 'it returns false'. Refute it at one input. -/
def primLastWrong : ChangeSpec := { name := "primLast", fn := fun _ => fun
  | [d1, d2] => { results := [.lit (.bool false)], args := [d1, d2] }
  | _ => none }
def PrimLastWrongFalsely : Prop := primLastRow.holds Tryz.pinned (OpenSpec.ofChange primLastWrong)

/-- 'docketlaw10.PrimReal': WHATEVER THE INPUT: true; the input reads as it did. -/
def primRealSpec : ChangeSpec := { name := "primReal", fn := fun _ => fun
  | [d1, d2] => { results := [.lit (.bool true)], args := [d1, d2] }
  | _ => none }
def primRealRow : OpenClaim := { program := "ytnifpkopeheodaagreat", sum := "9cca3d83be3c07e45d72f7322718e82c84e75d3aa25f0cfcb1b7469540642565", func := "docket/docketlaw10.PrimReal", spec := "primReal", inPlace := ["sync/atomic.StoreInt64", "sync/atomic.StorePointer", "sync/atomic.AddInt64", "sync/atomic.LoadInt64", "sync/atomic.LoadPointer", "(*sync.WaitGroup).Add", "internal/race.ReleaseMerge", "internal/race.Disable", "internal/race.Enable", "internal/synctest.IsInBubble", "internal/synctest.Associate[sync.WaitGroup]", "sync.fatal", "sync/atomic.OrUint64", "sync/atomic.AddUint64", "internal/race.Read", "sync/atomic.LoadUint64", "sync/atomic.StoreUint64", "internal/synctest.Disassociate[sync.WaitGroup]", "sync.runtime_Semrelease", "(*sync.WaitGroup).Done", "(*sync.WaitGroup).Wait", "internal/race.Acquire", "internal/synctest.IsAssociated[sync.WaitGroup]", "sync/atomic.CompareAndSwapUint64", "internal/race.Write", "sync.runtime_SemacquireWaitGroup"], unfollowed := true, recurses := true, leaving := true, apart := false }
def PrimRealSaid : Prop := primRealRow.holds Tryz.pinned (OpenSpec.ofChange primRealSpec)

/-- ITS FALSE NEIGHBOUR: 'it returns false'. Refute it at one input. -/
def primRealWrong : ChangeSpec := { name := "primReal", fn := fun _ => fun
  | [d1, d2] => { results := [.lit (.bool false)], args := [d1, d2] }
  | _ => none }
def PrimRealWrongFalsely : Prop := primRealRow.holds Tryz.pinned (OpenSpec.ofChange primRealWrong)

/-- 'docketlaw10.PrimAtOnce': WHATEVER THE INPUT: true; the input reads as it did. -/
def primAtOnceSpec : ChangeSpec := { name := "primAtOnce", fn := fun _ => fun
  | [d] => { results := [.lit (.bool true)], args := [d] }
  | _ => none }
def primAtOnceRow : OpenClaim := { program := "ytnifpkopeheodaagreat", sum := "9cca3d83be3c07e45d72f7322718e82c84e75d3aa25f0cfcb1b7469540642565", func := "docket/docketlaw10.PrimAtOnce", spec := "primAtOnce", inPlace := ["sync/atomic.StoreInt64", "sync/atomic.StorePointer", "sync/atomic.AddInt64", "sync/atomic.LoadInt64", "sync/atomic.LoadPointer", "(*sync.WaitGroup).Add", "internal/race.ReleaseMerge", "internal/race.Disable", "internal/race.Enable", "internal/synctest.IsInBubble", "internal/synctest.Associate[sync.WaitGroup]", "sync.fatal", "sync/atomic.OrUint64", "sync/atomic.AddUint64", "internal/race.Read", "sync/atomic.LoadUint64", "sync/atomic.StoreUint64", "internal/synctest.Disassociate[sync.WaitGroup]", "sync.runtime_Semrelease", "(*sync.WaitGroup).Done", "(*sync.WaitGroup).Wait", "internal/race.Acquire", "internal/synctest.IsAssociated[sync.WaitGroup]", "sync/atomic.CompareAndSwapUint64", "internal/race.Write", "sync.runtime_SemacquireWaitGroup"], unfollowed := true, recurses := true, leaving := true, apart := false }
def PrimAtOnceSaid : Prop := primAtOnceRow.holds Tryz.pinned (OpenSpec.ofChange primAtOnceSpec)

/-- ITS FALSE NEIGHBOUR: 'it returns false'. Refute it at one input. -/
def primAtOnceWrong : ChangeSpec := { name := "primAtOnce", fn := fun _ => fun
  | [d] => { results := [.lit (.bool false)], args := [d] }
  | _ => none }
def PrimAtOnceWrongFalsely : Prop := primAtOnceRow.holds Tryz.pinned (OpenSpec.ofChange primAtOnceWrong)

/-- 'docketlaw10.PrimNil': WHATEVER THE INPUT: true; the input reads as it did. -/
def primNilSpec : ChangeSpec := { name := "primNil", fn := fun _ => fun
  | [] => { results := [.lit (.bool true)], args := [] }
  | _ => none }
def primNilRow : OpenClaim := { program := "ytnifpkopeheodaagreat", sum := "9cca3d83be3c07e45d72f7322718e82c84e75d3aa25f0cfcb1b7469540642565", func := "docket/docketlaw10.PrimNil", spec := "primNil", inPlace := ["sync/atomic.AddInt64", "sync/atomic.LoadInt64", "sync/atomic.LoadPointer", "sync/atomic.StorePointer", "(*sync.WaitGroup).Add", "internal/race.ReleaseMerge", "internal/race.Disable", "internal/race.Enable", "internal/synctest.IsInBubble", "internal/synctest.Associate[sync.WaitGroup]", "sync.fatal", "sync/atomic.OrUint64", "sync/atomic.AddUint64", "internal/race.Read", "sync/atomic.LoadUint64", "sync/atomic.StoreUint64", "internal/synctest.Disassociate[sync.WaitGroup]", "sync.runtime_Semrelease", "(*sync.WaitGroup).Done", "(*sync.WaitGroup).Wait", "internal/race.Acquire", "internal/synctest.IsAssociated[sync.WaitGroup]", "sync/atomic.CompareAndSwapUint64", "internal/race.Write", "sync.runtime_SemacquireWaitGroup", "sync/atomic.StoreInt64"], unfollowed := true, recurses := true, leaving := true, apart := false }
def PrimNilSaid : Prop := primNilRow.holds Tryz.pinned (OpenSpec.ofChange primNilSpec)

/-- ITS FALSE NEIGHBOUR: 'it returns false'. Refute it at one input. -/
def primNilWrong : ChangeSpec := { name := "primNil", fn := fun _ => fun
  | [] => { results := [.lit (.bool false)], args := [] }
  | _ => none }
def PrimNilWrongFalsely : Prop := primNilRow.holds Tryz.pinned (OpenSpec.ofChange primNilWrong)

/- THE SECOND FORM. 'bulk': how many values and letters a reading holds, each counted each time it is reached (what is shared counts as often as it is met; a slice's spare places count too). A statement '..UptoSaid' is the law's where the arguments, and the package variables that the reading takes, are together of bulk at most 1048576: NARROWER than '..Said'. Prove '..Said' where nothing that the law and all that it calls make is longer than what came in: it says more and counts as full. Else prove '..UptoSaid'. A law counts once. -/
mutual
def uptoBulk {H : Type} : DataW H → Nat
  | .lit (.string bytes) => bytes.length + 1
  | .lit _ => 1
  | .nil => 1
  | .ptr d => uptoBulk d + 1
  | .slice elems spare => uptoBulkAll elems + uptoBulkAll spare + 1
  | .agg parts => uptoBulkAll parts + 1
  | .iface _ d => uptoBulk d + 1
  | .map entries => uptoBulkEntries entries + 1
  | .held _ => 1
def uptoBulkAll {H : Type} : List (DataW H) → Nat
  | [] => 0
  | d :: r => uptoBulk d + uptoBulkAll r
def uptoBulkEntries {H : Type} : List (Lit × DataW H) → Nat
  | [] => 0
  | x :: r => uptoBulkEntry x + uptoBulkEntries r
def uptoBulkEntry {H : Type} : Lit × DataW H → Nat
  | (.string bytes, d) => bytes.length + uptoBulk d + 1
  | (_, d) => uptoBulk d + 1
 end
def uptoSmall : (H : Type) → List (DataW H) → Bool := fun _ ds => decide (uptoBulkAll ds ≤ 1048576)
def OpenSpec.upto (s : _root_.Go.ChangeSpec) : _root_.Go.OpenSpec := { _root_.Go.OpenSpec.ofChange s with cond := some uptoSmall }

/-- 'docketlaw10.PrimPlays', WHERE WHAT IT READS IS OF BULK AT MOST 1048576: true; the input reads as it did. -/
def primPlaysUptoRow : OpenClaim := { program := "ytnifpkopeheodaagreat", sum := "9cca3d83be3c07e45d72f7322718e82c84e75d3aa25f0cfcb1b7469540642565", func := "docket/docketlaw10.PrimPlays", spec := "primPlays", inPlace := ["sync/atomic.StoreInt64", "sync/atomic.StorePointer", "sync/atomic.AddInt64", "sync/atomic.LoadInt64", "sync/atomic.LoadPointer", "(*sync.WaitGroup).Add", "internal/race.ReleaseMerge", "internal/race.Disable", "internal/race.Enable", "internal/synctest.IsInBubble", "internal/synctest.Associate[sync.WaitGroup]", "sync.fatal", "sync/atomic.OrUint64", "sync/atomic.AddUint64", "internal/race.Read", "sync/atomic.LoadUint64", "sync/atomic.StoreUint64", "internal/synctest.Disassociate[sync.WaitGroup]", "sync.runtime_Semrelease", "(*sync.WaitGroup).Done", "(*sync.WaitGroup).Wait", "internal/race.Acquire", "internal/synctest.IsAssociated[sync.WaitGroup]", "sync/atomic.CompareAndSwapUint64", "internal/race.Write", "sync.runtime_SemacquireWaitGroup"], unfollowed := true, recurses := true, leaving := true, apart := false, narrowed := true }
def PrimPlaysUptoSaid : Prop := primPlaysUptoRow.holds Tryz.pinned (OpenSpec.upto primPlaysSpec)

/-- 'docketlaw10.PrimAlone', WHERE WHAT IT READS IS OF BULK AT MOST 1048576: true; the input reads as it did. -/
def primAloneUptoRow : OpenClaim := { program := "ytnifpkopeheodaagreat", sum := "9cca3d83be3c07e45d72f7322718e82c84e75d3aa25f0cfcb1b7469540642565", func := "docket/docketlaw10.PrimAlone", spec := "primAlone", inPlace := ["sync/atomic.StoreInt64", "sync/atomic.StorePointer", "sync/atomic.AddInt64", "sync/atomic.LoadInt64", "sync/atomic.LoadPointer", "(*sync.WaitGroup).Add", "internal/race.ReleaseMerge", "internal/race.Disable", "internal/race.Enable", "internal/synctest.IsInBubble", "internal/synctest.Associate[sync.WaitGroup]", "sync.fatal", "sync/atomic.OrUint64", "sync/atomic.AddUint64", "internal/race.Read", "sync/atomic.LoadUint64", "sync/atomic.StoreUint64", "internal/synctest.Disassociate[sync.WaitGroup]", "sync.runtime_Semrelease", "(*sync.WaitGroup).Done", "(*sync.WaitGroup).Wait", "internal/race.Acquire", "internal/synctest.IsAssociated[sync.WaitGroup]", "sync/atomic.CompareAndSwapUint64", "internal/race.Write", "sync.runtime_SemacquireWaitGroup"], unfollowed := true, recurses := true, leaving := true, apart := false, narrowed := true }
def PrimAloneUptoSaid : Prop := primAloneUptoRow.holds Tryz.pinned (OpenSpec.upto primAloneSpec)

/-- 'docketlaw10.PrimLast', WHERE WHAT IT READS IS OF BULK AT MOST 1048576: true; the input reads as it did. -/
def primLastUptoRow : OpenClaim := { program := "ytnifpkopeheodaagreat", sum := "9cca3d83be3c07e45d72f7322718e82c84e75d3aa25f0cfcb1b7469540642565", func := "docket/docketlaw10.PrimLast", spec := "primLast", inPlace := ["sync/atomic.StoreInt64", "sync/atomic.StorePointer", "sync/atomic.AddInt64", "sync/atomic.LoadInt64", "sync/atomic.LoadPointer", "(*sync.WaitGroup).Add", "internal/race.ReleaseMerge", "internal/race.Disable", "internal/race.Enable", "internal/synctest.IsInBubble", "internal/synctest.Associate[sync.WaitGroup]", "sync.fatal", "sync/atomic.OrUint64", "sync/atomic.AddUint64", "internal/race.Read", "sync/atomic.LoadUint64", "sync/atomic.StoreUint64", "internal/synctest.Disassociate[sync.WaitGroup]", "sync.runtime_Semrelease", "(*sync.WaitGroup).Done", "(*sync.WaitGroup).Wait", "internal/race.Acquire", "internal/synctest.IsAssociated[sync.WaitGroup]", "sync/atomic.CompareAndSwapUint64", "internal/race.Write", "sync.runtime_SemacquireWaitGroup"], unfollowed := true, recurses := true, leaving := true, apart := false, narrowed := true }
def PrimLastUptoSaid : Prop := primLastUptoRow.holds Tryz.pinned (OpenSpec.upto primLastSpec)

/-- 'docketlaw10.PrimReal', WHERE WHAT IT READS IS OF BULK AT MOST 1048576: true; the input reads as it did. -/
def primRealUptoRow : OpenClaim := { program := "ytnifpkopeheodaagreat", sum := "9cca3d83be3c07e45d72f7322718e82c84e75d3aa25f0cfcb1b7469540642565", func := "docket/docketlaw10.PrimReal", spec := "primReal", inPlace := ["sync/atomic.StoreInt64", "sync/atomic.StorePointer", "sync/atomic.AddInt64", "sync/atomic.LoadInt64", "sync/atomic.LoadPointer", "(*sync.WaitGroup).Add", "internal/race.ReleaseMerge", "internal/race.Disable", "internal/race.Enable", "internal/synctest.IsInBubble", "internal/synctest.Associate[sync.WaitGroup]", "sync.fatal", "sync/atomic.OrUint64", "sync/atomic.AddUint64", "internal/race.Read", "sync/atomic.LoadUint64", "sync/atomic.StoreUint64", "internal/synctest.Disassociate[sync.WaitGroup]", "sync.runtime_Semrelease", "(*sync.WaitGroup).Done", "(*sync.WaitGroup).Wait", "internal/race.Acquire", "internal/synctest.IsAssociated[sync.WaitGroup]", "sync/atomic.CompareAndSwapUint64", "internal/race.Write", "sync.runtime_SemacquireWaitGroup"], unfollowed := true, recurses := true, leaving := true, apart := false, narrowed := true }
def PrimRealUptoSaid : Prop := primRealUptoRow.holds Tryz.pinned (OpenSpec.upto primRealSpec)

/-- 'docketlaw10.PrimAtOnce', WHERE WHAT IT READS IS OF BULK AT MOST 1048576: true; the input reads as it did. -/
def primAtOnceUptoRow : OpenClaim := { program := "ytnifpkopeheodaagreat", sum := "9cca3d83be3c07e45d72f7322718e82c84e75d3aa25f0cfcb1b7469540642565", func := "docket/docketlaw10.PrimAtOnce", spec := "primAtOnce", inPlace := ["sync/atomic.StoreInt64", "sync/atomic.StorePointer", "sync/atomic.AddInt64", "sync/atomic.LoadInt64", "sync/atomic.LoadPointer", "(*sync.WaitGroup).Add", "internal/race.ReleaseMerge", "internal/race.Disable", "internal/race.Enable", "internal/synctest.IsInBubble", "internal/synctest.Associate[sync.WaitGroup]", "sync.fatal", "sync/atomic.OrUint64", "sync/atomic.AddUint64", "internal/race.Read", "sync/atomic.LoadUint64", "sync/atomic.StoreUint64", "internal/synctest.Disassociate[sync.WaitGroup]", "sync.runtime_Semrelease", "(*sync.WaitGroup).Done", "(*sync.WaitGroup).Wait", "internal/race.Acquire", "internal/synctest.IsAssociated[sync.WaitGroup]", "sync/atomic.CompareAndSwapUint64", "internal/race.Write", "sync.runtime_SemacquireWaitGroup"], unfollowed := true, recurses := true, leaving := true, apart := false, narrowed := true }
def PrimAtOnceUptoSaid : Prop := primAtOnceUptoRow.holds Tryz.pinned (OpenSpec.upto primAtOnceSpec)

/-- 'docketlaw10.PrimNil', WHERE WHAT IT READS IS OF BULK AT MOST 1048576: true; the input reads as it did. -/
def primNilUptoRow : OpenClaim := { program := "ytnifpkopeheodaagreat", sum := "9cca3d83be3c07e45d72f7322718e82c84e75d3aa25f0cfcb1b7469540642565", func := "docket/docketlaw10.PrimNil", spec := "primNil", inPlace := ["sync/atomic.AddInt64", "sync/atomic.LoadInt64", "sync/atomic.LoadPointer", "sync/atomic.StorePointer", "(*sync.WaitGroup).Add", "internal/race.ReleaseMerge", "internal/race.Disable", "internal/race.Enable", "internal/synctest.IsInBubble", "internal/synctest.Associate[sync.WaitGroup]", "sync.fatal", "sync/atomic.OrUint64", "sync/atomic.AddUint64", "internal/race.Read", "sync/atomic.LoadUint64", "sync/atomic.StoreUint64", "internal/synctest.Disassociate[sync.WaitGroup]", "sync.runtime_Semrelease", "(*sync.WaitGroup).Done", "(*sync.WaitGroup).Wait", "internal/race.Acquire", "internal/synctest.IsAssociated[sync.WaitGroup]", "sync/atomic.CompareAndSwapUint64", "internal/race.Write", "sync.runtime_SemacquireWaitGroup", "sync/atomic.StoreInt64"], unfollowed := true, recurses := true, leaving := true, apart := false, narrowed := true }
def PrimNilUptoSaid : Prop := primNilUptoRow.holds Tryz.pinned (OpenSpec.upto primNilSpec)

end Rows
end Go.Proofs.YtnifpkopeheodaaGreat
