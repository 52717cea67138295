/-
  No cell of these rows narrows 'for every input' (looked for: loops, veiled, ifaces, maps, wideKeys, modest, calm, conditions, laid).
  DERIVED. THE GIVEN ROWS OF THIS SEAT. 9 by the template 'for every input the law returns true; each argument reads behind the call as it read before'; 0 by the template 'total and deterministic' (their statements: YtlopdjbehhdmpaaTotals.lean).
  GIVEN WITH THE SEED: the statements are not yours to turn. If you find one false, say at which input.
  Laid BY PROGRAM, IN A SANDBOX (cutbox-rows.mjs): the forced cells as the released guide's own fill.sh prints them over the translation c17316bc3ce26865… (all of the seat's roots in one cut). By AI agents, Wed Nov 11 2026. No macro, syntax, notation, axiom, sorry.
-/
import Derived.Test.YtlopdjbehhdmpaaChecked
import GoSem.Claim
import GoSem.ClaimJoined
import GoSem.ClaimMapViews
import Derived.JoinedTies
import Derived.KernelRfl
namespace Go.Proofs.Ytlopdjbehhdmpaa
/- THE CELL 'sum', in the pinned program and in every row, IS THE sha256 OF THE DUMP (.gsa) THAT YtlopdjbehhdmpaaProg.lean LOADS. Nothing in Lean hashes anything: it is a label: what it is worth is what the hold of that sum in a sandbox is worth. -/
noncomputable def Try.pinned : Pinned := { name := "ytlopdjbehhdmpaa", sum := "c17316bc3ce268655e56dbac399ac5811b4acda6b08832a4a6bc226044d76d72", checked := Try.checked }
namespace Rows
def none {H : Type} : Left H := { results := [], args := [] }

/-- 'docketlaw11.ClocksNames': WHATEVER THE INPUT: true; the input reads as it did. -/
def clocksNamesSpec : ChangeSpec := { name := "clocksNames", fn := fun _ => fun
  | [] => { results := [.lit (.bool true)], args := [] }
  | _ => none }
def clocksNamesRow : OpenClaim := { program := "ytlopdjbehhdmpaa", sum := "c17316bc3ce268655e56dbac399ac5811b4acda6b08832a4a6bc226044d76d72", func := "docket/docketlaw11.ClocksNames", spec := "clocksNames", unfollowed := true, recurses := true, plainKeys := false, apart := false }
def ClocksNamesSaid : Prop := clocksNamesRow.holds Try.pinned (OpenSpec.ofChange clocksNamesSpec)

/-- ITS FALSE NEIGHBOUR: 'it returns false'. Refute it at one input. -/
def clocksNamesWrong : ChangeSpec := { name := "clocksNames", fn := fun _ => fun
  | [] => { results := [.lit (.bool false)], args := [] }
  | _ => none }
def ClocksNamesWrongFalsely : Prop := clocksNamesRow.holds Try.pinned (OpenSpec.ofChange clocksNamesWrong)

/-- 'docketlaw11.ClocksTells': WHATEVER THE INPUT: true; the input reads as it did. -/
def clocksTellsSpec : ChangeSpec := { name := "clocksTells", fn := fun _ => fun
  | [d1, d2] => { results := [.lit (.bool true)], args := [d1, d2] }
  | _ => none }
def clocksTellsRow : OpenClaim := { program := "ytlopdjbehhdmpaa", sum := "c17316bc3ce268655e56dbac399ac5811b4acda6b08832a4a6bc226044d76d72", func := "docket/docketlaw11.ClocksTells", spec := "clocksTells", unfollowed := true, recurses := true, plainKeys := false, apart := false }
def ClocksTellsSaid : Prop := clocksTellsRow.holds Try.pinned (OpenSpec.ofChange clocksTellsSpec)

/-- ITS FALSE NEIGHBOUR: 'it returns false'. Refute it at one input. -/
def clocksTellsWrong : ChangeSpec := { name := "clocksTells", fn := fun _ => fun
  | [d1, d2] => { results := [.lit (.bool false)], args := [d1, d2] }
  | _ => none }
def ClocksTellsWrongFalsely : Prop := clocksTellsRow.holds Try.pinned (OpenSpec.ofChange clocksTellsWrong)

/-- 'docketlaw11.ClocksAhead': WHATEVER THE INPUT: true; the input reads as it did. -/
def clocksAheadSpec : ChangeSpec := { name := "clocksAhead", fn := fun _ => fun
  | [d1, d2, d3, d4] => { results := [.lit (.bool true)], args := [d1, d2, d3, d4] }
  | _ => none }
def clocksAheadRow : OpenClaim := { program := "ytlopdjbehhdmpaa", sum := "c17316bc3ce268655e56dbac399ac5811b4acda6b08832a4a6bc226044d76d72", func := "docket/docketlaw11.ClocksAhead", spec := "clocksAhead", unfollowed := true, recurses := true, plainKeys := false, apart := false }
def ClocksAheadSaid : Prop := clocksAheadRow.holds Try.pinned (OpenSpec.ofChange clocksAheadSpec)

/-- ITS FALSE NEIGHBOUR: 'it returns false'. Refute it at one input. -/
def clocksAheadWrong : ChangeSpec := { name := "clocksAhead", fn := fun _ => fun
  | [d1, d2, d3, d4] => { results := [.lit (.bool false)], args := [d1, d2, d3, d4] }
  | _ => none }
def ClocksAheadWrongFalsely : Prop := clocksAheadRow.holds Try.pinned (OpenSpec.ofChange clocksAheadWrong)

/-- 'docketlaw11.ClocksRaces': WHATEVER THE INPUT: true; the input reads as it did. -/
def clocksRacesSpec : ChangeSpec := { name := "clocksRaces", fn := fun _ => fun
  | [d1, d2] => { results := [.lit (.bool true)], args := [d1, d2] }
  | _ => none }
def clocksRacesRow : OpenClaim := { program := "ytlopdjbehhdmpaa", sum := "c17316bc3ce268655e56dbac399ac5811b4acda6b08832a4a6bc226044d76d72", func := "docket/docketlaw11.ClocksRaces", spec := "clocksRaces", unfollowed := true, recurses := true, plainKeys := false, apart := false }
def ClocksRacesSaid : Prop := clocksRacesRow.holds Try.pinned (OpenSpec.ofChange clocksRacesSpec)

/-- ITS FALSE NEIGHBOUR: 'it returns false'. Refute it at one input. -/
def clocksRacesWrong : ChangeSpec := { name := "clocksRaces", fn := fun _ => fun
  | [d1, d2] => { results := [.lit (.bool false)], args := [d1, d2] }
  | _ => none }
def ClocksRacesWrongFalsely : Prop := clocksRacesRow.holds Try.pinned (OpenSpec.ofChange clocksRacesWrong)

/-- 'docketlaw11.ClocksSees': WHATEVER THE INPUT: true; the input reads as it did. -/
def clocksSeesSpec : ChangeSpec := { name := "clocksSees", fn := fun _ => fun
  | [d1, d2, d3] => { results := [.lit (.bool true)], args := [d1, d2, d3] }
  | _ => none }
def clocksSeesRow : OpenClaim := { program := "ytlopdjbehhdmpaa", sum := "c17316bc3ce268655e56dbac399ac5811b4acda6b08832a4a6bc226044d76d72", func := "docket/docketlaw11.ClocksSees", spec := "clocksSees", unfollowed := true, recurses := true, plainKeys := false, apart := false }
def ClocksSeesSaid : Prop := clocksSeesRow.holds Try.pinned (OpenSpec.ofChange clocksSeesSpec)

/-- ITS FALSE NEIGHBOUR: 'it returns false'. Refute it at one input. -/
def clocksSeesWrong : ChangeSpec := { name := "clocksSees", fn := fun _ => fun
  | [d1, d2, d3] => { results := [.lit (.bool false)], args := [d1, d2, d3] }
  | _ => none }
def ClocksSeesWrongFalsely : Prop := clocksSeesRow.holds Try.pinned (OpenSpec.ofChange clocksSeesWrong)

/-- 'docketlaw11.ClocksOrder': WHATEVER THE INPUT: true; the input reads as it did. -/
def clocksOrderSpec : ChangeSpec := { name := "clocksOrder", fn := fun _ => fun
  | [d1, d2, d3, d4, d5] => { results := [.lit (.bool true)], args := [d1, d2, d3, d4, d5] }
  | _ => none }
def clocksOrderRow : OpenClaim := { program := "ytlopdjbehhdmpaa", sum := "c17316bc3ce268655e56dbac399ac5811b4acda6b08832a4a6bc226044d76d72", func := "docket/docketlaw11.ClocksOrder", spec := "clocksOrder", unfollowed := true, recurses := true, plainKeys := false, apart := false }
def ClocksOrderSaid : Prop := clocksOrderRow.holds Try.pinned (OpenSpec.ofChange clocksOrderSpec)

/-- ITS FALSE NEIGHBOUR: 'it returns false'. Refute it at one input. -/
def clocksOrderWrong : ChangeSpec := { name := "clocksOrder", fn := fun _ => fun
  | [d1, d2, d3, d4, d5] => { results := [.lit (.bool false)], args := [d1, d2, d3, d4, d5] }
  | _ => none }
def ClocksOrderWrongFalsely : Prop := clocksOrderRow.holds Try.pinned (OpenSpec.ofChange clocksOrderWrong)

/-- 'docketlaw11.ClocksFree': WHATEVER THE INPUT: true; the input reads as it did. -/
def clocksFreeSpec : ChangeSpec := { name := "clocksFree", fn := fun _ => fun
  | [d1, d2] => { results := [.lit (.bool true)], args := [d1, d2] }
  | _ => none }
def clocksFreeRow : OpenClaim := { program := "ytlopdjbehhdmpaa", sum := "c17316bc3ce268655e56dbac399ac5811b4acda6b08832a4a6bc226044d76d72", func := "docket/docketlaw11.ClocksFree", spec := "clocksFree", unfollowed := true, recurses := true, plainKeys := false, apart := false }
def ClocksFreeSaid : Prop := clocksFreeRow.holds Try.pinned (OpenSpec.ofChange clocksFreeSpec)

/-- ITS FALSE NEIGHBOUR: 'it returns false'. Refute it at one input. -/
def clocksFreeWrong : ChangeSpec := { name := "clocksFree", fn := fun _ => fun
  | [d1, d2] => { results := [.lit (.bool false)], args := [d1, d2] }
  | _ => none }
def ClocksFreeWrongFalsely : Prop := clocksFreeRow.holds Try.pinned (OpenSpec.ofChange clocksFreeWrong)

/-- 'docketlaw11.ClocksCuts': WHATEVER THE INPUT: true; the input reads as it did. -/
def clocksCutsSpec : ChangeSpec := { name := "clocksCuts", fn := fun _ => fun
  | [d1, d2, d3] => { results := [.lit (.bool true)], args := [d1, d2, d3] }
  | _ => none }
def clocksCutsRow : OpenClaim := { program := "ytlopdjbehhdmpaa", sum := "c17316bc3ce268655e56dbac399ac5811b4acda6b08832a4a6bc226044d76d72", func := "docket/docketlaw11.ClocksCuts", spec := "clocksCuts", unfollowed := true, recurses := true, plainKeys := false, apart := false }
def ClocksCutsSaid : Prop := clocksCutsRow.holds Try.pinned (OpenSpec.ofChange clocksCutsSpec)

/-- ITS FALSE NEIGHBOUR: 'it returns false'. Refute it at one input. -/
def clocksCutsWrong : ChangeSpec := { name := "clocksCuts", fn := fun _ => fun
  | [d1, d2, d3] => { results := [.lit (.bool false)], args := [d1, d2, d3] }
  | _ => none }
def ClocksCutsWrongFalsely : Prop := clocksCutsRow.holds Try.pinned (OpenSpec.ofChange clocksCutsWrong)

/-- 'docketlaw11.ClocksLocked': WHATEVER THE INPUT: true; the input reads as it did. -/
def clocksLockedSpec : ChangeSpec := { name := "clocksLocked", fn := fun _ => fun
  | [d1, d2, d3] => { results := [.lit (.bool true)], args := [d1, d2, d3] }
  | _ => none }
def clocksLockedRow : OpenClaim := { program := "ytlopdjbehhdmpaa", sum := "c17316bc3ce268655e56dbac399ac5811b4acda6b08832a4a6bc226044d76d72", func := "docket/docketlaw11.ClocksLocked", spec := "clocksLocked", unfollowed := true, recurses := true, plainKeys := false, apart := false }
def ClocksLockedSaid : Prop := clocksLockedRow.holds Try.pinned (OpenSpec.ofChange clocksLockedSpec)

/-- ITS FALSE NEIGHBOUR: 'it returns false'. Refute it at one input. -/
def clocksLockedWrong : ChangeSpec := { name := "clocksLocked", fn := fun _ => fun
  | [d1, d2, d3] => { results := [.lit (.bool false)], args := [d1, d2, d3] }
  | _ => none }
def ClocksLockedWrongFalsely : Prop := clocksLockedRow.holds Try.pinned (OpenSpec.ofChange clocksLockedWrong)

/- THE SECOND FORM. 'bulk': how many values and letters a reading holds, each counted each time it is reached (what is shared counts as often as it is met; a slice's spare places count too). A statement '..UptoSaid' is the law's where the arguments, and the package variables that the reading takes, are together of bulk at most 1048576: NARROWER than '..Said'. Prove '..Said' where nothing that the law and all that it calls make is longer than what came in: it says more and counts as full. Else prove '..UptoSaid'. A law counts once. -/
mutual
def uptoBulk {H : Type} : DataW H → Nat
  | .lit (.string bytes) => bytes.length + 1
  | .lit _ => 1
  | .nil => 1
  | .ptr d => uptoBulk d + 1
  | .slice elems spare => uptoBulkAll elems + uptoBulkAll spare + 1
  | .agg parts => uptoBulkAll parts + 1
  | .iface _ d => uptoBulk d + 1
  | .map entries => uptoBulkEntries entries + 1
  | .held _ => 1
def uptoBulkAll {H : Type} : List (DataW H) → Nat
  | [] => 0
  | d :: r => uptoBulk d + uptoBulkAll r
def uptoBulkEntries {H : Type} : List (Lit × DataW H) → Nat
  | [] => 0
  | x :: r => uptoBulkEntry x + uptoBulkEntries r
def uptoBulkEntry {H : Type} : Lit × DataW H → Nat
  | (.string bytes, d) => bytes.length + uptoBulk d + 1
  | (_, d) => uptoBulk d + 1
 end
def uptoSmall : (H : Type) → List (DataW H) → Bool := fun _ ds => decide (uptoBulkAll ds ≤ 1048576)
def OpenSpec.upto (s : _root_.Go.ChangeSpec) : _root_.Go.OpenSpec := { _root_.Go.OpenSpec.ofChange s with cond := some uptoSmall }

/-- 'docketlaw11.ClocksNames', WHERE WHAT IT READS IS OF BULK AT MOST 1048576: true; the input reads as it did. -/
def clocksNamesUptoRow : OpenClaim := { program := "ytlopdjbehhdmpaa", sum := "c17316bc3ce268655e56dbac399ac5811b4acda6b08832a4a6bc226044d76d72", func := "docket/docketlaw11.ClocksNames", spec := "clocksNames", unfollowed := true, recurses := true, plainKeys := false, apart := false, narrowed := true }
def ClocksNamesUptoSaid : Prop := clocksNamesUptoRow.holds Try.pinned (OpenSpec.upto clocksNamesSpec)

/-- 'docketlaw11.ClocksTells', WHERE WHAT IT READS IS OF BULK AT MOST 1048576: true; the input reads as it did. -/
def clocksTellsUptoRow : OpenClaim := { program := "ytlopdjbehhdmpaa", sum := "c17316bc3ce268655e56dbac399ac5811b4acda6b08832a4a6bc226044d76d72", func := "docket/docketlaw11.ClocksTells", spec := "clocksTells", unfollowed := true, recurses := true, plainKeys := false, apart := false, narrowed := true }
def ClocksTellsUptoSaid : Prop := clocksTellsUptoRow.holds Try.pinned (OpenSpec.upto clocksTellsSpec)

/-- 'docketlaw11.ClocksAhead', WHERE WHAT IT READS IS OF BULK AT MOST 1048576: true; the input reads as it did. -/
def clocksAheadUptoRow : OpenClaim := { program := "ytlopdjbehhdmpaa", sum := "c17316bc3ce268655e56dbac399ac5811b4acda6b08832a4a6bc226044d76d72", func := "docket/docketlaw11.ClocksAhead", spec := "clocksAhead", unfollowed := true, recurses := true, plainKeys := false, apart := false, narrowed := true }
def ClocksAheadUptoSaid : Prop := clocksAheadUptoRow.holds Try.pinned (OpenSpec.upto clocksAheadSpec)

/-- 'docketlaw11.ClocksRaces', WHERE WHAT IT READS IS OF BULK AT MOST 1048576: true; the input reads as it did. -/
def clocksRacesUptoRow : OpenClaim := { program := "ytlopdjbehhdmpaa", sum := "c17316bc3ce268655e56dbac399ac5811b4acda6b08832a4a6bc226044d76d72", func := "docket/docketlaw11.ClocksRaces", spec := "clocksRaces", unfollowed := true, recurses := true, plainKeys := false, apart := false, narrowed := true }
def ClocksRacesUptoSaid : Prop := clocksRacesUptoRow.holds Try.pinned (OpenSpec.upto clocksRacesSpec)

/-- 'docketlaw11.ClocksSees', WHERE WHAT IT READS IS OF BULK AT MOST 1048576: true; the input reads as it did. -/
def clocksSeesUptoRow : OpenClaim := { program := "ytlopdjbehhdmpaa", sum := "c17316bc3ce268655e56dbac399ac5811b4acda6b08832a4a6bc226044d76d72", func := "docket/docketlaw11.ClocksSees", spec := "clocksSees", unfollowed := true, recurses := true, plainKeys := false, apart := false, narrowed := true }
def ClocksSeesUptoSaid : Prop := clocksSeesUptoRow.holds Try.pinned (OpenSpec.upto clocksSeesSpec)

/-- 'docketlaw11.ClocksOrder', WHERE WHAT IT READS IS OF BULK AT MOST 1048576: true; the input reads as it did. -/
def clocksOrderUptoRow : OpenClaim := { program := "ytlopdjbehhdmpaa", sum := "c17316bc3ce268655e56dbac399ac5811b4acda6b08832a4a6bc226044d76d72", func := "docket/docketlaw11.ClocksOrder", spec := "clocksOrder", unfollowed := true, recurses := true, plainKeys := false, apart := false, narrowed := true }
def ClocksOrderUptoSaid : Prop := clocksOrderUptoRow.holds Try.pinned (OpenSpec.upto clocksOrderSpec)

/-- 'docketlaw11.ClocksFree', WHERE WHAT IT READS IS OF BULK AT MOST 1048576: true; the input reads as it did. -/
def clocksFreeUptoRow : OpenClaim := { program := "ytlopdjbehhdmpaa", sum := "c17316bc3ce268655e56dbac399ac5811b4acda6b08832a4a6bc226044d76d72", func := "docket/docketlaw11.ClocksFree", spec := "clocksFree", unfollowed := true, recurses := true, plainKeys := false, apart := false, narrowed := true }
def ClocksFreeUptoSaid : Prop := clocksFreeUptoRow.holds Try.pinned (OpenSpec.upto clocksFreeSpec)

/-- 'docketlaw11.ClocksCuts', WHERE WHAT IT READS IS OF BULK AT MOST 1048576: true; the input reads as it did. -/
def clocksCutsUptoRow : OpenClaim := { program := "ytlopdjbehhdmpaa", sum := "c17316bc3ce268655e56dbac399ac5811b4acda6b08832a4a6bc226044d76d72", func := "docket/docketlaw11.ClocksCuts", spec := "clocksCuts", unfollowed := true, recurses := true, plainKeys := false, apart := false, narrowed := true }
def ClocksCutsUptoSaid : Prop := clocksCutsUptoRow.holds Try.pinned (OpenSpec.upto clocksCutsSpec)

/-- 'docketlaw11.ClocksLocked', WHERE WHAT IT READS IS OF BULK AT MOST 1048576: true; the input reads as it did. -/
def clocksLockedUptoRow : OpenClaim := { program := "ytlopdjbehhdmpaa", sum := "c17316bc3ce268655e56dbac399ac5811b4acda6b08832a4a6bc226044d76d72", func := "docket/docketlaw11.ClocksLocked", spec := "clocksLocked", unfollowed := true, recurses := true, plainKeys := false, apart := false, narrowed := true }
def ClocksLockedUptoSaid : Prop := clocksLockedUptoRow.holds Try.pinned (OpenSpec.upto clocksLockedSpec)

end Rows
end Go.Proofs.Ytlopdjbehhdmpaa
