/-
  No cell of these rows narrows 'for every input' (looked for: loops, veiled, ifaces, maps, wideKeys, modest, calm, conditions, laid).
  DERIVED. THE GIVEN ROWS OF THIS SEAT. 7 by the template 'for every input the law returns true; each argument reads behind the call as it read before'; 0 by the template 'total and deterministic' (their statements: YtehkaiildchmfaaTotals.lean).
  GIVEN WITH THE SEED: the statements are not yours to turn. If you find one false, say at which input.
  Laid BY PROGRAM, IN A SANDBOX (cutbox-rows.mjs): the forced cells as the released guide's own fill.sh prints them over the translation ed9792f961dd5e82… (all of the seat's roots in one cut). By AI agents, Wed Nov 11 2026. No macro, syntax, notation, axiom, sorry.
-/
import Derived.Test.YtehkaiildchmfaaChecked
import GoSem.Claim
import GoSem.ClaimJoined
import GoSem.ClaimMapViews
import Derived.JoinedTies
import Derived.KernelRfl
namespace Go.Proofs.Ytehkaiildchmfaa
/- THE CELL 'sum', in the pinned program and in every row, IS THE sha256 OF THE DUMP (.gsa) THAT YtehkaiildchmfaaProg.lean LOADS. Nothing in Lean hashes anything: it is a label: what it is worth is what the hold of that sum in a sandbox is worth. -/
noncomputable def Try.pinned : Pinned := { name := "ytehkaiildchmfaa", sum := "ed9792f961dd5e82e253bbf797e63c16528439d7e24c83b0f64ec729d3212fd7", checked := Try.checked }
namespace Rows
def none {H : Type} : Left H := { results := [], args := [] }

/-- 'falseworklaw04.CalendarMonths': WHATEVER THE INPUT: true; the input reads as it did. -/
def calendarMonthsSpec : ChangeSpec := { name := "calendarMonths", fn := fun _ => fun
  | [d1, d2] => { results := [.lit (.bool true)], args := [d1, d2] }
  | _ => none }
def calendarMonthsRow : OpenClaim := { program := "ytehkaiildchmfaa", sum := "ed9792f961dd5e82e253bbf797e63c16528439d7e24c83b0f64ec729d3212fd7", func := "falsework/falseworklaw04.CalendarMonths", spec := "calendarMonths", apart := false }
def CalendarMonthsSaid : Prop := calendarMonthsRow.holds Try.pinned (OpenSpec.ofChange calendarMonthsSpec)

/-- ITS FALSE NEIGHBOUR: 'it returns false'. Refute it at one input. -/
def calendarMonthsWrong : ChangeSpec := { name := "calendarMonths", fn := fun _ => fun
  | [d1, d2] => { results := [.lit (.bool false)], args := [d1, d2] }
  | _ => none }
def CalendarMonthsWrongFalsely : Prop := calendarMonthsRow.holds Try.pinned (OpenSpec.ofChange calendarMonthsWrong)

/-- 'falseworklaw04.CalendarTwelve': WHATEVER THE INPUT: true; the input reads as it did. -/
def calendarTwelveSpec : ChangeSpec := { name := "calendarTwelve", fn := fun _ => fun
  | [d1, d2, d3] => { results := [.lit (.bool true)], args := [d1, d2, d3] }
  | _ => none }
def calendarTwelveRow : OpenClaim := { program := "ytehkaiildchmfaa", sum := "ed9792f961dd5e82e253bbf797e63c16528439d7e24c83b0f64ec729d3212fd7", func := "falsework/falseworklaw04.CalendarTwelve", spec := "calendarTwelve", apart := false }
def CalendarTwelveSaid : Prop := calendarTwelveRow.holds Try.pinned (OpenSpec.ofChange calendarTwelveSpec)

/-- ITS FALSE NEIGHBOUR: 'it returns false'. Refute it at one input. -/
def calendarTwelveWrong : ChangeSpec := { name := "calendarTwelve", fn := fun _ => fun
  | [d1, d2, d3] => { results := [.lit (.bool false)], args := [d1, d2, d3] }
  | _ => none }
def CalendarTwelveWrongFalsely : Prop := calendarTwelveRow.holds Try.pinned (OpenSpec.ofChange calendarTwelveWrong)

/-- 'falseworklaw04.CalendarNames': WHATEVER THE INPUT: true; the input reads as it did. -/
def calendarNamesSpec : ChangeSpec := { name := "calendarNames", fn := fun _ => fun
  | [] => { results := [.lit (.bool true)], args := [] }
  | _ => none }
def calendarNamesRow : OpenClaim := { program := "ytehkaiildchmfaa", sum := "ed9792f961dd5e82e253bbf797e63c16528439d7e24c83b0f64ec729d3212fd7", func := "falsework/falseworklaw04.CalendarNames", spec := "calendarNames", apart := false }
def CalendarNamesSaid : Prop := calendarNamesRow.holds Try.pinned (OpenSpec.ofChange calendarNamesSpec)

/-- ITS FALSE NEIGHBOUR: 'it returns false'. Refute it at one input. -/
def calendarNamesWrong : ChangeSpec := { name := "calendarNames", fn := fun _ => fun
  | [] => { results := [.lit (.bool false)], args := [] }
  | _ => none }
def CalendarNamesWrongFalsely : Prop := calendarNamesRow.holds Try.pinned (OpenSpec.ofChange calendarNamesWrong)

/-- 'falseworklaw04.CalendarBetween': WHATEVER THE INPUT: true; the input reads as it did. -/
def calendarBetweenSpec : ChangeSpec := { name := "calendarBetween", fn := fun _ => fun
  | [d1, d2, d3] => { results := [.lit (.bool true)], args := [d1, d2, d3] }
  | _ => none }
def calendarBetweenRow : OpenClaim := { program := "ytehkaiildchmfaa", sum := "ed9792f961dd5e82e253bbf797e63c16528439d7e24c83b0f64ec729d3212fd7", func := "falsework/falseworklaw04.CalendarBetween", spec := "calendarBetween", apart := false }
def CalendarBetweenSaid : Prop := calendarBetweenRow.holds Try.pinned (OpenSpec.ofChange calendarBetweenSpec)

/-- ITS FALSE NEIGHBOUR: 'it returns false'. Refute it at one input. -/
def calendarBetweenWrong : ChangeSpec := { name := "calendarBetween", fn := fun _ => fun
  | [d1, d2, d3] => { results := [.lit (.bool false)], args := [d1, d2, d3] }
  | _ => none }
def CalendarBetweenWrongFalsely : Prop := calendarBetweenRow.holds Try.pinned (OpenSpec.ofChange calendarBetweenWrong)

/-- 'falseworklaw04.CalendarRolls': WHATEVER THE INPUT: true; the input reads as it did. -/
def calendarRollsSpec : ChangeSpec := { name := "calendarRolls", fn := fun _ => fun
  | [d1, d2] => { results := [.lit (.bool true)], args := [d1, d2] }
  | _ => none }
def calendarRollsRow : OpenClaim := { program := "ytehkaiildchmfaa", sum := "ed9792f961dd5e82e253bbf797e63c16528439d7e24c83b0f64ec729d3212fd7", func := "falsework/falseworklaw04.CalendarRolls", spec := "calendarRolls", apart := false }
def CalendarRollsSaid : Prop := calendarRollsRow.holds Try.pinned (OpenSpec.ofChange calendarRollsSpec)

/-- ITS FALSE NEIGHBOUR: 'it returns false'. Refute it at one input. -/
def calendarRollsWrong : ChangeSpec := { name := "calendarRolls", fn := fun _ => fun
  | [d1, d2] => { results := [.lit (.bool false)], args := [d1, d2] }
  | _ => none }
def CalendarRollsWrongFalsely : Prop := calendarRollsRow.holds Try.pinned (OpenSpec.ofChange calendarRollsWrong)

/-- 'falseworklaw04.CalendarCounts': WHATEVER THE INPUT: true; the input reads as it did. -/
def calendarCountsSpec : ChangeSpec := { name := "calendarCounts", fn := fun _ => fun
  | [d1, d2] => { results := [.lit (.bool true)], args := [d1, d2] }
  | _ => none }
def calendarCountsRow : OpenClaim := { program := "ytehkaiildchmfaa", sum := "ed9792f961dd5e82e253bbf797e63c16528439d7e24c83b0f64ec729d3212fd7", func := "falsework/falseworklaw04.CalendarCounts", spec := "calendarCounts", apart := false }
def CalendarCountsSaid : Prop := calendarCountsRow.holds Try.pinned (OpenSpec.ofChange calendarCountsSpec)

/-- ITS FALSE NEIGHBOUR: 'it returns false'. Refute it at one input. -/
def calendarCountsWrong : ChangeSpec := { name := "calendarCounts", fn := fun _ => fun
  | [d1, d2] => { results := [.lit (.bool false)], args := [d1, d2] }
  | _ => none }
def CalendarCountsWrongFalsely : Prop := calendarCountsRow.holds Try.pinned (OpenSpec.ofChange calendarCountsWrong)

/-- 'falseworklaw04.CalendarNear': WHATEVER THE INPUT: true; the input reads as it did. -/
def calendarNearSpec : ChangeSpec := { name := "calendarNear", fn := fun _ => fun
  | [d1, d2] => { results := [.lit (.bool true)], args := [d1, d2] }
  | _ => none }
def calendarNearRow : OpenClaim := { program := "ytehkaiildchmfaa", sum := "ed9792f961dd5e82e253bbf797e63c16528439d7e24c83b0f64ec729d3212fd7", func := "falsework/falseworklaw04.CalendarNear", spec := "calendarNear", apart := false }
def CalendarNearSaid : Prop := calendarNearRow.holds Try.pinned (OpenSpec.ofChange calendarNearSpec)

/-- ITS FALSE NEIGHBOUR: 'it returns false'. Refute it at one input. -/
def calendarNearWrong : ChangeSpec := { name := "calendarNear", fn := fun _ => fun
  | [d1, d2] => { results := [.lit (.bool false)], args := [d1, d2] }
  | _ => none }
def CalendarNearWrongFalsely : Prop := calendarNearRow.holds Try.pinned (OpenSpec.ofChange calendarNearWrong)

/- THE SECOND FORM. 'bulk': how many values and letters a reading holds, each counted each time it is reached (what is shared counts as often as it is met; a slice's spare places count too). A statement '..UptoSaid' is the law's where the arguments, and the package variables that the reading takes, are together of bulk at most 1048576: NARROWER than '..Said'. Prove '..Said' where nothing that the law and all that it calls make is longer than what came in: it says more and counts as full. Else prove '..UptoSaid'. A law counts once. -/
mutual
def uptoBulk {H : Type} : DataW H → Nat
  | .lit (.string bytes) => bytes.length + 1
  | .lit _ => 1
  | .nil => 1
  | .ptr d => uptoBulk d + 1
  | .slice elems spare => uptoBulkAll elems + uptoBulkAll spare + 1
  | .agg parts => uptoBulkAll parts + 1
  | .iface _ d => uptoBulk d + 1
  | .map entries => uptoBulkEntries entries + 1
  | .held _ => 1
def uptoBulkAll {H : Type} : List (DataW H) → Nat
  | [] => 0
  | d :: r => uptoBulk d + uptoBulkAll r
def uptoBulkEntries {H : Type} : List (Lit × DataW H) → Nat
  | [] => 0
  | x :: r => uptoBulkEntry x + uptoBulkEntries r
def uptoBulkEntry {H : Type} : Lit × DataW H → Nat
  | (.string bytes, d) => bytes.length + uptoBulk d + 1
  | (_, d) => uptoBulk d + 1
 end
def uptoSmall : (H : Type) → List (DataW H) → Bool := fun _ ds => decide (uptoBulkAll ds ≤ 1048576)
def OpenSpec.upto (s : _root_.Go.ChangeSpec) : _root_.Go.OpenSpec := { _root_.Go.OpenSpec.ofChange s with cond := some uptoSmall }

/-- 'falseworklaw04.CalendarMonths', WHERE WHAT IT READS IS OF BULK AT MOST 1048576: true; the input reads as it did. -/
def calendarMonthsUptoRow : OpenClaim := { program := "ytehkaiildchmfaa", sum := "ed9792f961dd5e82e253bbf797e63c16528439d7e24c83b0f64ec729d3212fd7", func := "falsework/falseworklaw04.CalendarMonths", spec := "calendarMonths", apart := false, narrowed := true }
def CalendarMonthsUptoSaid : Prop := calendarMonthsUptoRow.holds Try.pinned (OpenSpec.upto calendarMonthsSpec)

/-- 'falseworklaw04.CalendarTwelve', WHERE WHAT IT READS IS OF BULK AT MOST 1048576: true; the input reads as it did. -/
def calendarTwelveUptoRow : OpenClaim := { program := "ytehkaiildchmfaa", sum := "ed9792f961dd5e82e253bbf797e63c16528439d7e24c83b0f64ec729d3212fd7", func := "falsework/falseworklaw04.CalendarTwelve", spec := "calendarTwelve", apart := false, narrowed := true }
def CalendarTwelveUptoSaid : Prop := calendarTwelveUptoRow.holds Try.pinned (OpenSpec.upto calendarTwelveSpec)

/-- 'falseworklaw04.CalendarNames', WHERE WHAT IT READS IS OF BULK AT MOST 1048576: true; the input reads as it did. -/
def calendarNamesUptoRow : OpenClaim := { program := "ytehkaiildchmfaa", sum := "ed9792f961dd5e82e253bbf797e63c16528439d7e24c83b0f64ec729d3212fd7", func := "falsework/falseworklaw04.CalendarNames", spec := "calendarNames", apart := false, narrowed := true }
def CalendarNamesUptoSaid : Prop := calendarNamesUptoRow.holds Try.pinned (OpenSpec.upto calendarNamesSpec)

/-- 'falseworklaw04.CalendarBetween', WHERE WHAT IT READS IS OF BULK AT MOST 1048576: true; the input reads as it did. -/
def calendarBetweenUptoRow : OpenClaim := { program := "ytehkaiildchmfaa", sum := "ed9792f961dd5e82e253bbf797e63c16528439d7e24c83b0f64ec729d3212fd7", func := "falsework/falseworklaw04.CalendarBetween", spec := "calendarBetween", apart := false, narrowed := true }
def CalendarBetweenUptoSaid : Prop := calendarBetweenUptoRow.holds Try.pinned (OpenSpec.upto calendarBetweenSpec)

/-- 'falseworklaw04.CalendarRolls', WHERE WHAT IT READS IS OF BULK AT MOST 1048576: true; the input reads as it did. -/
def calendarRollsUptoRow : OpenClaim := { program := "ytehkaiildchmfaa", sum := "ed9792f961dd5e82e253bbf797e63c16528439d7e24c83b0f64ec729d3212fd7", func := "falsework/falseworklaw04.CalendarRolls", spec := "calendarRolls", apart := false, narrowed := true }
def CalendarRollsUptoSaid : Prop := calendarRollsUptoRow.holds Try.pinned (OpenSpec.upto calendarRollsSpec)

/-- 'falseworklaw04.CalendarCounts', WHERE WHAT IT READS IS OF BULK AT MOST 1048576: true; the input reads as it did. -/
def calendarCountsUptoRow : OpenClaim := { program := "ytehkaiildchmfaa", sum := "ed9792f961dd5e82e253bbf797e63c16528439d7e24c83b0f64ec729d3212fd7", func := "falsework/falseworklaw04.CalendarCounts", spec := "calendarCounts", apart := false, narrowed := true }
def CalendarCountsUptoSaid : Prop := calendarCountsUptoRow.holds Try.pinned (OpenSpec.upto calendarCountsSpec)

/-- 'falseworklaw04.CalendarNear', WHERE WHAT IT READS IS OF BULK AT MOST 1048576: true; the input reads as it did. -/
def calendarNearUptoRow : OpenClaim := { program := "ytehkaiildchmfaa", sum := "ed9792f961dd5e82e253bbf797e63c16528439d7e24c83b0f64ec729d3212fd7", func := "falsework/falseworklaw04.CalendarNear", spec := "calendarNear", apart := false, narrowed := true }
def CalendarNearUptoSaid : Prop := calendarNearUptoRow.holds Try.pinned (OpenSpec.upto calendarNearSpec)

end Rows
end Go.Proofs.Ytehkaiildchmfaa
