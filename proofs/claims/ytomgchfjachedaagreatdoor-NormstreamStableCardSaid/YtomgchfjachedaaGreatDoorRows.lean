/-
  NARROWER THAN 'FOR EVERY INPUT', by the rows' own cells (each row's printed sentence says how): QuickcheckSets: laid · QuickcheckMembers: laid · NormstreamOpens: laid · NormstreamWrites: laid · NormstreamWhole: laid · NormstreamWaits: laid · NormstreamLimits: laid · NormstreamSteps: laid · NormstreamStable: laid.
  DERIVED. THE GIVEN ROWS OF THIS SEAT. 9 by the template 'for every input the law returns true; each argument reads behind the call as it read before'; 0 by the template 'total and deterministic' (their statements: YtomgchfjachedaaGreatDoorTotals.lean).
  GIVEN WITH THE SEED: the statements are not yours to turn. If you find one false, say at which input.
  Laid BY PROGRAM, IN A SANDBOX (cutbox-rows.mjs): the forced cells as the released guide's own fill.sh prints them over the translation 8bd1c251c53c59be… (all of the seat's roots in one cut). By AI agents, Wed Nov 11 2026. No macro, syntax, notation, axiom, sorry.
-/
import Derived.Test.YtomgchfjachedaaGreatDoorChecked
import GoSem.Claim
import GoSem.ClaimJoined
import GoSem.ClaimMapViews
import Derived.JoinedTies
import Derived.KernelRfl
namespace Go.Proofs.YtomgchfjachedaaGreatDoor
/- THE CELL 'sum', in the pinned program and in every row, IS THE sha256 OF THE DUMP (.gsa) THAT YtomgchfjachedaaGreatDoorProg.lean LOADS. Nothing in Lean hashes anything: it is a label: what it is worth is what the hold of that sum in a sandbox is worth. -/
noncomputable def Tryz.pinned : Pinned := { name := "ytomgchfjachedaagreatdoor", sum := "8bd1c251c53c59beca7c0133ccb24c5ca70f47941f925c19e301b8185a08249b", checked := Tryz.checked }
namespace Rows
def none {H : Type} : Left H := { results := [], args := [] }

/- WHAT THE LISTED PACKAGE-LEVEL VARIABLES READ AS WHEN THE CALL BEGINS. Each datum BY PROGRAM (the guide's laid-datum.mjs) off the statement by which the dump's own 'gosem.cut.vars' lays the variable. In a bare row this is a premise. The card (YtomgchfjachedaaGreatDoorCards.lean) ties it to the program's text. -/
def laid_unicodetext_ordering_hangulRanges {H : Type} : DataW H := .agg [.agg [.lit (.int .i64 4352), .lit (.int .i64 4370)], .agg [.lit (.int .i64 4449), .lit (.int .i64 4469)], .agg [.lit (.int .i64 4520), .lit (.int .i64 4546)], .agg [.lit (.int .i64 44032), .lit (.int .i64 55203)]]

/-- 'unicodetextlaw24.QuickcheckSets': WHATEVER THE INPUT: true; the input reads as it did. -/
def quickcheckSetsSpec : ChangeSpec := { name := "quickcheckSets", fn := fun _ => fun
  | [d1, d2] => { results := [.lit (.bool true)], args := [d1, d2] }
  | _ => none }
def quickcheckSetsRow : OpenClaim := { program := "ytomgchfjachedaagreatdoor", sum := "8bd1c251c53c59beca7c0133ccb24c5ca70f47941f925c19e301b8185a08249b", func := "unicodetext/unicodetextlaw24.QuickcheckSets", spec := "quickcheckSets", unfollowed := true, recurses := true, named := ["unicodetext/ordering.hangulRanges"], plainKeys := false, apart := false, laid := [("unicodetext/ordering.hangulRanges", laid_unicodetext_ordering_hangulRanges)] }
def QuickcheckSetsSaid : Prop := quickcheckSetsRow.holds Tryz.pinned (OpenSpec.ofChange quickcheckSetsSpec)

/-- ITS FALSE NEIGHBOUR: 'it returns false'. Refute it at one input. -/
def quickcheckSetsWrong : ChangeSpec := { name := "quickcheckSets", fn := fun _ => fun
  | [d1, d2] => { results := [.lit (.bool false)], args := [d1, d2] }
  | _ => none }
def QuickcheckSetsWrongFalsely : Prop := quickcheckSetsRow.holds Tryz.pinned (OpenSpec.ofChange quickcheckSetsWrong)

/-- 'unicodetextlaw24.QuickcheckMembers': WHATEVER THE INPUT: true; the input reads as it did. -/
def quickcheckMembersSpec : ChangeSpec := { name := "quickcheckMembers", fn := fun _ => fun
  | [d1, d2, d3] => { results := [.lit (.bool true)], args := [d1, d2, d3] }
  | _ => none }
def quickcheckMembersRow : OpenClaim := { program := "ytomgchfjachedaagreatdoor", sum := "8bd1c251c53c59beca7c0133ccb24c5ca70f47941f925c19e301b8185a08249b", func := "unicodetext/unicodetextlaw24.QuickcheckMembers", spec := "quickcheckMembers", unfollowed := true, recurses := true, named := ["unicodetext/ordering.hangulRanges"], plainKeys := false, apart := false, laid := [("unicodetext/ordering.hangulRanges", laid_unicodetext_ordering_hangulRanges)] }
def QuickcheckMembersSaid : Prop := quickcheckMembersRow.holds Tryz.pinned (OpenSpec.ofChange quickcheckMembersSpec)

/-- ITS FALSE NEIGHBOUR: 'it returns false'. Refute it at one input. -/
def quickcheckMembersWrong : ChangeSpec := { name := "quickcheckMembers", fn := fun _ => fun
  | [d1, d2, d3] => { results := [.lit (.bool false)], args := [d1, d2, d3] }
  | _ => none }
def QuickcheckMembersWrongFalsely : Prop := quickcheckMembersRow.holds Tryz.pinned (OpenSpec.ofChange quickcheckMembersWrong)

/-- 'unicodetextlaw25.NormstreamOpens': WHATEVER THE INPUT: true; the input reads as it did. -/
def normstreamOpensSpec : ChangeSpec := { name := "normstreamOpens", fn := fun _ => fun
  | [d1, d2, d3] => { results := [.lit (.bool true)], args := [d1, d2, d3] }
  | _ => none }
def normstreamOpensRow : OpenClaim := { program := "ytomgchfjachedaagreatdoor", sum := "8bd1c251c53c59beca7c0133ccb24c5ca70f47941f925c19e301b8185a08249b", func := "unicodetext/unicodetextlaw25.NormstreamOpens", spec := "normstreamOpens", unfollowed := true, recurses := true, named := ["unicodetext/ordering.hangulRanges"], plainKeys := false, apart := false, laid := [("unicodetext/ordering.hangulRanges", laid_unicodetext_ordering_hangulRanges)] }
def NormstreamOpensSaid : Prop := normstreamOpensRow.holds Tryz.pinned (OpenSpec.ofChange normstreamOpensSpec)

/-- ITS FALSE NEIGHBOUR: 'it returns false'. Refute it at one input. -/
def normstreamOpensWrong : ChangeSpec := { name := "normstreamOpens", fn := fun _ => fun
  | [d1, d2, d3] => { results := [.lit (.bool false)], args := [d1, d2, d3] }
  | _ => none }
def NormstreamOpensWrongFalsely : Prop := normstreamOpensRow.holds Tryz.pinned (OpenSpec.ofChange normstreamOpensWrong)

/-- 'unicodetextlaw25.NormstreamWrites': WHATEVER THE INPUT: true; the input reads as it did. -/
def normstreamWritesSpec : ChangeSpec := { name := "normstreamWrites", fn := fun _ => fun
  | [d1, d2, d3] => { results := [.lit (.bool true)], args := [d1, d2, d3] }
  | _ => none }
def normstreamWritesRow : OpenClaim := { program := "ytomgchfjachedaagreatdoor", sum := "8bd1c251c53c59beca7c0133ccb24c5ca70f47941f925c19e301b8185a08249b", func := "unicodetext/unicodetextlaw25.NormstreamWrites", spec := "normstreamWrites", unfollowed := true, recurses := true, named := ["unicodetext/ordering.hangulRanges"], plainKeys := false, apart := false, laid := [("unicodetext/ordering.hangulRanges", laid_unicodetext_ordering_hangulRanges)] }
def NormstreamWritesSaid : Prop := normstreamWritesRow.holds Tryz.pinned (OpenSpec.ofChange normstreamWritesSpec)

/-- ITS FALSE NEIGHBOUR: 'it returns false'. Refute it at one input. -/
def normstreamWritesWrong : ChangeSpec := { name := "normstreamWrites", fn := fun _ => fun
  | [d1, d2, d3] => { results := [.lit (.bool false)], args := [d1, d2, d3] }
  | _ => none }
def NormstreamWritesWrongFalsely : Prop := normstreamWritesRow.holds Tryz.pinned (OpenSpec.ofChange normstreamWritesWrong)

/-- 'unicodetextlaw25.NormstreamWhole': WHATEVER THE INPUT: true; the input reads as it did. -/
def normstreamWholeSpec : ChangeSpec := { name := "normstreamWhole", fn := fun _ => fun
  | [d1, d2, d3] => { results := [.lit (.bool true)], args := [d1, d2, d3] }
  | _ => none }
def normstreamWholeRow : OpenClaim := { program := "ytomgchfjachedaagreatdoor", sum := "8bd1c251c53c59beca7c0133ccb24c5ca70f47941f925c19e301b8185a08249b", func := "unicodetext/unicodetextlaw25.NormstreamWhole", spec := "normstreamWhole", unfollowed := true, recurses := true, named := ["unicodetext/ordering.hangulRanges"], plainKeys := false, apart := false, laid := [("unicodetext/ordering.hangulRanges", laid_unicodetext_ordering_hangulRanges)] }
def NormstreamWholeSaid : Prop := normstreamWholeRow.holds Tryz.pinned (OpenSpec.ofChange normstreamWholeSpec)

/-- ITS FALSE NEIGHBOUR: 'it returns false'. Refute it at one input. -/
def normstreamWholeWrong : ChangeSpec := { name := "normstreamWhole", fn := fun _ => fun
  | [d1, d2, d3] => { results := [.lit (.bool false)], args := [d1, d2, d3] }
  | _ => none }
def NormstreamWholeWrongFalsely : Prop := normstreamWholeRow.holds Tryz.pinned (OpenSpec.ofChange normstreamWholeWrong)

/-- 'unicodetextlaw25.NormstreamWaits': WHATEVER THE INPUT: true; the input reads as it did. -/
def normstreamWaitsSpec : ChangeSpec := { name := "normstreamWaits", fn := fun _ => fun
  | [d1, d2, d3] => { results := [.lit (.bool true)], args := [d1, d2, d3] }
  | _ => none }
def normstreamWaitsRow : OpenClaim := { program := "ytomgchfjachedaagreatdoor", sum := "8bd1c251c53c59beca7c0133ccb24c5ca70f47941f925c19e301b8185a08249b", func := "unicodetext/unicodetextlaw25.NormstreamWaits", spec := "normstreamWaits", unfollowed := true, recurses := true, named := ["unicodetext/ordering.hangulRanges"], plainKeys := false, apart := false, laid := [("unicodetext/ordering.hangulRanges", laid_unicodetext_ordering_hangulRanges)] }
def NormstreamWaitsSaid : Prop := normstreamWaitsRow.holds Tryz.pinned (OpenSpec.ofChange normstreamWaitsSpec)

/-- ITS FALSE NEIGHBOUR: 'it returns false'. Refute it at one input. -/
def normstreamWaitsWrong : ChangeSpec := { name := "normstreamWaits", fn := fun _ => fun
  | [d1, d2, d3] => { results := [.lit (.bool false)], args := [d1, d2, d3] }
  | _ => none }
def NormstreamWaitsWrongFalsely : Prop := normstreamWaitsRow.holds Tryz.pinned (OpenSpec.ofChange normstreamWaitsWrong)

/-- 'unicodetextlaw25.NormstreamLimits': WHATEVER THE INPUT: true; the input reads as it did. -/
def normstreamLimitsSpec : ChangeSpec := { name := "normstreamLimits", fn := fun _ => fun
  | [d1, d2] => { results := [.lit (.bool true)], args := [d1, d2] }
  | _ => none }
def normstreamLimitsRow : OpenClaim := { program := "ytomgchfjachedaagreatdoor", sum := "8bd1c251c53c59beca7c0133ccb24c5ca70f47941f925c19e301b8185a08249b", func := "unicodetext/unicodetextlaw25.NormstreamLimits", spec := "normstreamLimits", unfollowed := true, recurses := true, named := ["unicodetext/ordering.hangulRanges"], plainKeys := false, apart := false, laid := [("unicodetext/ordering.hangulRanges", laid_unicodetext_ordering_hangulRanges)] }
def NormstreamLimitsSaid : Prop := normstreamLimitsRow.holds Tryz.pinned (OpenSpec.ofChange normstreamLimitsSpec)

/-- ITS FALSE NEIGHBOUR: 'it returns false'. Refute it at one input. -/
def normstreamLimitsWrong : ChangeSpec := { name := "normstreamLimits", fn := fun _ => fun
  | [d1, d2] => { results := [.lit (.bool false)], args := [d1, d2] }
  | _ => none }
def NormstreamLimitsWrongFalsely : Prop := normstreamLimitsRow.holds Tryz.pinned (OpenSpec.ofChange normstreamLimitsWrong)

/-- 'unicodetextlaw25.NormstreamSteps': WHATEVER THE INPUT: true; the input reads as it did. -/
def normstreamStepsSpec : ChangeSpec := { name := "normstreamSteps", fn := fun _ => fun
  | [d1, d2, d3] => { results := [.lit (.bool true)], args := [d1, d2, d3] }
  | _ => none }
def normstreamStepsRow : OpenClaim := { program := "ytomgchfjachedaagreatdoor", sum := "8bd1c251c53c59beca7c0133ccb24c5ca70f47941f925c19e301b8185a08249b", func := "unicodetext/unicodetextlaw25.NormstreamSteps", spec := "normstreamSteps", unfollowed := true, recurses := true, named := ["unicodetext/ordering.hangulRanges"], plainKeys := false, apart := false, laid := [("unicodetext/ordering.hangulRanges", laid_unicodetext_ordering_hangulRanges)] }
def NormstreamStepsSaid : Prop := normstreamStepsRow.holds Tryz.pinned (OpenSpec.ofChange normstreamStepsSpec)

/-- ITS FALSE NEIGHBOUR: 'it returns false'. Refute it at one input. -/
def normstreamStepsWrong : ChangeSpec := { name := "normstreamSteps", fn := fun _ => fun
  | [d1, d2, d3] => { results := [.lit (.bool false)], args := [d1, d2, d3] }
  | _ => none }
def NormstreamStepsWrongFalsely : Prop := normstreamStepsRow.holds Tryz.pinned (OpenSpec.ofChange normstreamStepsWrong)

/-- 'unicodetextlaw25.NormstreamStable': WHATEVER THE INPUT: true; the input reads as it did. -/
def normstreamStableSpec : ChangeSpec := { name := "normstreamStable", fn := fun _ => fun
  | [d1, d2, d3] => { results := [.lit (.bool true)], args := [d1, d2, d3] }
  | _ => none }
def normstreamStableRow : OpenClaim := { program := "ytomgchfjachedaagreatdoor", sum := "8bd1c251c53c59beca7c0133ccb24c5ca70f47941f925c19e301b8185a08249b", func := "unicodetext/unicodetextlaw25.NormstreamStable", spec := "normstreamStable", unfollowed := true, recurses := true, named := ["unicodetext/ordering.hangulRanges"], plainKeys := false, apart := false, laid := [("unicodetext/ordering.hangulRanges", laid_unicodetext_ordering_hangulRanges)] }
def NormstreamStableSaid : Prop := normstreamStableRow.holds Tryz.pinned (OpenSpec.ofChange normstreamStableSpec)

/-- ITS FALSE NEIGHBOUR: 'it returns false'. Refute it at one input. -/
def normstreamStableWrong : ChangeSpec := { name := "normstreamStable", fn := fun _ => fun
  | [d1, d2, d3] => { results := [.lit (.bool false)], args := [d1, d2, d3] }
  | _ => none }
def NormstreamStableWrongFalsely : Prop := normstreamStableRow.holds Tryz.pinned (OpenSpec.ofChange normstreamStableWrong)

/- THE SECOND FORM. 'bulk': how many values and letters a reading holds, each counted each time it is reached (what is shared counts as often as it is met; a slice's spare places count too). A statement '..UptoSaid' is the law's where the arguments, and the package variables that the reading takes, are together of bulk at most 1048576: NARROWER than '..Said'. Prove '..Said' where nothing that the law and all that it calls make is longer than what came in: it says more and counts as full. Else prove '..UptoSaid'. A law counts once. -/
mutual
def uptoBulk {H : Type} : DataW H → Nat
  | .lit (.string bytes) => bytes.length + 1
  | .lit _ => 1
  | .nil => 1
  | .ptr d => uptoBulk d + 1
  | .slice elems spare => uptoBulkAll elems + uptoBulkAll spare + 1
  | .agg parts => uptoBulkAll parts + 1
  | .iface _ d => uptoBulk d + 1
  | .map entries => uptoBulkEntries entries + 1
  | .held _ => 1
def uptoBulkAll {H : Type} : List (DataW H) → Nat
  | [] => 0
  | d :: r => uptoBulk d + uptoBulkAll r
def uptoBulkEntries {H : Type} : List (Lit × DataW H) → Nat
  | [] => 0
  | x :: r => uptoBulkEntry x + uptoBulkEntries r
def uptoBulkEntry {H : Type} : Lit × DataW H → Nat
  | (.string bytes, d) => bytes.length + uptoBulk d + 1
  | (_, d) => uptoBulk d + 1
 end
def uptoSmall : (H : Type) → List (DataW H) → Bool := fun _ ds => decide (uptoBulkAll ds ≤ 1048576)
def OpenSpec.upto (s : _root_.Go.ChangeSpec) : _root_.Go.OpenSpec := { _root_.Go.OpenSpec.ofChange s with cond := some uptoSmall }

/-- 'unicodetextlaw24.QuickcheckSets', WHERE WHAT IT READS IS OF BULK AT MOST 1048576: true; the input reads as it did. -/
def quickcheckSetsUptoRow : OpenClaim := { program := "ytomgchfjachedaagreatdoor", sum := "8bd1c251c53c59beca7c0133ccb24c5ca70f47941f925c19e301b8185a08249b", func := "unicodetext/unicodetextlaw24.QuickcheckSets", spec := "quickcheckSets", unfollowed := true, recurses := true, named := ["unicodetext/ordering.hangulRanges"], plainKeys := false, apart := false, laid := [("unicodetext/ordering.hangulRanges", laid_unicodetext_ordering_hangulRanges)], narrowed := true }
def QuickcheckSetsUptoSaid : Prop := quickcheckSetsUptoRow.holds Tryz.pinned (OpenSpec.upto quickcheckSetsSpec)

/-- 'unicodetextlaw24.QuickcheckMembers', WHERE WHAT IT READS IS OF BULK AT MOST 1048576: true; the input reads as it did. -/
def quickcheckMembersUptoRow : OpenClaim := { program := "ytomgchfjachedaagreatdoor", sum := "8bd1c251c53c59beca7c0133ccb24c5ca70f47941f925c19e301b8185a08249b", func := "unicodetext/unicodetextlaw24.QuickcheckMembers", spec := "quickcheckMembers", unfollowed := true, recurses := true, named := ["unicodetext/ordering.hangulRanges"], plainKeys := false, apart := false, laid := [("unicodetext/ordering.hangulRanges", laid_unicodetext_ordering_hangulRanges)], narrowed := true }
def QuickcheckMembersUptoSaid : Prop := quickcheckMembersUptoRow.holds Tryz.pinned (OpenSpec.upto quickcheckMembersSpec)

/-- 'unicodetextlaw25.NormstreamOpens', WHERE WHAT IT READS IS OF BULK AT MOST 1048576: true; the input reads as it did. -/
def normstreamOpensUptoRow : OpenClaim := { program := "ytomgchfjachedaagreatdoor", sum := "8bd1c251c53c59beca7c0133ccb24c5ca70f47941f925c19e301b8185a08249b", func := "unicodetext/unicodetextlaw25.NormstreamOpens", spec := "normstreamOpens", unfollowed := true, recurses := true, named := ["unicodetext/ordering.hangulRanges"], plainKeys := false, apart := false, laid := [("unicodetext/ordering.hangulRanges", laid_unicodetext_ordering_hangulRanges)], narrowed := true }
def NormstreamOpensUptoSaid : Prop := normstreamOpensUptoRow.holds Tryz.pinned (OpenSpec.upto normstreamOpensSpec)

/-- 'unicodetextlaw25.NormstreamWrites', WHERE WHAT IT READS IS OF BULK AT MOST 1048576: true; the input reads as it did. -/
def normstreamWritesUptoRow : OpenClaim := { program := "ytomgchfjachedaagreatdoor", sum := "8bd1c251c53c59beca7c0133ccb24c5ca70f47941f925c19e301b8185a08249b", func := "unicodetext/unicodetextlaw25.NormstreamWrites", spec := "normstreamWrites", unfollowed := true, recurses := true, named := ["unicodetext/ordering.hangulRanges"], plainKeys := false, apart := false, laid := [("unicodetext/ordering.hangulRanges", laid_unicodetext_ordering_hangulRanges)], narrowed := true }
def NormstreamWritesUptoSaid : Prop := normstreamWritesUptoRow.holds Tryz.pinned (OpenSpec.upto normstreamWritesSpec)

/-- 'unicodetextlaw25.NormstreamWhole', WHERE WHAT IT READS IS OF BULK AT MOST 1048576: true; the input reads as it did. -/
def normstreamWholeUptoRow : OpenClaim := { program := "ytomgchfjachedaagreatdoor", sum := "8bd1c251c53c59beca7c0133ccb24c5ca70f47941f925c19e301b8185a08249b", func := "unicodetext/unicodetextlaw25.NormstreamWhole", spec := "normstreamWhole", unfollowed := true, recurses := true, named := ["unicodetext/ordering.hangulRanges"], plainKeys := false, apart := false, laid := [("unicodetext/ordering.hangulRanges", laid_unicodetext_ordering_hangulRanges)], narrowed := true }
def NormstreamWholeUptoSaid : Prop := normstreamWholeUptoRow.holds Tryz.pinned (OpenSpec.upto normstreamWholeSpec)

/-- 'unicodetextlaw25.NormstreamWaits', WHERE WHAT IT READS IS OF BULK AT MOST 1048576: true; the input reads as it did. -/
def normstreamWaitsUptoRow : OpenClaim := { program := "ytomgchfjachedaagreatdoor", sum := "8bd1c251c53c59beca7c0133ccb24c5ca70f47941f925c19e301b8185a08249b", func := "unicodetext/unicodetextlaw25.NormstreamWaits", spec := "normstreamWaits", unfollowed := true, recurses := true, named := ["unicodetext/ordering.hangulRanges"], plainKeys := false, apart := false, laid := [("unicodetext/ordering.hangulRanges", laid_unicodetext_ordering_hangulRanges)], narrowed := true }
def NormstreamWaitsUptoSaid : Prop := normstreamWaitsUptoRow.holds Tryz.pinned (OpenSpec.upto normstreamWaitsSpec)

/-- 'unicodetextlaw25.NormstreamLimits', WHERE WHAT IT READS IS OF BULK AT MOST 1048576: true; the input reads as it did. -/
def normstreamLimitsUptoRow : OpenClaim := { program := "ytomgchfjachedaagreatdoor", sum := "8bd1c251c53c59beca7c0133ccb24c5ca70f47941f925c19e301b8185a08249b", func := "unicodetext/unicodetextlaw25.NormstreamLimits", spec := "normstreamLimits", unfollowed := true, recurses := true, named := ["unicodetext/ordering.hangulRanges"], plainKeys := false, apart := false, laid := [("unicodetext/ordering.hangulRanges", laid_unicodetext_ordering_hangulRanges)], narrowed := true }
def NormstreamLimitsUptoSaid : Prop := normstreamLimitsUptoRow.holds Tryz.pinned (OpenSpec.upto normstreamLimitsSpec)

/-- 'unicodetextlaw25.NormstreamSteps', WHERE WHAT IT READS IS OF BULK AT MOST 1048576: true; the input reads as it did. -/
def normstreamStepsUptoRow : OpenClaim := { program := "ytomgchfjachedaagreatdoor", sum := "8bd1c251c53c59beca7c0133ccb24c5ca70f47941f925c19e301b8185a08249b", func := "unicodetext/unicodetextlaw25.NormstreamSteps", spec := "normstreamSteps", unfollowed := true, recurses := true, named := ["unicodetext/ordering.hangulRanges"], plainKeys := false, apart := false, laid := [("unicodetext/ordering.hangulRanges", laid_unicodetext_ordering_hangulRanges)], narrowed := true }
def NormstreamStepsUptoSaid : Prop := normstreamStepsUptoRow.holds Tryz.pinned (OpenSpec.upto normstreamStepsSpec)

/-- 'unicodetextlaw25.NormstreamStable', WHERE WHAT IT READS IS OF BULK AT MOST 1048576: true; the input reads as it did. -/
def normstreamStableUptoRow : OpenClaim := { program := "ytomgchfjachedaagreatdoor", sum := "8bd1c251c53c59beca7c0133ccb24c5ca70f47941f925c19e301b8185a08249b", func := "unicodetext/unicodetextlaw25.NormstreamStable", spec := "normstreamStable", unfollowed := true, recurses := true, named := ["unicodetext/ordering.hangulRanges"], plainKeys := false, apart := false, laid := [("unicodetext/ordering.hangulRanges", laid_unicodetext_ordering_hangulRanges)], narrowed := true }
def NormstreamStableUptoSaid : Prop := normstreamStableUptoRow.holds Tryz.pinned (OpenSpec.upto normstreamStableSpec)

end Rows
end Go.Proofs.YtomgchfjachedaaGreatDoor
