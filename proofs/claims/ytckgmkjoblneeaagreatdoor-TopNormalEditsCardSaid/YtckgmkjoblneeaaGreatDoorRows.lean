/-
  NARROWER THAN 'FOR EVERY INPUT', by the rows' own cells (each row's printed sentence says how): TopSeams: laid · TopNormalEdits: laid.
  DERIVED. THE GIVEN ROWS OF THIS SEAT. 2 by the template 'for every input the law returns true; each argument reads behind the call as it read before'; 0 by the template 'total and deterministic' (their statements: YtckgmkjoblneeaaGreatDoorTotals.lean).
  GIVEN WITH THE SEED: the statements are not yours to turn. If you find one false, say at which input.
  Laid BY PROGRAM, IN A SANDBOX (cutbox-rows.mjs): the forced cells as the released guide's own fill.sh prints them over the translation 5a826ebf2e866a74… (all of the seat's roots in one cut). By AI agents, Wed Nov 11 2026. No macro, syntax, notation, axiom, sorry.
-/
import Derived.Test.YtckgmkjoblneeaaGreatDoorChecked
import GoSem.Claim
import GoSem.ClaimJoined
import GoSem.ClaimMapViews
import Derived.JoinedTies
import Derived.KernelRfl
namespace Go.Proofs.YtckgmkjoblneeaaGreatDoor
/- THE CELL 'sum', in the pinned program and in every row, IS THE sha256 OF THE DUMP (.gsa) THAT YtckgmkjoblneeaaGreatDoorProg.lean LOADS. Nothing in Lean hashes anything: it is a label: what it is worth is what the hold of that sum in a sandbox is worth. -/
noncomputable def Tryz.pinned : Pinned := { name := "ytckgmkjoblneeaagreatdoor", sum := "5a826ebf2e866a7434594a9dd24c737892c7fba9457b69d2c503d2f7448c83f6", checked := Tryz.checked }
namespace Rows
def none {H : Type} : Left H := { results := [], args := [] }

/- WHAT THE LISTED PACKAGE-LEVEL VARIABLES READ AS WHEN THE CALL BEGINS. Each datum BY PROGRAM (the guide's laid-datum.mjs) off the statement by which the dump's own 'gosem.cut.vars' lays the variable. In a bare row this is a premise. The card (YtckgmkjoblneeaaGreatDoorCards.lean) ties it to the program's text. -/
def laid_unicodetext_ordering_hangulRanges {H : Type} : DataW H := .agg [.agg [.lit (.int .i64 4352), .lit (.int .i64 4370)], .agg [.lit (.int .i64 4449), .lit (.int .i64 4469)], .agg [.lit (.int .i64 4520), .lit (.int .i64 4546)], .agg [.lit (.int .i64 44032), .lit (.int .i64 55203)]]

/-- 'unicodetexttop.TopSeams': WHATEVER THE INPUT: true; the input reads as it did. -/
def topSeamsSpec : ChangeSpec := { name := "topSeams", fn := fun _ => fun
  | [d1, d2, d3] => { results := [.lit (.bool true)], args := [d1, d2, d3] }
  | _ => none }
def topSeamsRow : OpenClaim := { program := "ytckgmkjoblneeaagreatdoor", sum := "5a826ebf2e866a7434594a9dd24c737892c7fba9457b69d2c503d2f7448c83f6", func := "unicodetext/unicodetexttop.TopSeams", spec := "topSeams", unfollowed := true, recurses := true, named := ["unicodetext/ordering.hangulRanges"], plainKeys := false, apart := false, laid := [("unicodetext/ordering.hangulRanges", laid_unicodetext_ordering_hangulRanges)] }
def TopSeamsSaid : Prop := topSeamsRow.holds Tryz.pinned (OpenSpec.ofChange topSeamsSpec)

/-- ITS FALSE NEIGHBOUR: 'it returns false'. Refute it at one input. -/
def topSeamsWrong : ChangeSpec := { name := "topSeams", fn := fun _ => fun
  | [d1, d2, d3] => { results := [.lit (.bool false)], args := [d1, d2, d3] }
  | _ => none }
def TopSeamsWrongFalsely : Prop := topSeamsRow.holds Tryz.pinned (OpenSpec.ofChange topSeamsWrong)

/-- 'unicodetexttop.TopNormalEdits': WHATEVER THE INPUT: true; the input reads as it did. -/
def topNormalEditsSpec : ChangeSpec := { name := "topNormalEdits", fn := fun _ => fun
  | [d1, d2, d3] => { results := [.lit (.bool true)], args := [d1, d2, d3] }
  | _ => none }
def topNormalEditsRow : OpenClaim := { program := "ytckgmkjoblneeaagreatdoor", sum := "5a826ebf2e866a7434594a9dd24c737892c7fba9457b69d2c503d2f7448c83f6", func := "unicodetext/unicodetexttop.TopNormalEdits", spec := "topNormalEdits", unfollowed := true, recurses := true, named := ["unicodetext/ordering.hangulRanges"], plainKeys := false, apart := false, laid := [("unicodetext/ordering.hangulRanges", laid_unicodetext_ordering_hangulRanges)] }
def TopNormalEditsSaid : Prop := topNormalEditsRow.holds Tryz.pinned (OpenSpec.ofChange topNormalEditsSpec)

/-- ITS FALSE NEIGHBOUR: 'it returns false'. Refute it at one input. -/
def topNormalEditsWrong : ChangeSpec := { name := "topNormalEdits", fn := fun _ => fun
  | [d1, d2, d3] => { results := [.lit (.bool false)], args := [d1, d2, d3] }
  | _ => none }
def TopNormalEditsWrongFalsely : Prop := topNormalEditsRow.holds Tryz.pinned (OpenSpec.ofChange topNormalEditsWrong)

/- THE SECOND FORM. 'bulk': how many values and letters a reading holds, each counted each time it is reached (what is shared counts as often as it is met; a slice's spare places count too). A statement '..UptoSaid' is the law's where the arguments, and the package variables that the reading takes, are together of bulk at most 1048576: NARROWER than '..Said'. Prove '..Said' where nothing that the law and all that it calls make is longer than what came in: it says more and counts as full. Else prove '..UptoSaid'. A law counts once. -/
mutual
def uptoBulk {H : Type} : DataW H → Nat
  | .lit (.string bytes) => bytes.length + 1
  | .lit _ => 1
  | .nil => 1
  | .ptr d => uptoBulk d + 1
  | .slice elems spare => uptoBulkAll elems + uptoBulkAll spare + 1
  | .agg parts => uptoBulkAll parts + 1
  | .iface _ d => uptoBulk d + 1
  | .map entries => uptoBulkEntries entries + 1
  | .held _ => 1
def uptoBulkAll {H : Type} : List (DataW H) → Nat
  | [] => 0
  | d :: r => uptoBulk d + uptoBulkAll r
def uptoBulkEntries {H : Type} : List (Lit × DataW H) → Nat
  | [] => 0
  | x :: r => uptoBulkEntry x + uptoBulkEntries r
def uptoBulkEntry {H : Type} : Lit × DataW H → Nat
  | (.string bytes, d) => bytes.length + uptoBulk d + 1
  | (_, d) => uptoBulk d + 1
 end
def uptoSmall : (H : Type) → List (DataW H) → Bool := fun _ ds => decide (uptoBulkAll ds ≤ 1048576)
def OpenSpec.upto (s : _root_.Go.ChangeSpec) : _root_.Go.OpenSpec := { _root_.Go.OpenSpec.ofChange s with cond := some uptoSmall }

/-- 'unicodetexttop.TopSeams', WHERE WHAT IT READS IS OF BULK AT MOST 1048576: true; the input reads as it did. -/
def topSeamsUptoRow : OpenClaim := { program := "ytckgmkjoblneeaagreatdoor", sum := "5a826ebf2e866a7434594a9dd24c737892c7fba9457b69d2c503d2f7448c83f6", func := "unicodetext/unicodetexttop.TopSeams", spec := "topSeams", unfollowed := true, recurses := true, named := ["unicodetext/ordering.hangulRanges"], plainKeys := false, apart := false, laid := [("unicodetext/ordering.hangulRanges", laid_unicodetext_ordering_hangulRanges)], narrowed := true }
def TopSeamsUptoSaid : Prop := topSeamsUptoRow.holds Tryz.pinned (OpenSpec.upto topSeamsSpec)

/-- 'unicodetexttop.TopNormalEdits', WHERE WHAT IT READS IS OF BULK AT MOST 1048576: true; the input reads as it did. -/
def topNormalEditsUptoRow : OpenClaim := { program := "ytckgmkjoblneeaagreatdoor", sum := "5a826ebf2e866a7434594a9dd24c737892c7fba9457b69d2c503d2f7448c83f6", func := "unicodetext/unicodetexttop.TopNormalEdits", spec := "topNormalEdits", unfollowed := true, recurses := true, named := ["unicodetext/ordering.hangulRanges"], plainKeys := false, apart := false, laid := [("unicodetext/ordering.hangulRanges", laid_unicodetext_ordering_hangulRanges)], narrowed := true }
def TopNormalEditsUptoSaid : Prop := topNormalEditsUptoRow.holds Tryz.pinned (OpenSpec.upto topNormalEditsSpec)

end Rows
end Go.Proofs.YtckgmkjoblneeaaGreatDoor
