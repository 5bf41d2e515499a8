/-
  NARROWER THAN 'FOR EVERY INPUT', by the rows' own cells (each row's printed sentence says how): StreamsafeChecks: laid · StreamsafeTexts: laid · StreamsafeRuns: laid · StreamsafeJoins: laid · StreamsafeRefuses: laid.
  DERIVED. THE GIVEN ROWS OF THIS SEAT. 5 by the template 'for every input the law returns true; each argument reads behind the call as it read before'; 0 by the template 'total and deterministic' (their statements: YtljkkfohlkhjnaaGreatDoorTotals.lean).
  GIVEN WITH THE SEED: the statements are not yours to turn. If you find one false, say at which input.
  Laid BY PROGRAM, IN A SANDBOX (cutbox-rows.mjs): the forced cells as the released guide's own fill.sh prints them over the translation 76d68ef0b07c9cfa… (all of the seat's roots in one cut). By AI agents, Wed Nov 11 2026. No macro, syntax, notation, axiom, sorry.
-/
import Derived.Test.YtljkkfohlkhjnaaGreatDoorChecked
import GoSem.Claim
import GoSem.ClaimJoined
import GoSem.ClaimMapViews
import Derived.JoinedTies
import Derived.KernelRfl
namespace Go.Proofs.YtljkkfohlkhjnaaGreatDoor
/- THE CELL 'sum', in the pinned program and in every row, IS THE sha256 OF THE DUMP (.gsa) THAT YtljkkfohlkhjnaaGreatDoorProg.lean LOADS. Nothing in Lean hashes anything: it is a label: what it is worth is what the hold of that sum in a sandbox is worth. -/
noncomputable def Tryz.pinned : Pinned := { name := "ytljkkfohlkhjnaagreatdoor", sum := "76d68ef0b07c9cfa6784d5a5fa9b444fffa0a0acc5f2a0d59848ce2e91465161", checked := Tryz.checked }
namespace Rows
def none {H : Type} : Left H := { results := [], args := [] }

/- WHAT THE LISTED PACKAGE-LEVEL VARIABLES READ AS WHEN THE CALL BEGINS. Each datum BY PROGRAM (the guide's laid-datum.mjs) off the statement by which the dump's own 'gosem.cut.vars' lays the variable. In a bare row this is a premise. The card (YtljkkfohlkhjnaaGreatDoorCards.lean) ties it to the program's text. -/
def laid_unicodetext_ordering_hangulRanges {H : Type} : DataW H := .agg [.agg [.lit (.int .i64 4352), .lit (.int .i64 4370)], .agg [.lit (.int .i64 4449), .lit (.int .i64 4469)], .agg [.lit (.int .i64 4520), .lit (.int .i64 4546)], .agg [.lit (.int .i64 44032), .lit (.int .i64 55203)]]

/-- 'unicodetextlaw27.StreamsafeChecks': WHATEVER THE INPUT: true; the input reads as it did. -/
def streamsafeChecksSpec : ChangeSpec := { name := "streamsafeChecks", fn := fun _ => fun
  | [d1, d2] => { results := [.lit (.bool true)], args := [d1, d2] }
  | _ => none }
def streamsafeChecksRow : OpenClaim := { program := "ytljkkfohlkhjnaagreatdoor", sum := "76d68ef0b07c9cfa6784d5a5fa9b444fffa0a0acc5f2a0d59848ce2e91465161", func := "unicodetext/unicodetextlaw27.StreamsafeChecks", spec := "streamsafeChecks", unfollowed := true, recurses := true, named := ["unicodetext/ordering.hangulRanges"], plainKeys := false, apart := false, laid := [("unicodetext/ordering.hangulRanges", laid_unicodetext_ordering_hangulRanges)] }
def StreamsafeChecksSaid : Prop := streamsafeChecksRow.holds Tryz.pinned (OpenSpec.ofChange streamsafeChecksSpec)

/-- ITS FALSE NEIGHBOUR: 'it returns false'. Refute it at one input. -/
def streamsafeChecksWrong : ChangeSpec := { name := "streamsafeChecks", fn := fun _ => fun
  | [d1, d2] => { results := [.lit (.bool false)], args := [d1, d2] }
  | _ => none }
def StreamsafeChecksWrongFalsely : Prop := streamsafeChecksRow.holds Tryz.pinned (OpenSpec.ofChange streamsafeChecksWrong)

/-- 'unicodetextlaw27.StreamsafeTexts': WHATEVER THE INPUT: true; the input reads as it did. -/
def streamsafeTextsSpec : ChangeSpec := { name := "streamsafeTexts", fn := fun _ => fun
  | [d1, d2, d3] => { results := [.lit (.bool true)], args := [d1, d2, d3] }
  | _ => none }
def streamsafeTextsRow : OpenClaim := { program := "ytljkkfohlkhjnaagreatdoor", sum := "76d68ef0b07c9cfa6784d5a5fa9b444fffa0a0acc5f2a0d59848ce2e91465161", func := "unicodetext/unicodetextlaw27.StreamsafeTexts", spec := "streamsafeTexts", unfollowed := true, recurses := true, named := ["unicodetext/ordering.hangulRanges"], plainKeys := false, apart := false, laid := [("unicodetext/ordering.hangulRanges", laid_unicodetext_ordering_hangulRanges)] }
def StreamsafeTextsSaid : Prop := streamsafeTextsRow.holds Tryz.pinned (OpenSpec.ofChange streamsafeTextsSpec)

/-- ITS FALSE NEIGHBOUR: 'it returns false'. Refute it at one input. -/
def streamsafeTextsWrong : ChangeSpec := { name := "streamsafeTexts", fn := fun _ => fun
  | [d1, d2, d3] => { results := [.lit (.bool false)], args := [d1, d2, d3] }
  | _ => none }
def StreamsafeTextsWrongFalsely : Prop := streamsafeTextsRow.holds Tryz.pinned (OpenSpec.ofChange streamsafeTextsWrong)

/-- 'unicodetextlaw27.StreamsafeRuns': WHATEVER THE INPUT: true; the input reads as it did. -/
def streamsafeRunsSpec : ChangeSpec := { name := "streamsafeRuns", fn := fun _ => fun
  | [d1, d2] => { results := [.lit (.bool true)], args := [d1, d2] }
  | _ => none }
def streamsafeRunsRow : OpenClaim := { program := "ytljkkfohlkhjnaagreatdoor", sum := "76d68ef0b07c9cfa6784d5a5fa9b444fffa0a0acc5f2a0d59848ce2e91465161", func := "unicodetext/unicodetextlaw27.StreamsafeRuns", spec := "streamsafeRuns", unfollowed := true, recurses := true, named := ["unicodetext/ordering.hangulRanges"], plainKeys := false, apart := false, laid := [("unicodetext/ordering.hangulRanges", laid_unicodetext_ordering_hangulRanges)] }
def StreamsafeRunsSaid : Prop := streamsafeRunsRow.holds Tryz.pinned (OpenSpec.ofChange streamsafeRunsSpec)

/-- ITS FALSE NEIGHBOUR: 'it returns false'. Refute it at one input. -/
def streamsafeRunsWrong : ChangeSpec := { name := "streamsafeRuns", fn := fun _ => fun
  | [d1, d2] => { results := [.lit (.bool false)], args := [d1, d2] }
  | _ => none }
def StreamsafeRunsWrongFalsely : Prop := streamsafeRunsRow.holds Tryz.pinned (OpenSpec.ofChange streamsafeRunsWrong)

/-- 'unicodetextlaw27.StreamsafeJoins': WHATEVER THE INPUT: true; the input reads as it did. -/
def streamsafeJoinsSpec : ChangeSpec := { name := "streamsafeJoins", fn := fun _ => fun
  | [d1, d2, d3] => { results := [.lit (.bool true)], args := [d1, d2, d3] }
  | _ => none }
def streamsafeJoinsRow : OpenClaim := { program := "ytljkkfohlkhjnaagreatdoor", sum := "76d68ef0b07c9cfa6784d5a5fa9b444fffa0a0acc5f2a0d59848ce2e91465161", func := "unicodetext/unicodetextlaw27.StreamsafeJoins", spec := "streamsafeJoins", unfollowed := true, recurses := true, named := ["unicodetext/ordering.hangulRanges"], plainKeys := false, apart := false, laid := [("unicodetext/ordering.hangulRanges", laid_unicodetext_ordering_hangulRanges)] }
def StreamsafeJoinsSaid : Prop := streamsafeJoinsRow.holds Tryz.pinned (OpenSpec.ofChange streamsafeJoinsSpec)

/-- ITS FALSE NEIGHBOUR: 'it returns false'. Refute it at one input. -/
def streamsafeJoinsWrong : ChangeSpec := { name := "streamsafeJoins", fn := fun _ => fun
  | [d1, d2, d3] => { results := [.lit (.bool false)], args := [d1, d2, d3] }
  | _ => none }
def StreamsafeJoinsWrongFalsely : Prop := streamsafeJoinsRow.holds Tryz.pinned (OpenSpec.ofChange streamsafeJoinsWrong)

/-- 'unicodetextlaw27.StreamsafeRefuses': WHATEVER THE INPUT: true; the input reads as it did. -/
def streamsafeRefusesSpec : ChangeSpec := { name := "streamsafeRefuses", fn := fun _ => fun
  | [d1, d2, d3] => { results := [.lit (.bool true)], args := [d1, d2, d3] }
  | _ => none }
def streamsafeRefusesRow : OpenClaim := { program := "ytljkkfohlkhjnaagreatdoor", sum := "76d68ef0b07c9cfa6784d5a5fa9b444fffa0a0acc5f2a0d59848ce2e91465161", func := "unicodetext/unicodetextlaw27.StreamsafeRefuses", spec := "streamsafeRefuses", unfollowed := true, recurses := true, named := ["unicodetext/ordering.hangulRanges"], plainKeys := false, apart := false, laid := [("unicodetext/ordering.hangulRanges", laid_unicodetext_ordering_hangulRanges)] }
def StreamsafeRefusesSaid : Prop := streamsafeRefusesRow.holds Tryz.pinned (OpenSpec.ofChange streamsafeRefusesSpec)

/-- ITS FALSE NEIGHBOUR: 'it returns false'. Refute it at one input. -/
def streamsafeRefusesWrong : ChangeSpec := { name := "streamsafeRefuses", fn := fun _ => fun
  | [d1, d2, d3] => { results := [.lit (.bool false)], args := [d1, d2, d3] }
  | _ => none }
def StreamsafeRefusesWrongFalsely : Prop := streamsafeRefusesRow.holds Tryz.pinned (OpenSpec.ofChange streamsafeRefusesWrong)

/- THE SECOND FORM. 'bulk': how many values and letters a reading holds, each counted each time it is reached (what is shared counts as often as it is met; a slice's spare places count too). A statement '..UptoSaid' is the law's where the arguments, and the package variables that the reading takes, are together of bulk at most 1048576: NARROWER than '..Said'. Prove '..Said' where nothing that the law and all that it calls make is longer than what came in: it says more and counts as full. Else prove '..UptoSaid'. A law counts once. -/
mutual
def uptoBulk {H : Type} : DataW H → Nat
  | .lit (.string bytes) => bytes.length + 1
  | .lit _ => 1
  | .nil => 1
  | .ptr d => uptoBulk d + 1
  | .slice elems spare => uptoBulkAll elems + uptoBulkAll spare + 1
  | .agg parts => uptoBulkAll parts + 1
  | .iface _ d => uptoBulk d + 1
  | .map entries => uptoBulkEntries entries + 1
  | .held _ => 1
def uptoBulkAll {H : Type} : List (DataW H) → Nat
  | [] => 0
  | d :: r => uptoBulk d + uptoBulkAll r
def uptoBulkEntries {H : Type} : List (Lit × DataW H) → Nat
  | [] => 0
  | x :: r => uptoBulkEntry x + uptoBulkEntries r
def uptoBulkEntry {H : Type} : Lit × DataW H → Nat
  | (.string bytes, d) => bytes.length + uptoBulk d + 1
  | (_, d) => uptoBulk d + 1
 end
def uptoSmall : (H : Type) → List (DataW H) → Bool := fun _ ds => decide (uptoBulkAll ds ≤ 1048576)
def OpenSpec.upto (s : _root_.Go.ChangeSpec) : _root_.Go.OpenSpec := { _root_.Go.OpenSpec.ofChange s with cond := some uptoSmall }

/-- 'unicodetextlaw27.StreamsafeChecks', WHERE WHAT IT READS IS OF BULK AT MOST 1048576: true; the input reads as it did. -/
def streamsafeChecksUptoRow : OpenClaim := { program := "ytljkkfohlkhjnaagreatdoor", sum := "76d68ef0b07c9cfa6784d5a5fa9b444fffa0a0acc5f2a0d59848ce2e91465161", func := "unicodetext/unicodetextlaw27.StreamsafeChecks", spec := "streamsafeChecks", unfollowed := true, recurses := true, named := ["unicodetext/ordering.hangulRanges"], plainKeys := false, apart := false, laid := [("unicodetext/ordering.hangulRanges", laid_unicodetext_ordering_hangulRanges)], narrowed := true }
def StreamsafeChecksUptoSaid : Prop := streamsafeChecksUptoRow.holds Tryz.pinned (OpenSpec.upto streamsafeChecksSpec)

/-- 'unicodetextlaw27.StreamsafeTexts', WHERE WHAT IT READS IS OF BULK AT MOST 1048576: true; the input reads as it did. -/
def streamsafeTextsUptoRow : OpenClaim := { program := "ytljkkfohlkhjnaagreatdoor", sum := "76d68ef0b07c9cfa6784d5a5fa9b444fffa0a0acc5f2a0d59848ce2e91465161", func := "unicodetext/unicodetextlaw27.StreamsafeTexts", spec := "streamsafeTexts", unfollowed := true, recurses := true, named := ["unicodetext/ordering.hangulRanges"], plainKeys := false, apart := false, laid := [("unicodetext/ordering.hangulRanges", laid_unicodetext_ordering_hangulRanges)], narrowed := true }
def StreamsafeTextsUptoSaid : Prop := streamsafeTextsUptoRow.holds Tryz.pinned (OpenSpec.upto streamsafeTextsSpec)

/-- 'unicodetextlaw27.StreamsafeRuns', WHERE WHAT IT READS IS OF BULK AT MOST 1048576: true; the input reads as it did. -/
def streamsafeRunsUptoRow : OpenClaim := { program := "ytljkkfohlkhjnaagreatdoor", sum := "76d68ef0b07c9cfa6784d5a5fa9b444fffa0a0acc5f2a0d59848ce2e91465161", func := "unicodetext/unicodetextlaw27.StreamsafeRuns", spec := "streamsafeRuns", unfollowed := true, recurses := true, named := ["unicodetext/ordering.hangulRanges"], plainKeys := false, apart := false, laid := [("unicodetext/ordering.hangulRanges", laid_unicodetext_ordering_hangulRanges)], narrowed := true }
def StreamsafeRunsUptoSaid : Prop := streamsafeRunsUptoRow.holds Tryz.pinned (OpenSpec.upto streamsafeRunsSpec)

/-- 'unicodetextlaw27.StreamsafeJoins', WHERE WHAT IT READS IS OF BULK AT MOST 1048576: true; the input reads as it did. -/
def streamsafeJoinsUptoRow : OpenClaim := { program := "ytljkkfohlkhjnaagreatdoor", sum := "76d68ef0b07c9cfa6784d5a5fa9b444fffa0a0acc5f2a0d59848ce2e91465161", func := "unicodetext/unicodetextlaw27.StreamsafeJoins", spec := "streamsafeJoins", unfollowed := true, recurses := true, named := ["unicodetext/ordering.hangulRanges"], plainKeys := false, apart := false, laid := [("unicodetext/ordering.hangulRanges", laid_unicodetext_ordering_hangulRanges)], narrowed := true }
def StreamsafeJoinsUptoSaid : Prop := streamsafeJoinsUptoRow.holds Tryz.pinned (OpenSpec.upto streamsafeJoinsSpec)

/-- 'unicodetextlaw27.StreamsafeRefuses', WHERE WHAT IT READS IS OF BULK AT MOST 1048576: true; the input reads as it did. -/
def streamsafeRefusesUptoRow : OpenClaim := { program := "ytljkkfohlkhjnaagreatdoor", sum := "76d68ef0b07c9cfa6784d5a5fa9b444fffa0a0acc5f2a0d59848ce2e91465161", func := "unicodetext/unicodetextlaw27.StreamsafeRefuses", spec := "streamsafeRefuses", unfollowed := true, recurses := true, named := ["unicodetext/ordering.hangulRanges"], plainKeys := false, apart := false, laid := [("unicodetext/ordering.hangulRanges", laid_unicodetext_ordering_hangulRanges)], narrowed := true }
def StreamsafeRefusesUptoSaid : Prop := streamsafeRefusesUptoRow.holds Tryz.pinned (OpenSpec.upto streamsafeRefusesSpec)

end Rows
end Go.Proofs.YtljkkfohlkhjnaaGreatDoor
