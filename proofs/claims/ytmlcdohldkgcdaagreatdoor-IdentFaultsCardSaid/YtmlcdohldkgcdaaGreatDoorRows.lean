/-
  NARROWER THAN 'FOR EVERY INPUT', by the rows' own cells (each row's printed sentence says how): TopSeams: laid · TopNormalEdits: laid · IdentValid: laid · IdentSplits: laid · IdentRanges: laid · IdentLongest: laid · IdentWhole: laid · IdentFaults: laid.
  DERIVED. THE GIVEN ROWS OF THIS SEAT. 8 by the template 'for every input the law returns true; each argument reads behind the call as it read before'; 0 by the template 'total and deterministic' (their statements: YtmlcdohldkgcdaaGreatDoorTotals.lean).
  GIVEN WITH THE SEED: the statements are not yours to turn. If you find one false, say at which input.
  Laid BY PROGRAM, IN A SANDBOX (cutbox-rows.mjs): the forced cells as the released guide's own fill.sh prints them over the translation e1413115dc9c0da9… (all of the seat's roots in one cut). By AI agents, Wed Nov 11 2026. No macro, syntax, notation, axiom, sorry.
-/
import Derived.Test.YtmlcdohldkgcdaaGreatDoorChecked
import GoSem.Claim
import GoSem.ClaimJoined
import GoSem.ClaimMapViews
import Derived.JoinedTies
import Derived.KernelRfl
namespace Go.Proofs.YtmlcdohldkgcdaaGreatDoor
/- THE CELL 'sum', in the pinned program and in every row, IS THE sha256 OF THE DUMP (.gsa) THAT YtmlcdohldkgcdaaGreatDoorProg.lean LOADS. Nothing in Lean hashes anything: it is a label: what it is worth is what the hold of that sum in a sandbox is worth. -/
noncomputable def Tryz.pinned : Pinned := { name := "ytmlcdohldkgcdaagreatdoor", sum := "e1413115dc9c0da9d5746943d09af36b96022f011973876c2b3f1f0031d4ac3b", checked := Tryz.checked }
namespace Rows
def none {H : Type} : Left H := { results := [], args := [] }

/- WHAT THE LISTED PACKAGE-LEVEL VARIABLES READ AS WHEN THE CALL BEGINS. Each datum BY PROGRAM (the guide's laid-datum.mjs) off the statement by which the dump's own 'gosem.cut.vars' lays the variable. In a bare row this is a premise. The card (YtmlcdohldkgcdaaGreatDoorCards.lean) ties it to the program's text. -/
def laid_unicodetext_ordering_hangulRanges {H : Type} : DataW H := .agg [.agg [.lit (.int .i64 4352), .lit (.int .i64 4370)], .agg [.lit (.int .i64 4449), .lit (.int .i64 4469)], .agg [.lit (.int .i64 4520), .lit (.int .i64 4546)], .agg [.lit (.int .i64 44032), .lit (.int .i64 55203)]]

/-- 'unicodetexttop.TopSeams': WHATEVER THE INPUT: true; the input reads as it did. -/
def topSeamsSpec : ChangeSpec := { name := "topSeams", fn := fun _ => fun
  | [d1, d2, d3] => { results := [.lit (.bool true)], args := [d1, d2, d3] }
  | _ => none }
def topSeamsRow : OpenClaim := { program := "ytmlcdohldkgcdaagreatdoor", sum := "e1413115dc9c0da9d5746943d09af36b96022f011973876c2b3f1f0031d4ac3b", func := "unicodetext/unicodetexttop.TopSeams", spec := "topSeams", unfollowed := true, recurses := true, named := ["unicodetext/ordering.hangulRanges"], plainKeys := false, apart := false, laid := [("unicodetext/ordering.hangulRanges", laid_unicodetext_ordering_hangulRanges)] }
def TopSeamsSaid : Prop := topSeamsRow.holds Tryz.pinned (OpenSpec.ofChange topSeamsSpec)

/-- ITS FALSE NEIGHBOUR: 'it returns false'. Refute it at one input. -/
def topSeamsWrong : ChangeSpec := { name := "topSeams", fn := fun _ => fun
  | [d1, d2, d3] => { results := [.lit (.bool false)], args := [d1, d2, d3] }
  | _ => none }
def TopSeamsWrongFalsely : Prop := topSeamsRow.holds Tryz.pinned (OpenSpec.ofChange topSeamsWrong)

/-- 'unicodetexttop.TopNormalEdits': WHATEVER THE INPUT: true; the input reads as it did. -/
def topNormalEditsSpec : ChangeSpec := { name := "topNormalEdits", fn := fun _ => fun
  | [d1, d2, d3] => { results := [.lit (.bool true)], args := [d1, d2, d3] }
  | _ => none }
def topNormalEditsRow : OpenClaim := { program := "ytmlcdohldkgcdaagreatdoor", sum := "e1413115dc9c0da9d5746943d09af36b96022f011973876c2b3f1f0031d4ac3b", func := "unicodetext/unicodetexttop.TopNormalEdits", spec := "topNormalEdits", unfollowed := true, recurses := true, named := ["unicodetext/ordering.hangulRanges"], plainKeys := false, apart := false, laid := [("unicodetext/ordering.hangulRanges", laid_unicodetext_ordering_hangulRanges)] }
def TopNormalEditsSaid : Prop := topNormalEditsRow.holds Tryz.pinned (OpenSpec.ofChange topNormalEditsSpec)

/-- ITS FALSE NEIGHBOUR: 'it returns false'. Refute it at one input. -/
def topNormalEditsWrong : ChangeSpec := { name := "topNormalEdits", fn := fun _ => fun
  | [d1, d2, d3] => { results := [.lit (.bool false)], args := [d1, d2, d3] }
  | _ => none }
def TopNormalEditsWrongFalsely : Prop := topNormalEditsRow.holds Tryz.pinned (OpenSpec.ofChange topNormalEditsWrong)

/-- 'unicodetextlaw39.IdentValid': WHATEVER THE INPUT: true; the input reads as it did. -/
def identValidSpec : ChangeSpec := { name := "identValid", fn := fun _ => fun
  | [d1, d2] => { results := [.lit (.bool true)], args := [d1, d2] }
  | _ => none }
def identValidRow : OpenClaim := { program := "ytmlcdohldkgcdaagreatdoor", sum := "e1413115dc9c0da9d5746943d09af36b96022f011973876c2b3f1f0031d4ac3b", func := "unicodetext/unicodetextlaw39.IdentValid", spec := "identValid", unfollowed := true, recurses := true, named := ["unicodetext/ordering.hangulRanges"], plainKeys := false, apart := false, laid := [("unicodetext/ordering.hangulRanges", laid_unicodetext_ordering_hangulRanges)] }
def IdentValidSaid : Prop := identValidRow.holds Tryz.pinned (OpenSpec.ofChange identValidSpec)

/-- ITS FALSE NEIGHBOUR: 'it returns false'. Refute it at one input. -/
def identValidWrong : ChangeSpec := { name := "identValid", fn := fun _ => fun
  | [d1, d2] => { results := [.lit (.bool false)], args := [d1, d2] }
  | _ => none }
def IdentValidWrongFalsely : Prop := identValidRow.holds Tryz.pinned (OpenSpec.ofChange identValidWrong)

/-- 'unicodetextlaw39.IdentSplits': WHATEVER THE INPUT: true; the input reads as it did. -/
def identSplitsSpec : ChangeSpec := { name := "identSplits", fn := fun _ => fun
  | [d1, d2] => { results := [.lit (.bool true)], args := [d1, d2] }
  | _ => none }
def identSplitsRow : OpenClaim := { program := "ytmlcdohldkgcdaagreatdoor", sum := "e1413115dc9c0da9d5746943d09af36b96022f011973876c2b3f1f0031d4ac3b", func := "unicodetext/unicodetextlaw39.IdentSplits", spec := "identSplits", unfollowed := true, recurses := true, named := ["unicodetext/ordering.hangulRanges"], plainKeys := false, apart := false, laid := [("unicodetext/ordering.hangulRanges", laid_unicodetext_ordering_hangulRanges)] }
def IdentSplitsSaid : Prop := identSplitsRow.holds Tryz.pinned (OpenSpec.ofChange identSplitsSpec)

/-- ITS FALSE NEIGHBOUR: 'it returns false'. Refute it at one input. -/
def identSplitsWrong : ChangeSpec := { name := "identSplits", fn := fun _ => fun
  | [d1, d2] => { results := [.lit (.bool false)], args := [d1, d2] }
  | _ => none }
def IdentSplitsWrongFalsely : Prop := identSplitsRow.holds Tryz.pinned (OpenSpec.ofChange identSplitsWrong)

/-- 'unicodetextlaw39.IdentRanges': WHATEVER THE INPUT: true; the input reads as it did. -/
def identRangesSpec : ChangeSpec := { name := "identRanges", fn := fun _ => fun
  | [d1, d2] => { results := [.lit (.bool true)], args := [d1, d2] }
  | _ => none }
def identRangesRow : OpenClaim := { program := "ytmlcdohldkgcdaagreatdoor", sum := "e1413115dc9c0da9d5746943d09af36b96022f011973876c2b3f1f0031d4ac3b", func := "unicodetext/unicodetextlaw39.IdentRanges", spec := "identRanges", unfollowed := true, recurses := true, named := ["unicodetext/ordering.hangulRanges"], plainKeys := false, apart := false, laid := [("unicodetext/ordering.hangulRanges", laid_unicodetext_ordering_hangulRanges)] }
def IdentRangesSaid : Prop := identRangesRow.holds Tryz.pinned (OpenSpec.ofChange identRangesSpec)

/-- ITS FALSE NEIGHBOUR: 'it returns false'. Refute it at one input. -/
def identRangesWrong : ChangeSpec := { name := "identRanges", fn := fun _ => fun
  | [d1, d2] => { results := [.lit (.bool false)], args := [d1, d2] }
  | _ => none }
def IdentRangesWrongFalsely : Prop := identRangesRow.holds Tryz.pinned (OpenSpec.ofChange identRangesWrong)

/-- 'unicodetextlaw39.IdentLongest': WHATEVER THE INPUT: true; the input reads as it did. -/
def identLongestSpec : ChangeSpec := { name := "identLongest", fn := fun _ => fun
  | [d1, d2] => { results := [.lit (.bool true)], args := [d1, d2] }
  | _ => none }
def identLongestRow : OpenClaim := { program := "ytmlcdohldkgcdaagreatdoor", sum := "e1413115dc9c0da9d5746943d09af36b96022f011973876c2b3f1f0031d4ac3b", func := "unicodetext/unicodetextlaw39.IdentLongest", spec := "identLongest", unfollowed := true, recurses := true, named := ["unicodetext/ordering.hangulRanges"], plainKeys := false, apart := false, laid := [("unicodetext/ordering.hangulRanges", laid_unicodetext_ordering_hangulRanges)] }
def IdentLongestSaid : Prop := identLongestRow.holds Tryz.pinned (OpenSpec.ofChange identLongestSpec)

/-- ITS FALSE NEIGHBOUR: 'it returns false'. Refute it at one input. -/
def identLongestWrong : ChangeSpec := { name := "identLongest", fn := fun _ => fun
  | [d1, d2] => { results := [.lit (.bool false)], args := [d1, d2] }
  | _ => none }
def IdentLongestWrongFalsely : Prop := identLongestRow.holds Tryz.pinned (OpenSpec.ofChange identLongestWrong)

/-- 'unicodetextlaw39.IdentWhole': WHATEVER THE INPUT: true; the input reads as it did. -/
def identWholeSpec : ChangeSpec := { name := "identWhole", fn := fun _ => fun
  | [d1, d2] => { results := [.lit (.bool true)], args := [d1, d2] }
  | _ => none }
def identWholeRow : OpenClaim := { program := "ytmlcdohldkgcdaagreatdoor", sum := "e1413115dc9c0da9d5746943d09af36b96022f011973876c2b3f1f0031d4ac3b", func := "unicodetext/unicodetextlaw39.IdentWhole", spec := "identWhole", unfollowed := true, recurses := true, named := ["unicodetext/ordering.hangulRanges"], plainKeys := false, apart := false, laid := [("unicodetext/ordering.hangulRanges", laid_unicodetext_ordering_hangulRanges)] }
def IdentWholeSaid : Prop := identWholeRow.holds Tryz.pinned (OpenSpec.ofChange identWholeSpec)

/-- ITS FALSE NEIGHBOUR: 'it returns false'. Refute it at one input. -/
def identWholeWrong : ChangeSpec := { name := "identWhole", fn := fun _ => fun
  | [d1, d2] => { results := [.lit (.bool false)], args := [d1, d2] }
  | _ => none }
def IdentWholeWrongFalsely : Prop := identWholeRow.holds Tryz.pinned (OpenSpec.ofChange identWholeWrong)

/-- 'unicodetextlaw39.IdentFaults': WHATEVER THE INPUT: true; the input reads as it did. -/
def identFaultsSpec : ChangeSpec := { name := "identFaults", fn := fun _ => fun
  | [d] => { results := [.lit (.bool true)], args := [d] }
  | _ => none }
def identFaultsRow : OpenClaim := { program := "ytmlcdohldkgcdaagreatdoor", sum := "e1413115dc9c0da9d5746943d09af36b96022f011973876c2b3f1f0031d4ac3b", func := "unicodetext/unicodetextlaw39.IdentFaults", spec := "identFaults", unfollowed := true, recurses := true, named := ["unicodetext/ordering.hangulRanges"], plainKeys := false, apart := false, laid := [("unicodetext/ordering.hangulRanges", laid_unicodetext_ordering_hangulRanges)] }
def IdentFaultsSaid : Prop := identFaultsRow.holds Tryz.pinned (OpenSpec.ofChange identFaultsSpec)

/-- ITS FALSE NEIGHBOUR: 'it returns false'. Refute it at one input. -/
def identFaultsWrong : ChangeSpec := { name := "identFaults", fn := fun _ => fun
  | [d] => { results := [.lit (.bool false)], args := [d] }
  | _ => none }
def IdentFaultsWrongFalsely : Prop := identFaultsRow.holds Tryz.pinned (OpenSpec.ofChange identFaultsWrong)

/- THE SECOND FORM. 'bulk': how many values and letters a reading holds, each counted each time it is reached (what is shared counts as often as it is met; a slice's spare places count too). A statement '..UptoSaid' is the law's where the arguments, and the package variables that the reading takes, are together of bulk at most 1048576: NARROWER than '..Said'. Prove '..Said' where nothing that the law and all that it calls make is longer than what came in: it says more and counts as full. Else prove '..UptoSaid'. A law counts once. -/
mutual
def uptoBulk {H : Type} : DataW H → Nat
  | .lit (.string bytes) => bytes.length + 1
  | .lit _ => 1
  | .nil => 1
  | .ptr d => uptoBulk d + 1
  | .slice elems spare => uptoBulkAll elems + uptoBulkAll spare + 1
  | .agg parts => uptoBulkAll parts + 1
  | .iface _ d => uptoBulk d + 1
  | .map entries => uptoBulkEntries entries + 1
  | .held _ => 1
def uptoBulkAll {H : Type} : List (DataW H) → Nat
  | [] => 0
  | d :: r => uptoBulk d + uptoBulkAll r
def uptoBulkEntries {H : Type} : List (Lit × DataW H) → Nat
  | [] => 0
  | x :: r => uptoBulkEntry x + uptoBulkEntries r
def uptoBulkEntry {H : Type} : Lit × DataW H → Nat
  | (.string bytes, d) => bytes.length + uptoBulk d + 1
  | (_, d) => uptoBulk d + 1
 end
def uptoSmall : (H : Type) → List (DataW H) → Bool := fun _ ds => decide (uptoBulkAll ds ≤ 1048576)
def OpenSpec.upto (s : _root_.Go.ChangeSpec) : _root_.Go.OpenSpec := { _root_.Go.OpenSpec.ofChange s with cond := some uptoSmall }

/-- 'unicodetexttop.TopSeams', WHERE WHAT IT READS IS OF BULK AT MOST 1048576: true; the input reads as it did. -/
def topSeamsUptoRow : OpenClaim := { program := "ytmlcdohldkgcdaagreatdoor", sum := "e1413115dc9c0da9d5746943d09af36b96022f011973876c2b3f1f0031d4ac3b", func := "unicodetext/unicodetexttop.TopSeams", spec := "topSeams", unfollowed := true, recurses := true, named := ["unicodetext/ordering.hangulRanges"], plainKeys := false, apart := false, laid := [("unicodetext/ordering.hangulRanges", laid_unicodetext_ordering_hangulRanges)], narrowed := true }
def TopSeamsUptoSaid : Prop := topSeamsUptoRow.holds Tryz.pinned (OpenSpec.upto topSeamsSpec)

/-- 'unicodetexttop.TopNormalEdits', WHERE WHAT IT READS IS OF BULK AT MOST 1048576: true; the input reads as it did. -/
def topNormalEditsUptoRow : OpenClaim := { program := "ytmlcdohldkgcdaagreatdoor", sum := "e1413115dc9c0da9d5746943d09af36b96022f011973876c2b3f1f0031d4ac3b", func := "unicodetext/unicodetexttop.TopNormalEdits", spec := "topNormalEdits", unfollowed := true, recurses := true, named := ["unicodetext/ordering.hangulRanges"], plainKeys := false, apart := false, laid := [("unicodetext/ordering.hangulRanges", laid_unicodetext_ordering_hangulRanges)], narrowed := true }
def TopNormalEditsUptoSaid : Prop := topNormalEditsUptoRow.holds Tryz.pinned (OpenSpec.upto topNormalEditsSpec)

/-- 'unicodetextlaw39.IdentValid', WHERE WHAT IT READS IS OF BULK AT MOST 1048576: true; the input reads as it did. -/
def identValidUptoRow : OpenClaim := { program := "ytmlcdohldkgcdaagreatdoor", sum := "e1413115dc9c0da9d5746943d09af36b96022f011973876c2b3f1f0031d4ac3b", func := "unicodetext/unicodetextlaw39.IdentValid", spec := "identValid", unfollowed := true, recurses := true, named := ["unicodetext/ordering.hangulRanges"], plainKeys := false, apart := false, laid := [("unicodetext/ordering.hangulRanges", laid_unicodetext_ordering_hangulRanges)], narrowed := true }
def IdentValidUptoSaid : Prop := identValidUptoRow.holds Tryz.pinned (OpenSpec.upto identValidSpec)

/-- 'unicodetextlaw39.IdentSplits', WHERE WHAT IT READS IS OF BULK AT MOST 1048576: true; the input reads as it did. -/
def identSplitsUptoRow : OpenClaim := { program := "ytmlcdohldkgcdaagreatdoor", sum := "e1413115dc9c0da9d5746943d09af36b96022f011973876c2b3f1f0031d4ac3b", func := "unicodetext/unicodetextlaw39.IdentSplits", spec := "identSplits", unfollowed := true, recurses := true, named := ["unicodetext/ordering.hangulRanges"], plainKeys := false, apart := false, laid := [("unicodetext/ordering.hangulRanges", laid_unicodetext_ordering_hangulRanges)], narrowed := true }
def IdentSplitsUptoSaid : Prop := identSplitsUptoRow.holds Tryz.pinned (OpenSpec.upto identSplitsSpec)

/-- 'unicodetextlaw39.IdentRanges', WHERE WHAT IT READS IS OF BULK AT MOST 1048576: true; the input reads as it did. -/
def identRangesUptoRow : OpenClaim := { program := "ytmlcdohldkgcdaagreatdoor", sum := "e1413115dc9c0da9d5746943d09af36b96022f011973876c2b3f1f0031d4ac3b", func := "unicodetext/unicodetextlaw39.IdentRanges", spec := "identRanges", unfollowed := true, recurses := true, named := ["unicodetext/ordering.hangulRanges"], plainKeys := false, apart := false, laid := [("unicodetext/ordering.hangulRanges", laid_unicodetext_ordering_hangulRanges)], narrowed := true }
def IdentRangesUptoSaid : Prop := identRangesUptoRow.holds Tryz.pinned (OpenSpec.upto identRangesSpec)

/-- 'unicodetextlaw39.IdentLongest', WHERE WHAT IT READS IS OF BULK AT MOST 1048576: true; the input reads as it did. -/
def identLongestUptoRow : OpenClaim := { program := "ytmlcdohldkgcdaagreatdoor", sum := "e1413115dc9c0da9d5746943d09af36b96022f011973876c2b3f1f0031d4ac3b", func := "unicodetext/unicodetextlaw39.IdentLongest", spec := "identLongest", unfollowed := true, recurses := true, named := ["unicodetext/ordering.hangulRanges"], plainKeys := false, apart := false, laid := [("unicodetext/ordering.hangulRanges", laid_unicodetext_ordering_hangulRanges)], narrowed := true }
def IdentLongestUptoSaid : Prop := identLongestUptoRow.holds Tryz.pinned (OpenSpec.upto identLongestSpec)

/-- 'unicodetextlaw39.IdentWhole', WHERE WHAT IT READS IS OF BULK AT MOST 1048576: true; the input reads as it did. -/
def identWholeUptoRow : OpenClaim := { program := "ytmlcdohldkgcdaagreatdoor", sum := "e1413115dc9c0da9d5746943d09af36b96022f011973876c2b3f1f0031d4ac3b", func := "unicodetext/unicodetextlaw39.IdentWhole", spec := "identWhole", unfollowed := true, recurses := true, named := ["unicodetext/ordering.hangulRanges"], plainKeys := false, apart := false, laid := [("unicodetext/ordering.hangulRanges", laid_unicodetext_ordering_hangulRanges)], narrowed := true }
def IdentWholeUptoSaid : Prop := identWholeUptoRow.holds Tryz.pinned (OpenSpec.upto identWholeSpec)

/-- 'unicodetextlaw39.IdentFaults', WHERE WHAT IT READS IS OF BULK AT MOST 1048576: true; the input reads as it did. -/
def identFaultsUptoRow : OpenClaim := { program := "ytmlcdohldkgcdaagreatdoor", sum := "e1413115dc9c0da9d5746943d09af36b96022f011973876c2b3f1f0031d4ac3b", func := "unicodetext/unicodetextlaw39.IdentFaults", spec := "identFaults", unfollowed := true, recurses := true, named := ["unicodetext/ordering.hangulRanges"], plainKeys := false, apart := false, laid := [("unicodetext/ordering.hangulRanges", laid_unicodetext_ordering_hangulRanges)], narrowed := true }
def IdentFaultsUptoSaid : Prop := identFaultsUptoRow.holds Tryz.pinned (OpenSpec.upto identFaultsSpec)

end Rows
end Go.Proofs.YtmlcdohldkgcdaaGreatDoor
