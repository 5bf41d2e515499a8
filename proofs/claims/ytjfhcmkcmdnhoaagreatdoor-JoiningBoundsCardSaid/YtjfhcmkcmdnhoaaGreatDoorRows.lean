/-
  NARROWER THAN 'FOR EVERY INPUT', by the rows' own cells (each row's printed sentence says how): JoiningEdges: laid · JoiningJoins: laid · JoiningReplaces: laid · JoiningSame: laid · JoiningBounds: laid · JoiningEdits: laid · QuickcheckChars: laid · QuickcheckBoundaries: laid · QuickcheckDivides: laid · QuickcheckTexts: laid · QuickcheckForms: laid · QuickcheckDecides: laid.
  DERIVED. THE GIVEN ROWS OF THIS SEAT. 12 by the template 'for every input the law returns true; each argument reads behind the call as it read before'; 0 by the template 'total and deterministic' (their statements: YtjfhcmkcmdnhoaaGreatDoorTotals.lean).
  GIVEN WITH THE SEED: the statements are not yours to turn. If you find one false, say at which input.
  Laid BY PROGRAM, IN A SANDBOX (cutbox-rows.mjs): the forced cells as the released guide's own fill.sh prints them over the translation 7c6466f9f82f7dc6… (all of the seat's roots in one cut). By AI agents, Wed Nov 11 2026. No macro, syntax, notation, axiom, sorry.
-/
import Derived.Test.YtjfhcmkcmdnhoaaGreatDoorChecked
import GoSem.Claim
import GoSem.ClaimJoined
import GoSem.ClaimMapViews
import Derived.JoinedTies
import Derived.KernelRfl
namespace Go.Proofs.YtjfhcmkcmdnhoaaGreatDoor
/- THE CELL 'sum', in the pinned program and in every row, IS THE sha256 OF THE DUMP (.gsa) THAT YtjfhcmkcmdnhoaaGreatDoorProg.lean LOADS. Nothing in Lean hashes anything: it is a label: what it is worth is what the hold of that sum in a sandbox is worth. -/
noncomputable def Tryz.pinned : Pinned := { name := "ytjfhcmkcmdnhoaagreatdoor", sum := "7c6466f9f82f7dc673dd840a0fa51493f908253f54e4b2875b9a3699d9e70642", checked := Tryz.checked }
namespace Rows
def none {H : Type} : Left H := { results := [], args := [] }

/- WHAT THE LISTED PACKAGE-LEVEL VARIABLES READ AS WHEN THE CALL BEGINS. Each datum BY PROGRAM (the guide's laid-datum.mjs) off the statement by which the dump's own 'gosem.cut.vars' lays the variable. In a bare row this is a premise. The card (YtjfhcmkcmdnhoaaGreatDoorCards.lean) ties it to the program's text. -/
def laid_unicodetext_ordering_hangulRanges {H : Type} : DataW H := .agg [.agg [.lit (.int .i64 4352), .lit (.int .i64 4370)], .agg [.lit (.int .i64 4449), .lit (.int .i64 4469)], .agg [.lit (.int .i64 4520), .lit (.int .i64 4546)], .agg [.lit (.int .i64 44032), .lit (.int .i64 55203)]]

/-- 'unicodetextlaw26.JoiningEdges': WHATEVER THE INPUT: true; the input reads as it did. -/
def joiningEdgesSpec : ChangeSpec := { name := "joiningEdges", fn := fun _ => fun
  | [d1, d2, d3, d4] => { results := [.lit (.bool true)], args := [d1, d2, d3, d4] }
  | _ => none }
def joiningEdgesRow : OpenClaim := { program := "ytjfhcmkcmdnhoaagreatdoor", sum := "7c6466f9f82f7dc673dd840a0fa51493f908253f54e4b2875b9a3699d9e70642", func := "unicodetext/unicodetextlaw26.JoiningEdges", spec := "joiningEdges", unfollowed := true, recurses := true, named := ["unicodetext/ordering.hangulRanges"], plainKeys := false, apart := false, laid := [("unicodetext/ordering.hangulRanges", laid_unicodetext_ordering_hangulRanges)] }
def JoiningEdgesSaid : Prop := joiningEdgesRow.holds Tryz.pinned (OpenSpec.ofChange joiningEdgesSpec)

/-- ITS FALSE NEIGHBOUR: 'it returns false'. Refute it at one input. -/
def joiningEdgesWrong : ChangeSpec := { name := "joiningEdges", fn := fun _ => fun
  | [d1, d2, d3, d4] => { results := [.lit (.bool false)], args := [d1, d2, d3, d4] }
  | _ => none }
def JoiningEdgesWrongFalsely : Prop := joiningEdgesRow.holds Tryz.pinned (OpenSpec.ofChange joiningEdgesWrong)

/-- 'unicodetextlaw26.JoiningJoins': WHATEVER THE INPUT: true; the input reads as it did. -/
def joiningJoinsSpec : ChangeSpec := { name := "joiningJoins", fn := fun _ => fun
  | [d1, d2, d3, d4] => { results := [.lit (.bool true)], args := [d1, d2, d3, d4] }
  | _ => none }
def joiningJoinsRow : OpenClaim := { program := "ytjfhcmkcmdnhoaagreatdoor", sum := "7c6466f9f82f7dc673dd840a0fa51493f908253f54e4b2875b9a3699d9e70642", func := "unicodetext/unicodetextlaw26.JoiningJoins", spec := "joiningJoins", unfollowed := true, recurses := true, named := ["unicodetext/ordering.hangulRanges"], plainKeys := false, apart := false, laid := [("unicodetext/ordering.hangulRanges", laid_unicodetext_ordering_hangulRanges)] }
def JoiningJoinsSaid : Prop := joiningJoinsRow.holds Tryz.pinned (OpenSpec.ofChange joiningJoinsSpec)

/-- ITS FALSE NEIGHBOUR: 'it returns false'. Refute it at one input. -/
def joiningJoinsWrong : ChangeSpec := { name := "joiningJoins", fn := fun _ => fun
  | [d1, d2, d3, d4] => { results := [.lit (.bool false)], args := [d1, d2, d3, d4] }
  | _ => none }
def JoiningJoinsWrongFalsely : Prop := joiningJoinsRow.holds Tryz.pinned (OpenSpec.ofChange joiningJoinsWrong)

/-- 'unicodetextlaw26.JoiningReplaces': WHATEVER THE INPUT: true; the input reads as it did. -/
def joiningReplacesSpec : ChangeSpec := { name := "joiningReplaces", fn := fun _ => fun
  | [d1, d2, d3, d4] => { results := [.lit (.bool true)], args := [d1, d2, d3, d4] }
  | _ => none }
def joiningReplacesRow : OpenClaim := { program := "ytjfhcmkcmdnhoaagreatdoor", sum := "7c6466f9f82f7dc673dd840a0fa51493f908253f54e4b2875b9a3699d9e70642", func := "unicodetext/unicodetextlaw26.JoiningReplaces", spec := "joiningReplaces", unfollowed := true, recurses := true, named := ["unicodetext/ordering.hangulRanges"], plainKeys := false, apart := false, laid := [("unicodetext/ordering.hangulRanges", laid_unicodetext_ordering_hangulRanges)] }
def JoiningReplacesSaid : Prop := joiningReplacesRow.holds Tryz.pinned (OpenSpec.ofChange joiningReplacesSpec)

/-- ITS FALSE NEIGHBOUR: 'it returns false'. Refute it at one input. -/
def joiningReplacesWrong : ChangeSpec := { name := "joiningReplaces", fn := fun _ => fun
  | [d1, d2, d3, d4] => { results := [.lit (.bool false)], args := [d1, d2, d3, d4] }
  | _ => none }
def JoiningReplacesWrongFalsely : Prop := joiningReplacesRow.holds Tryz.pinned (OpenSpec.ofChange joiningReplacesWrong)

/-- 'unicodetextlaw26.JoiningSame': WHATEVER THE INPUT: true; the input reads as it did. -/
def joiningSameSpec : ChangeSpec := { name := "joiningSame", fn := fun _ => fun
  | [d1, d2, d3, d4] => { results := [.lit (.bool true)], args := [d1, d2, d3, d4] }
  | _ => none }
def joiningSameRow : OpenClaim := { program := "ytjfhcmkcmdnhoaagreatdoor", sum := "7c6466f9f82f7dc673dd840a0fa51493f908253f54e4b2875b9a3699d9e70642", func := "unicodetext/unicodetextlaw26.JoiningSame", spec := "joiningSame", unfollowed := true, recurses := true, named := ["unicodetext/ordering.hangulRanges"], plainKeys := false, apart := false, laid := [("unicodetext/ordering.hangulRanges", laid_unicodetext_ordering_hangulRanges)] }
def JoiningSameSaid : Prop := joiningSameRow.holds Tryz.pinned (OpenSpec.ofChange joiningSameSpec)

/-- ITS FALSE NEIGHBOUR: 'it returns false'. Refute it at one input. -/
def joiningSameWrong : ChangeSpec := { name := "joiningSame", fn := fun _ => fun
  | [d1, d2, d3, d4] => { results := [.lit (.bool false)], args := [d1, d2, d3, d4] }
  | _ => none }
def JoiningSameWrongFalsely : Prop := joiningSameRow.holds Tryz.pinned (OpenSpec.ofChange joiningSameWrong)

/-- 'unicodetextlaw26.JoiningBounds': WHATEVER THE INPUT: true; the input reads as it did. -/
def joiningBoundsSpec : ChangeSpec := { name := "joiningBounds", fn := fun _ => fun
  | [d1, d2, d3, d4] => { results := [.lit (.bool true)], args := [d1, d2, d3, d4] }
  | _ => none }
def joiningBoundsRow : OpenClaim := { program := "ytjfhcmkcmdnhoaagreatdoor", sum := "7c6466f9f82f7dc673dd840a0fa51493f908253f54e4b2875b9a3699d9e70642", func := "unicodetext/unicodetextlaw26.JoiningBounds", spec := "joiningBounds", unfollowed := true, recurses := true, named := ["unicodetext/ordering.hangulRanges"], plainKeys := false, apart := false, laid := [("unicodetext/ordering.hangulRanges", laid_unicodetext_ordering_hangulRanges)] }
def JoiningBoundsSaid : Prop := joiningBoundsRow.holds Tryz.pinned (OpenSpec.ofChange joiningBoundsSpec)

/-- ITS FALSE NEIGHBOUR: 'it returns false'. Refute it at one input. -/
def joiningBoundsWrong : ChangeSpec := { name := "joiningBounds", fn := fun _ => fun
  | [d1, d2, d3, d4] => { results := [.lit (.bool false)], args := [d1, d2, d3, d4] }
  | _ => none }
def JoiningBoundsWrongFalsely : Prop := joiningBoundsRow.holds Tryz.pinned (OpenSpec.ofChange joiningBoundsWrong)

/-- 'unicodetextlaw26.JoiningEdits': WHATEVER THE INPUT: true; the input reads as it did. -/
def joiningEditsSpec : ChangeSpec := { name := "joiningEdits", fn := fun _ => fun
  | [d1, d2, d3, d4] => { results := [.lit (.bool true)], args := [d1, d2, d3, d4] }
  | _ => none }
def joiningEditsRow : OpenClaim := { program := "ytjfhcmkcmdnhoaagreatdoor", sum := "7c6466f9f82f7dc673dd840a0fa51493f908253f54e4b2875b9a3699d9e70642", func := "unicodetext/unicodetextlaw26.JoiningEdits", spec := "joiningEdits", unfollowed := true, recurses := true, named := ["unicodetext/ordering.hangulRanges"], plainKeys := false, apart := false, laid := [("unicodetext/ordering.hangulRanges", laid_unicodetext_ordering_hangulRanges)] }
def JoiningEditsSaid : Prop := joiningEditsRow.holds Tryz.pinned (OpenSpec.ofChange joiningEditsSpec)

/-- ITS FALSE NEIGHBOUR: 'it returns false'. Refute it at one input. -/
def joiningEditsWrong : ChangeSpec := { name := "joiningEdits", fn := fun _ => fun
  | [d1, d2, d3, d4] => { results := [.lit (.bool false)], args := [d1, d2, d3, d4] }
  | _ => none }
def JoiningEditsWrongFalsely : Prop := joiningEditsRow.holds Tryz.pinned (OpenSpec.ofChange joiningEditsWrong)

/-- 'unicodetextlaw24.QuickcheckChars': WHATEVER THE INPUT: true; the input reads as it did. -/
def quickcheckCharsSpec : ChangeSpec := { name := "quickcheckChars", fn := fun _ => fun
  | [d1, d2, d3] => { results := [.lit (.bool true)], args := [d1, d2, d3] }
  | _ => none }
def quickcheckCharsRow : OpenClaim := { program := "ytjfhcmkcmdnhoaagreatdoor", sum := "7c6466f9f82f7dc673dd840a0fa51493f908253f54e4b2875b9a3699d9e70642", func := "unicodetext/unicodetextlaw24.QuickcheckChars", spec := "quickcheckChars", unfollowed := true, recurses := true, named := ["unicodetext/ordering.hangulRanges"], plainKeys := false, apart := false, laid := [("unicodetext/ordering.hangulRanges", laid_unicodetext_ordering_hangulRanges)] }
def QuickcheckCharsSaid : Prop := quickcheckCharsRow.holds Tryz.pinned (OpenSpec.ofChange quickcheckCharsSpec)

/-- ITS FALSE NEIGHBOUR: 'it returns false'. Refute it at one input. -/
def quickcheckCharsWrong : ChangeSpec := { name := "quickcheckChars", fn := fun _ => fun
  | [d1, d2, d3] => { results := [.lit (.bool false)], args := [d1, d2, d3] }
  | _ => none }
def QuickcheckCharsWrongFalsely : Prop := quickcheckCharsRow.holds Tryz.pinned (OpenSpec.ofChange quickcheckCharsWrong)

/-- 'unicodetextlaw24.QuickcheckBoundaries': WHATEVER THE INPUT: true; the input reads as it did. -/
def quickcheckBoundariesSpec : ChangeSpec := { name := "quickcheckBoundaries", fn := fun _ => fun
  | [d] => { results := [.lit (.bool true)], args := [d] }
  | _ => none }
def quickcheckBoundariesRow : OpenClaim := { program := "ytjfhcmkcmdnhoaagreatdoor", sum := "7c6466f9f82f7dc673dd840a0fa51493f908253f54e4b2875b9a3699d9e70642", func := "unicodetext/unicodetextlaw24.QuickcheckBoundaries", spec := "quickcheckBoundaries", unfollowed := true, recurses := true, named := ["unicodetext/ordering.hangulRanges"], plainKeys := false, apart := false, laid := [("unicodetext/ordering.hangulRanges", laid_unicodetext_ordering_hangulRanges)] }
def QuickcheckBoundariesSaid : Prop := quickcheckBoundariesRow.holds Tryz.pinned (OpenSpec.ofChange quickcheckBoundariesSpec)

/-- ITS FALSE NEIGHBOUR: 'it returns false'. Refute it at one input. -/
def quickcheckBoundariesWrong : ChangeSpec := { name := "quickcheckBoundaries", fn := fun _ => fun
  | [d] => { results := [.lit (.bool false)], args := [d] }
  | _ => none }
def QuickcheckBoundariesWrongFalsely : Prop := quickcheckBoundariesRow.holds Tryz.pinned (OpenSpec.ofChange quickcheckBoundariesWrong)

/-- 'unicodetextlaw24.QuickcheckDivides': WHATEVER THE INPUT: true; the input reads as it did. -/
def quickcheckDividesSpec : ChangeSpec := { name := "quickcheckDivides", fn := fun _ => fun
  | [d] => { results := [.lit (.bool true)], args := [d] }
  | _ => none }
def quickcheckDividesRow : OpenClaim := { program := "ytjfhcmkcmdnhoaagreatdoor", sum := "7c6466f9f82f7dc673dd840a0fa51493f908253f54e4b2875b9a3699d9e70642", func := "unicodetext/unicodetextlaw24.QuickcheckDivides", spec := "quickcheckDivides", unfollowed := true, recurses := true, named := ["unicodetext/ordering.hangulRanges"], plainKeys := false, apart := false, laid := [("unicodetext/ordering.hangulRanges", laid_unicodetext_ordering_hangulRanges)] }
def QuickcheckDividesSaid : Prop := quickcheckDividesRow.holds Tryz.pinned (OpenSpec.ofChange quickcheckDividesSpec)

/-- ITS FALSE NEIGHBOUR: 'it returns false'. Refute it at one input. -/
def quickcheckDividesWrong : ChangeSpec := { name := "quickcheckDivides", fn := fun _ => fun
  | [d] => { results := [.lit (.bool false)], args := [d] }
  | _ => none }
def QuickcheckDividesWrongFalsely : Prop := quickcheckDividesRow.holds Tryz.pinned (OpenSpec.ofChange quickcheckDividesWrong)

/-- 'unicodetextlaw24.QuickcheckTexts': WHATEVER THE INPUT: true; the input reads as it did. -/
def quickcheckTextsSpec : ChangeSpec := { name := "quickcheckTexts", fn := fun _ => fun
  | [d] => { results := [.lit (.bool true)], args := [d] }
  | _ => none }
def quickcheckTextsRow : OpenClaim := { program := "ytjfhcmkcmdnhoaagreatdoor", sum := "7c6466f9f82f7dc673dd840a0fa51493f908253f54e4b2875b9a3699d9e70642", func := "unicodetext/unicodetextlaw24.QuickcheckTexts", spec := "quickcheckTexts", unfollowed := true, recurses := true, named := ["unicodetext/ordering.hangulRanges"], plainKeys := false, apart := false, laid := [("unicodetext/ordering.hangulRanges", laid_unicodetext_ordering_hangulRanges)] }
def QuickcheckTextsSaid : Prop := quickcheckTextsRow.holds Tryz.pinned (OpenSpec.ofChange quickcheckTextsSpec)

/-- ITS FALSE NEIGHBOUR: 'it returns false'. Refute it at one input. -/
def quickcheckTextsWrong : ChangeSpec := { name := "quickcheckTexts", fn := fun _ => fun
  | [d] => { results := [.lit (.bool false)], args := [d] }
  | _ => none }
def QuickcheckTextsWrongFalsely : Prop := quickcheckTextsRow.holds Tryz.pinned (OpenSpec.ofChange quickcheckTextsWrong)

/-- 'unicodetextlaw24.QuickcheckForms': WHATEVER THE INPUT: true; the input reads as it did. -/
def quickcheckFormsSpec : ChangeSpec := { name := "quickcheckForms", fn := fun _ => fun
  | [d] => { results := [.lit (.bool true)], args := [d] }
  | _ => none }
def quickcheckFormsRow : OpenClaim := { program := "ytjfhcmkcmdnhoaagreatdoor", sum := "7c6466f9f82f7dc673dd840a0fa51493f908253f54e4b2875b9a3699d9e70642", func := "unicodetext/unicodetextlaw24.QuickcheckForms", spec := "quickcheckForms", unfollowed := true, recurses := true, named := ["unicodetext/ordering.hangulRanges"], plainKeys := false, apart := false, laid := [("unicodetext/ordering.hangulRanges", laid_unicodetext_ordering_hangulRanges)] }
def QuickcheckFormsSaid : Prop := quickcheckFormsRow.holds Tryz.pinned (OpenSpec.ofChange quickcheckFormsSpec)

/-- ITS FALSE NEIGHBOUR: 'it returns false'. Refute it at one input. -/
def quickcheckFormsWrong : ChangeSpec := { name := "quickcheckForms", fn := fun _ => fun
  | [d] => { results := [.lit (.bool false)], args := [d] }
  | _ => none }
def QuickcheckFormsWrongFalsely : Prop := quickcheckFormsRow.holds Tryz.pinned (OpenSpec.ofChange quickcheckFormsWrong)

/-- 'unicodetextlaw24.QuickcheckDecides': WHATEVER THE INPUT: true; the input reads as it did. -/
def quickcheckDecidesSpec : ChangeSpec := { name := "quickcheckDecides", fn := fun _ => fun
  | [d] => { results := [.lit (.bool true)], args := [d] }
  | _ => none }
def quickcheckDecidesRow : OpenClaim := { program := "ytjfhcmkcmdnhoaagreatdoor", sum := "7c6466f9f82f7dc673dd840a0fa51493f908253f54e4b2875b9a3699d9e70642", func := "unicodetext/unicodetextlaw24.QuickcheckDecides", spec := "quickcheckDecides", unfollowed := true, recurses := true, named := ["unicodetext/ordering.hangulRanges"], plainKeys := false, apart := false, laid := [("unicodetext/ordering.hangulRanges", laid_unicodetext_ordering_hangulRanges)] }
def QuickcheckDecidesSaid : Prop := quickcheckDecidesRow.holds Tryz.pinned (OpenSpec.ofChange quickcheckDecidesSpec)

/-- ITS FALSE NEIGHBOUR: 'it returns false'. Refute it at one input. -/
def quickcheckDecidesWrong : ChangeSpec := { name := "quickcheckDecides", fn := fun _ => fun
  | [d] => { results := [.lit (.bool false)], args := [d] }
  | _ => none }
def QuickcheckDecidesWrongFalsely : Prop := quickcheckDecidesRow.holds Tryz.pinned (OpenSpec.ofChange quickcheckDecidesWrong)

/- THE SECOND FORM. 'bulk': how many values and letters a reading holds, each counted each time it is reached (what is shared counts as often as it is met; a slice's spare places count too). A statement '..UptoSaid' is the law's where the arguments, and the package variables that the reading takes, are together of bulk at most 1048576: NARROWER than '..Said'. Prove '..Said' where nothing that the law and all that it calls make is longer than what came in: it says more and counts as full. Else prove '..UptoSaid'. A law counts once. -/
mutual
def uptoBulk {H : Type} : DataW H → Nat
  | .lit (.string bytes) => bytes.length + 1
  | .lit _ => 1
  | .nil => 1
  | .ptr d => uptoBulk d + 1
  | .slice elems spare => uptoBulkAll elems + uptoBulkAll spare + 1
  | .agg parts => uptoBulkAll parts + 1
  | .iface _ d => uptoBulk d + 1
  | .map entries => uptoBulkEntries entries + 1
  | .held _ => 1
def uptoBulkAll {H : Type} : List (DataW H) → Nat
  | [] => 0
  | d :: r => uptoBulk d + uptoBulkAll r
def uptoBulkEntries {H : Type} : List (Lit × DataW H) → Nat
  | [] => 0
  | x :: r => uptoBulkEntry x + uptoBulkEntries r
def uptoBulkEntry {H : Type} : Lit × DataW H → Nat
  | (.string bytes, d) => bytes.length + uptoBulk d + 1
  | (_, d) => uptoBulk d + 1
 end
def uptoSmall : (H : Type) → List (DataW H) → Bool := fun _ ds => decide (uptoBulkAll ds ≤ 1048576)
def OpenSpec.upto (s : _root_.Go.ChangeSpec) : _root_.Go.OpenSpec := { _root_.Go.OpenSpec.ofChange s with cond := some uptoSmall }

/-- 'unicodetextlaw26.JoiningEdges', WHERE WHAT IT READS IS OF BULK AT MOST 1048576: true; the input reads as it did. -/
def joiningEdgesUptoRow : OpenClaim := { program := "ytjfhcmkcmdnhoaagreatdoor", sum := "7c6466f9f82f7dc673dd840a0fa51493f908253f54e4b2875b9a3699d9e70642", func := "unicodetext/unicodetextlaw26.JoiningEdges", spec := "joiningEdges", unfollowed := true, recurses := true, named := ["unicodetext/ordering.hangulRanges"], plainKeys := false, apart := false, laid := [("unicodetext/ordering.hangulRanges", laid_unicodetext_ordering_hangulRanges)], narrowed := true }
def JoiningEdgesUptoSaid : Prop := joiningEdgesUptoRow.holds Tryz.pinned (OpenSpec.upto joiningEdgesSpec)

/-- 'unicodetextlaw26.JoiningJoins', WHERE WHAT IT READS IS OF BULK AT MOST 1048576: true; the input reads as it did. -/
def joiningJoinsUptoRow : OpenClaim := { program := "ytjfhcmkcmdnhoaagreatdoor", sum := "7c6466f9f82f7dc673dd840a0fa51493f908253f54e4b2875b9a3699d9e70642", func := "unicodetext/unicodetextlaw26.JoiningJoins", spec := "joiningJoins", unfollowed := true, recurses := true, named := ["unicodetext/ordering.hangulRanges"], plainKeys := false, apart := false, laid := [("unicodetext/ordering.hangulRanges", laid_unicodetext_ordering_hangulRanges)], narrowed := true }
def JoiningJoinsUptoSaid : Prop := joiningJoinsUptoRow.holds Tryz.pinned (OpenSpec.upto joiningJoinsSpec)

/-- 'unicodetextlaw26.JoiningReplaces', WHERE WHAT IT READS IS OF BULK AT MOST 1048576: true; the input reads as it did. -/
def joiningReplacesUptoRow : OpenClaim := { program := "ytjfhcmkcmdnhoaagreatdoor", sum := "7c6466f9f82f7dc673dd840a0fa51493f908253f54e4b2875b9a3699d9e70642", func := "unicodetext/unicodetextlaw26.JoiningReplaces", spec := "joiningReplaces", unfollowed := true, recurses := true, named := ["unicodetext/ordering.hangulRanges"], plainKeys := false, apart := false, laid := [("unicodetext/ordering.hangulRanges", laid_unicodetext_ordering_hangulRanges)], narrowed := true }
def JoiningReplacesUptoSaid : Prop := joiningReplacesUptoRow.holds Tryz.pinned (OpenSpec.upto joiningReplacesSpec)

/-- 'unicodetextlaw26.JoiningSame', WHERE WHAT IT READS IS OF BULK AT MOST 1048576: true; the input reads as it did. -/
def joiningSameUptoRow : OpenClaim := { program := "ytjfhcmkcmdnhoaagreatdoor", sum := "7c6466f9f82f7dc673dd840a0fa51493f908253f54e4b2875b9a3699d9e70642", func := "unicodetext/unicodetextlaw26.JoiningSame", spec := "joiningSame", unfollowed := true, recurses := true, named := ["unicodetext/ordering.hangulRanges"], plainKeys := false, apart := false, laid := [("unicodetext/ordering.hangulRanges", laid_unicodetext_ordering_hangulRanges)], narrowed := true }
def JoiningSameUptoSaid : Prop := joiningSameUptoRow.holds Tryz.pinned (OpenSpec.upto joiningSameSpec)

/-- 'unicodetextlaw26.JoiningBounds', WHERE WHAT IT READS IS OF BULK AT MOST 1048576: true; the input reads as it did. -/
def joiningBoundsUptoRow : OpenClaim := { program := "ytjfhcmkcmdnhoaagreatdoor", sum := "7c6466f9f82f7dc673dd840a0fa51493f908253f54e4b2875b9a3699d9e70642", func := "unicodetext/unicodetextlaw26.JoiningBounds", spec := "joiningBounds", unfollowed := true, recurses := true, named := ["unicodetext/ordering.hangulRanges"], plainKeys := false, apart := false, laid := [("unicodetext/ordering.hangulRanges", laid_unicodetext_ordering_hangulRanges)], narrowed := true }
def JoiningBoundsUptoSaid : Prop := joiningBoundsUptoRow.holds Tryz.pinned (OpenSpec.upto joiningBoundsSpec)

/-- 'unicodetextlaw26.JoiningEdits', WHERE WHAT IT READS IS OF BULK AT MOST 1048576: true; the input reads as it did. -/
def joiningEditsUptoRow : OpenClaim := { program := "ytjfhcmkcmdnhoaagreatdoor", sum := "7c6466f9f82f7dc673dd840a0fa51493f908253f54e4b2875b9a3699d9e70642", func := "unicodetext/unicodetextlaw26.JoiningEdits", spec := "joiningEdits", unfollowed := true, recurses := true, named := ["unicodetext/ordering.hangulRanges"], plainKeys := false, apart := false, laid := [("unicodetext/ordering.hangulRanges", laid_unicodetext_ordering_hangulRanges)], narrowed := true }
def JoiningEditsUptoSaid : Prop := joiningEditsUptoRow.holds Tryz.pinned (OpenSpec.upto joiningEditsSpec)

/-- 'unicodetextlaw24.QuickcheckChars', WHERE WHAT IT READS IS OF BULK AT MOST 1048576: true; the input reads as it did. -/
def quickcheckCharsUptoRow : OpenClaim := { program := "ytjfhcmkcmdnhoaagreatdoor", sum := "7c6466f9f82f7dc673dd840a0fa51493f908253f54e4b2875b9a3699d9e70642", func := "unicodetext/unicodetextlaw24.QuickcheckChars", spec := "quickcheckChars", unfollowed := true, recurses := true, named := ["unicodetext/ordering.hangulRanges"], plainKeys := false, apart := false, laid := [("unicodetext/ordering.hangulRanges", laid_unicodetext_ordering_hangulRanges)], narrowed := true }
def QuickcheckCharsUptoSaid : Prop := quickcheckCharsUptoRow.holds Tryz.pinned (OpenSpec.upto quickcheckCharsSpec)

/-- 'unicodetextlaw24.QuickcheckBoundaries', WHERE WHAT IT READS IS OF BULK AT MOST 1048576: true; the input reads as it did. -/
def quickcheckBoundariesUptoRow : OpenClaim := { program := "ytjfhcmkcmdnhoaagreatdoor", sum := "7c6466f9f82f7dc673dd840a0fa51493f908253f54e4b2875b9a3699d9e70642", func := "unicodetext/unicodetextlaw24.QuickcheckBoundaries", spec := "quickcheckBoundaries", unfollowed := true, recurses := true, named := ["unicodetext/ordering.hangulRanges"], plainKeys := false, apart := false, laid := [("unicodetext/ordering.hangulRanges", laid_unicodetext_ordering_hangulRanges)], narrowed := true }
def QuickcheckBoundariesUptoSaid : Prop := quickcheckBoundariesUptoRow.holds Tryz.pinned (OpenSpec.upto quickcheckBoundariesSpec)

/-- 'unicodetextlaw24.QuickcheckDivides', WHERE WHAT IT READS IS OF BULK AT MOST 1048576: true; the input reads as it did. -/
def quickcheckDividesUptoRow : OpenClaim := { program := "ytjfhcmkcmdnhoaagreatdoor", sum := "7c6466f9f82f7dc673dd840a0fa51493f908253f54e4b2875b9a3699d9e70642", func := "unicodetext/unicodetextlaw24.QuickcheckDivides", spec := "quickcheckDivides", unfollowed := true, recurses := true, named := ["unicodetext/ordering.hangulRanges"], plainKeys := false, apart := false, laid := [("unicodetext/ordering.hangulRanges", laid_unicodetext_ordering_hangulRanges)], narrowed := true }
def QuickcheckDividesUptoSaid : Prop := quickcheckDividesUptoRow.holds Tryz.pinned (OpenSpec.upto quickcheckDividesSpec)

/-- 'unicodetextlaw24.QuickcheckTexts', WHERE WHAT IT READS IS OF BULK AT MOST 1048576: true; the input reads as it did. -/
def quickcheckTextsUptoRow : OpenClaim := { program := "ytjfhcmkcmdnhoaagreatdoor", sum := "7c6466f9f82f7dc673dd840a0fa51493f908253f54e4b2875b9a3699d9e70642", func := "unicodetext/unicodetextlaw24.QuickcheckTexts", spec := "quickcheckTexts", unfollowed := true, recurses := true, named := ["unicodetext/ordering.hangulRanges"], plainKeys := false, apart := false, laid := [("unicodetext/ordering.hangulRanges", laid_unicodetext_ordering_hangulRanges)], narrowed := true }
def QuickcheckTextsUptoSaid : Prop := quickcheckTextsUptoRow.holds Tryz.pinned (OpenSpec.upto quickcheckTextsSpec)

/-- 'unicodetextlaw24.QuickcheckForms', WHERE WHAT IT READS IS OF BULK AT MOST 1048576: true; the input reads as it did. -/
def quickcheckFormsUptoRow : OpenClaim := { program := "ytjfhcmkcmdnhoaagreatdoor", sum := "7c6466f9f82f7dc673dd840a0fa51493f908253f54e4b2875b9a3699d9e70642", func := "unicodetext/unicodetextlaw24.QuickcheckForms", spec := "quickcheckForms", unfollowed := true, recurses := true, named := ["unicodetext/ordering.hangulRanges"], plainKeys := false, apart := false, laid := [("unicodetext/ordering.hangulRanges", laid_unicodetext_ordering_hangulRanges)], narrowed := true }
def QuickcheckFormsUptoSaid : Prop := quickcheckFormsUptoRow.holds Tryz.pinned (OpenSpec.upto quickcheckFormsSpec)

/-- 'unicodetextlaw24.QuickcheckDecides', WHERE WHAT IT READS IS OF BULK AT MOST 1048576: true; the input reads as it did. -/
def quickcheckDecidesUptoRow : OpenClaim := { program := "ytjfhcmkcmdnhoaagreatdoor", sum := "7c6466f9f82f7dc673dd840a0fa51493f908253f54e4b2875b9a3699d9e70642", func := "unicodetext/unicodetextlaw24.QuickcheckDecides", spec := "quickcheckDecides", unfollowed := true, recurses := true, named := ["unicodetext/ordering.hangulRanges"], plainKeys := false, apart := false, laid := [("unicodetext/ordering.hangulRanges", laid_unicodetext_ordering_hangulRanges)], narrowed := true }
def QuickcheckDecidesUptoSaid : Prop := quickcheckDecidesUptoRow.holds Tryz.pinned (OpenSpec.upto quickcheckDecidesSpec)

end Rows
end Go.Proofs.YtjfhcmkcmdnhoaaGreatDoor
