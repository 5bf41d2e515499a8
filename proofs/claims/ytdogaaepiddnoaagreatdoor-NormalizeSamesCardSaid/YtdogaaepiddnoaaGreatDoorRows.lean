/-
  NARROWER THAN 'FOR EVERY INPUT', by the rows' own cells (each row's printed sentence says how): StreamsafeChecks: laid · StreamsafeRuns: laid · NormalizeForms: laid · NormalizeChecks: laid · NormalizeSames: laid.
  DERIVED. THE GIVEN ROWS OF THIS SEAT. 5 by the template 'for every input the law returns true; each argument reads behind the call as it read before'; 0 by the template 'total and deterministic' (their statements: YtdogaaepiddnoaaGreatDoorTotals.lean).
  GIVEN WITH THE SEED: the statements are not yours to turn. If you find one false, say at which input.
  Laid BY PROGRAM, IN A SANDBOX (cutbox-rows.mjs): the forced cells as the released guide's own fill.sh prints them over the translation 1880548b661e039e… (all of the seat's roots in one cut). By AI agents, Wed Nov 11 2026. No macro, syntax, notation, axiom, sorry.
-/
import Derived.Test.YtdogaaepiddnoaaGreatDoorChecked
import GoSem.Claim
import GoSem.ClaimJoined
import GoSem.ClaimMapViews
import Derived.JoinedTies
import Derived.KernelRfl
namespace Go.Proofs.YtdogaaepiddnoaaGreatDoor
/- THE CELL 'sum', in the pinned program and in every row, IS THE sha256 OF THE DUMP (.gsa) THAT YtdogaaepiddnoaaGreatDoorProg.lean LOADS. Nothing in Lean hashes anything: it is a label: what it is worth is what the hold of that sum in a sandbox is worth. -/
noncomputable def Tryz.pinned : Pinned := { name := "ytdogaaepiddnoaagreatdoor", sum := "1880548b661e039ed66b110f1e4761284018348c6a57e1d095bfb149f90a20ff", checked := Tryz.checked }
namespace Rows
def none {H : Type} : Left H := { results := [], args := [] }

/- WHAT THE LISTED PACKAGE-LEVEL VARIABLES READ AS WHEN THE CALL BEGINS. Each datum BY PROGRAM (the guide's laid-datum.mjs) off the statement by which the dump's own 'gosem.cut.vars' lays the variable. In a bare row this is a premise. The card (YtdogaaepiddnoaaGreatDoorCards.lean) ties it to the program's text. -/
def laid_unicodetext_ordering_hangulRanges {H : Type} : DataW H := .agg [.agg [.lit (.int .i64 4352), .lit (.int .i64 4370)], .agg [.lit (.int .i64 4449), .lit (.int .i64 4469)], .agg [.lit (.int .i64 4520), .lit (.int .i64 4546)], .agg [.lit (.int .i64 44032), .lit (.int .i64 55203)]]

/-- 'unicodetextlaw27.StreamsafeChecks': WHATEVER THE INPUT: true; the input reads as it did. -/
def streamsafeChecksSpec : ChangeSpec := { name := "streamsafeChecks", fn := fun _ => fun
  | [d1, d2] => { results := [.lit (.bool true)], args := [d1, d2] }
  | _ => none }
def streamsafeChecksRow : OpenClaim := { program := "ytdogaaepiddnoaagreatdoor", sum := "1880548b661e039ed66b110f1e4761284018348c6a57e1d095bfb149f90a20ff", func := "unicodetext/unicodetextlaw27.StreamsafeChecks", spec := "streamsafeChecks", unfollowed := true, recurses := true, named := ["unicodetext/ordering.hangulRanges"], plainKeys := false, apart := false, laid := [("unicodetext/ordering.hangulRanges", laid_unicodetext_ordering_hangulRanges)] }
def StreamsafeChecksSaid : Prop := streamsafeChecksRow.holds Tryz.pinned (OpenSpec.ofChange streamsafeChecksSpec)

/-- ITS FALSE NEIGHBOUR: 'it returns false'. Refute it at one input. -/
def streamsafeChecksWrong : ChangeSpec := { name := "streamsafeChecks", fn := fun _ => fun
  | [d1, d2] => { results := [.lit (.bool false)], args := [d1, d2] }
  | _ => none }
def StreamsafeChecksWrongFalsely : Prop := streamsafeChecksRow.holds Tryz.pinned (OpenSpec.ofChange streamsafeChecksWrong)

/-- 'unicodetextlaw27.StreamsafeRuns': WHATEVER THE INPUT: true; the input reads as it did. -/
def streamsafeRunsSpec : ChangeSpec := { name := "streamsafeRuns", fn := fun _ => fun
  | [d1, d2] => { results := [.lit (.bool true)], args := [d1, d2] }
  | _ => none }
def streamsafeRunsRow : OpenClaim := { program := "ytdogaaepiddnoaagreatdoor", sum := "1880548b661e039ed66b110f1e4761284018348c6a57e1d095bfb149f90a20ff", func := "unicodetext/unicodetextlaw27.StreamsafeRuns", spec := "streamsafeRuns", unfollowed := true, recurses := true, named := ["unicodetext/ordering.hangulRanges"], plainKeys := false, apart := false, laid := [("unicodetext/ordering.hangulRanges", laid_unicodetext_ordering_hangulRanges)] }
def StreamsafeRunsSaid : Prop := streamsafeRunsRow.holds Tryz.pinned (OpenSpec.ofChange streamsafeRunsSpec)

/-- ITS FALSE NEIGHBOUR: 'it returns false'. Refute it at one input. -/
def streamsafeRunsWrong : ChangeSpec := { name := "streamsafeRuns", fn := fun _ => fun
  | [d1, d2] => { results := [.lit (.bool false)], args := [d1, d2] }
  | _ => none }
def StreamsafeRunsWrongFalsely : Prop := streamsafeRunsRow.holds Tryz.pinned (OpenSpec.ofChange streamsafeRunsWrong)

/-- 'unicodetextlaw23.NormalizeForms': WHATEVER THE INPUT: true; the input reads as it did. -/
def normalizeFormsSpec : ChangeSpec := { name := "normalizeForms", fn := fun _ => fun
  | [d1, d2, d3] => { results := [.lit (.bool true)], args := [d1, d2, d3] }
  | _ => none }
def normalizeFormsRow : OpenClaim := { program := "ytdogaaepiddnoaagreatdoor", sum := "1880548b661e039ed66b110f1e4761284018348c6a57e1d095bfb149f90a20ff", func := "unicodetext/unicodetextlaw23.NormalizeForms", spec := "normalizeForms", unfollowed := true, recurses := true, named := ["unicodetext/ordering.hangulRanges"], plainKeys := false, apart := false, laid := [("unicodetext/ordering.hangulRanges", laid_unicodetext_ordering_hangulRanges)] }
def NormalizeFormsSaid : Prop := normalizeFormsRow.holds Tryz.pinned (OpenSpec.ofChange normalizeFormsSpec)

/-- ITS FALSE NEIGHBOUR: 'it returns false'. Refute it at one input. -/
def normalizeFormsWrong : ChangeSpec := { name := "normalizeForms", fn := fun _ => fun
  | [d1, d2, d3] => { results := [.lit (.bool false)], args := [d1, d2, d3] }
  | _ => none }
def NormalizeFormsWrongFalsely : Prop := normalizeFormsRow.holds Tryz.pinned (OpenSpec.ofChange normalizeFormsWrong)

/-- 'unicodetextlaw23.NormalizeChecks': WHATEVER THE INPUT: true; the input reads as it did. -/
def normalizeChecksSpec : ChangeSpec := { name := "normalizeChecks", fn := fun _ => fun
  | [d1, d2, d3] => { results := [.lit (.bool true)], args := [d1, d2, d3] }
  | _ => none }
def normalizeChecksRow : OpenClaim := { program := "ytdogaaepiddnoaagreatdoor", sum := "1880548b661e039ed66b110f1e4761284018348c6a57e1d095bfb149f90a20ff", func := "unicodetext/unicodetextlaw23.NormalizeChecks", spec := "normalizeChecks", unfollowed := true, recurses := true, named := ["unicodetext/ordering.hangulRanges"], plainKeys := false, apart := false, laid := [("unicodetext/ordering.hangulRanges", laid_unicodetext_ordering_hangulRanges)] }
def NormalizeChecksSaid : Prop := normalizeChecksRow.holds Tryz.pinned (OpenSpec.ofChange normalizeChecksSpec)

/-- ITS FALSE NEIGHBOUR: 'it returns false'. Refute it at one input. -/
def normalizeChecksWrong : ChangeSpec := { name := "normalizeChecks", fn := fun _ => fun
  | [d1, d2, d3] => { results := [.lit (.bool false)], args := [d1, d2, d3] }
  | _ => none }
def NormalizeChecksWrongFalsely : Prop := normalizeChecksRow.holds Tryz.pinned (OpenSpec.ofChange normalizeChecksWrong)

/-- 'unicodetextlaw23.NormalizeSames': WHATEVER THE INPUT: true; the input reads as it did. -/
def normalizeSamesSpec : ChangeSpec := { name := "normalizeSames", fn := fun _ => fun
  | [d1, d2, d3] => { results := [.lit (.bool true)], args := [d1, d2, d3] }
  | _ => none }
def normalizeSamesRow : OpenClaim := { program := "ytdogaaepiddnoaagreatdoor", sum := "1880548b661e039ed66b110f1e4761284018348c6a57e1d095bfb149f90a20ff", func := "unicodetext/unicodetextlaw23.NormalizeSames", spec := "normalizeSames", unfollowed := true, recurses := true, named := ["unicodetext/ordering.hangulRanges"], plainKeys := false, apart := false, laid := [("unicodetext/ordering.hangulRanges", laid_unicodetext_ordering_hangulRanges)] }
def NormalizeSamesSaid : Prop := normalizeSamesRow.holds Tryz.pinned (OpenSpec.ofChange normalizeSamesSpec)

/-- ITS FALSE NEIGHBOUR: 'it returns false'. Refute it at one input. -/
def normalizeSamesWrong : ChangeSpec := { name := "normalizeSames", fn := fun _ => fun
  | [d1, d2, d3] => { results := [.lit (.bool false)], args := [d1, d2, d3] }
  | _ => none }
def NormalizeSamesWrongFalsely : Prop := normalizeSamesRow.holds Tryz.pinned (OpenSpec.ofChange normalizeSamesWrong)

/- THE SECOND FORM. 'bulk': how many values and letters a reading holds, each counted each time it is reached (what is shared counts as often as it is met; a slice's spare places count too). A statement '..UptoSaid' is the law's where the arguments, and the package variables that the reading takes, are together of bulk at most 1048576: NARROWER than '..Said'. Prove '..Said' where nothing that the law and all that it calls make is longer than what came in: it says more and counts as full. Else prove '..UptoSaid'. A law counts once. -/
mutual
def uptoBulk {H : Type} : DataW H → Nat
  | .lit (.string bytes) => bytes.length + 1
  | .lit _ => 1
  | .nil => 1
  | .ptr d => uptoBulk d + 1
  | .slice elems spare => uptoBulkAll elems + uptoBulkAll spare + 1
  | .agg parts => uptoBulkAll parts + 1
  | .iface _ d => uptoBulk d + 1
  | .map entries => uptoBulkEntries entries + 1
  | .held _ => 1
def uptoBulkAll {H : Type} : List (DataW H) → Nat
  | [] => 0
  | d :: r => uptoBulk d + uptoBulkAll r
def uptoBulkEntries {H : Type} : List (Lit × DataW H) → Nat
  | [] => 0
  | x :: r => uptoBulkEntry x + uptoBulkEntries r
def uptoBulkEntry {H : Type} : Lit × DataW H → Nat
  | (.string bytes, d) => bytes.length + uptoBulk d + 1
  | (_, d) => uptoBulk d + 1
 end
def uptoSmall : (H : Type) → List (DataW H) → Bool := fun _ ds => decide (uptoBulkAll ds ≤ 1048576)
def OpenSpec.upto (s : _root_.Go.ChangeSpec) : _root_.Go.OpenSpec := { _root_.Go.OpenSpec.ofChange s with cond := some uptoSmall }

/-- 'unicodetextlaw27.StreamsafeChecks', WHERE WHAT IT READS IS OF BULK AT MOST 1048576: true; the input reads as it did. -/
def streamsafeChecksUptoRow : OpenClaim := { program := "ytdogaaepiddnoaagreatdoor", sum := "1880548b661e039ed66b110f1e4761284018348c6a57e1d095bfb149f90a20ff", func := "unicodetext/unicodetextlaw27.StreamsafeChecks", spec := "streamsafeChecks", unfollowed := true, recurses := true, named := ["unicodetext/ordering.hangulRanges"], plainKeys := false, apart := false, laid := [("unicodetext/ordering.hangulRanges", laid_unicodetext_ordering_hangulRanges)], narrowed := true }
def StreamsafeChecksUptoSaid : Prop := streamsafeChecksUptoRow.holds Tryz.pinned (OpenSpec.upto streamsafeChecksSpec)

/-- 'unicodetextlaw27.StreamsafeRuns', WHERE WHAT IT READS IS OF BULK AT MOST 1048576: true; the input reads as it did. -/
def streamsafeRunsUptoRow : OpenClaim := { program := "ytdogaaepiddnoaagreatdoor", sum := "1880548b661e039ed66b110f1e4761284018348c6a57e1d095bfb149f90a20ff", func := "unicodetext/unicodetextlaw27.StreamsafeRuns", spec := "streamsafeRuns", unfollowed := true, recurses := true, named := ["unicodetext/ordering.hangulRanges"], plainKeys := false, apart := false, laid := [("unicodetext/ordering.hangulRanges", laid_unicodetext_ordering_hangulRanges)], narrowed := true }
def StreamsafeRunsUptoSaid : Prop := streamsafeRunsUptoRow.holds Tryz.pinned (OpenSpec.upto streamsafeRunsSpec)

/-- 'unicodetextlaw23.NormalizeForms', WHERE WHAT IT READS IS OF BULK AT MOST 1048576: true; the input reads as it did. -/
def normalizeFormsUptoRow : OpenClaim := { program := "ytdogaaepiddnoaagreatdoor", sum := "1880548b661e039ed66b110f1e4761284018348c6a57e1d095bfb149f90a20ff", func := "unicodetext/unicodetextlaw23.NormalizeForms", spec := "normalizeForms", unfollowed := true, recurses := true, named := ["unicodetext/ordering.hangulRanges"], plainKeys := false, apart := false, laid := [("unicodetext/ordering.hangulRanges", laid_unicodetext_ordering_hangulRanges)], narrowed := true }
def NormalizeFormsUptoSaid : Prop := normalizeFormsUptoRow.holds Tryz.pinned (OpenSpec.upto normalizeFormsSpec)

/-- 'unicodetextlaw23.NormalizeChecks', WHERE WHAT IT READS IS OF BULK AT MOST 1048576: true; the input reads as it did. -/
def normalizeChecksUptoRow : OpenClaim := { program := "ytdogaaepiddnoaagreatdoor", sum := "1880548b661e039ed66b110f1e4761284018348c6a57e1d095bfb149f90a20ff", func := "unicodetext/unicodetextlaw23.NormalizeChecks", spec := "normalizeChecks", unfollowed := true, recurses := true, named := ["unicodetext/ordering.hangulRanges"], plainKeys := false, apart := false, laid := [("unicodetext/ordering.hangulRanges", laid_unicodetext_ordering_hangulRanges)], narrowed := true }
def NormalizeChecksUptoSaid : Prop := normalizeChecksUptoRow.holds Tryz.pinned (OpenSpec.upto normalizeChecksSpec)

/-- 'unicodetextlaw23.NormalizeSames', WHERE WHAT IT READS IS OF BULK AT MOST 1048576: true; the input reads as it did. -/
def normalizeSamesUptoRow : OpenClaim := { program := "ytdogaaepiddnoaagreatdoor", sum := "1880548b661e039ed66b110f1e4761284018348c6a57e1d095bfb149f90a20ff", func := "unicodetext/unicodetextlaw23.NormalizeSames", spec := "normalizeSames", unfollowed := true, recurses := true, named := ["unicodetext/ordering.hangulRanges"], plainKeys := false, apart := false, laid := [("unicodetext/ordering.hangulRanges", laid_unicodetext_ordering_hangulRanges)], narrowed := true }
def NormalizeSamesUptoSaid : Prop := normalizeSamesUptoRow.holds Tryz.pinned (OpenSpec.upto normalizeSamesSpec)

end Rows
end Go.Proofs.YtdogaaepiddnoaaGreatDoor
