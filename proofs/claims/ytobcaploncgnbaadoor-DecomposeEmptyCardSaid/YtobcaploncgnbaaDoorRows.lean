/-
  NARROWER THAN 'FOR EVERY INPUT', by the rows' own cells (each row's printed sentence says how): DecomposeChecks: laid · DecomposeDistributes: laid · DecomposeChanges: laid · DecomposeKinds: laid · DecomposeJoins: laid · DecomposeEmpty: laid.
  DERIVED. THE GIVEN ROWS OF THIS SEAT. 6 by the template 'for every input the law returns true; each argument reads behind the call as it read before'; 0 by the template 'total and deterministic' (their statements: YtobcaploncgnbaaDoorTotals.lean).
  GIVEN WITH THE SEED: the statements are not yours to turn. If you find one false, say at which input.
  Laid BY PROGRAM, IN A SANDBOX (cutbox-rows.mjs): the forced cells as the released guide's own fill.sh prints them over the translation 56b897cc448e8e47… (all of the seat's roots in one cut). By AI agents, Wed Nov 11 2026. No macro, syntax, notation, axiom, sorry.
-/
import Derived.Test.YtobcaploncgnbaaDoorChecked
import GoSem.Claim
import GoSem.ClaimJoined
import GoSem.ClaimMapViews
import Derived.JoinedTies
import Derived.KernelRfl
namespace Go.Proofs.YtobcaploncgnbaaDoor
/- THE CELL 'sum', in the pinned program and in every row, IS THE sha256 OF THE DUMP (.gsa) THAT YtobcaploncgnbaaDoorProg.lean LOADS. Nothing in Lean hashes anything: it is a label: what it is worth is what the hold of that sum in a sandbox is worth. -/
noncomputable def Tryd.pinned : Pinned := { name := "ytobcaploncgnbaadoor", sum := "56b897cc448e8e47fecadc46168f79f6850decebc795ef8a9f6b99ea0ab5c6bc", checked := Tryd.checked }
namespace Rows
def none {H : Type} : Left H := { results := [], args := [] }

/- WHAT THE LISTED PACKAGE-LEVEL VARIABLES READ AS WHEN THE CALL BEGINS. Each datum BY PROGRAM (the guide's laid-datum.mjs) off the statement by which the dump's own 'gosem.cut.vars' lays the variable. In a bare row this is a premise. The card (YtobcaploncgnbaaDoorCards.lean) ties it to the program's text. -/
def laid_unicodetext_ordering_hangulRanges {H : Type} : DataW H := .agg [.agg [.lit (.int .i64 4352), .lit (.int .i64 4370)], .agg [.lit (.int .i64 4449), .lit (.int .i64 4469)], .agg [.lit (.int .i64 4520), .lit (.int .i64 4546)], .agg [.lit (.int .i64 44032), .lit (.int .i64 55203)]]

/-- 'unicodetextlaw21.DecomposeChecks': WHATEVER THE INPUT: true; the input reads as it did. -/
def decomposeChecksSpec : ChangeSpec := { name := "decomposeChecks", fn := fun _ => fun
  | [d] => { results := [.lit (.bool true)], args := [d] }
  | _ => none }
def decomposeChecksRow : OpenClaim := { program := "ytobcaploncgnbaadoor", sum := "56b897cc448e8e47fecadc46168f79f6850decebc795ef8a9f6b99ea0ab5c6bc", func := "unicodetext/unicodetextlaw21.DecomposeChecks", spec := "decomposeChecks", unfollowed := true, recurses := true, named := ["unicodetext/ordering.hangulRanges"], plainKeys := false, apart := false, laid := [("unicodetext/ordering.hangulRanges", laid_unicodetext_ordering_hangulRanges)] }
def DecomposeChecksSaid : Prop := decomposeChecksRow.holds Tryd.pinned (OpenSpec.ofChange decomposeChecksSpec)

/-- ITS FALSE NEIGHBOUR: 'it returns false'. Refute it at one input. -/
def decomposeChecksWrong : ChangeSpec := { name := "decomposeChecks", fn := fun _ => fun
  | [d] => { results := [.lit (.bool false)], args := [d] }
  | _ => none }
def DecomposeChecksWrongFalsely : Prop := decomposeChecksRow.holds Tryd.pinned (OpenSpec.ofChange decomposeChecksWrong)

/-- 'unicodetextlaw21.DecomposeDistributes': WHATEVER THE INPUT: true; the input reads as it did. -/
def decomposeDistributesSpec : ChangeSpec := { name := "decomposeDistributes", fn := fun _ => fun
  | [d1, d2, d3] => { results := [.lit (.bool true)], args := [d1, d2, d3] }
  | _ => none }
def decomposeDistributesRow : OpenClaim := { program := "ytobcaploncgnbaadoor", sum := "56b897cc448e8e47fecadc46168f79f6850decebc795ef8a9f6b99ea0ab5c6bc", func := "unicodetext/unicodetextlaw21.DecomposeDistributes", spec := "decomposeDistributes", unfollowed := true, recurses := true, named := ["unicodetext/ordering.hangulRanges"], plainKeys := false, apart := false, laid := [("unicodetext/ordering.hangulRanges", laid_unicodetext_ordering_hangulRanges)] }
def DecomposeDistributesSaid : Prop := decomposeDistributesRow.holds Tryd.pinned (OpenSpec.ofChange decomposeDistributesSpec)

/-- ITS FALSE NEIGHBOUR: 'it returns false'. Refute it at one input. -/
def decomposeDistributesWrong : ChangeSpec := { name := "decomposeDistributes", fn := fun _ => fun
  | [d1, d2, d3] => { results := [.lit (.bool false)], args := [d1, d2, d3] }
  | _ => none }
def DecomposeDistributesWrongFalsely : Prop := decomposeDistributesRow.holds Tryd.pinned (OpenSpec.ofChange decomposeDistributesWrong)

/-- 'unicodetextlaw21.DecomposeChanges': WHATEVER THE INPUT: true; the input reads as it did. -/
def decomposeChangesSpec : ChangeSpec := { name := "decomposeChanges", fn := fun _ => fun
  | [d1, d2, d3] => { results := [.lit (.bool true)], args := [d1, d2, d3] }
  | _ => none }
def decomposeChangesRow : OpenClaim := { program := "ytobcaploncgnbaadoor", sum := "56b897cc448e8e47fecadc46168f79f6850decebc795ef8a9f6b99ea0ab5c6bc", func := "unicodetext/unicodetextlaw21.DecomposeChanges", spec := "decomposeChanges", unfollowed := true, recurses := true, named := ["unicodetext/ordering.hangulRanges"], plainKeys := false, apart := false, laid := [("unicodetext/ordering.hangulRanges", laid_unicodetext_ordering_hangulRanges)] }
def DecomposeChangesSaid : Prop := decomposeChangesRow.holds Tryd.pinned (OpenSpec.ofChange decomposeChangesSpec)

/-- ITS FALSE NEIGHBOUR: 'it returns false'. Refute it at one input. -/
def decomposeChangesWrong : ChangeSpec := { name := "decomposeChanges", fn := fun _ => fun
  | [d1, d2, d3] => { results := [.lit (.bool false)], args := [d1, d2, d3] }
  | _ => none }
def DecomposeChangesWrongFalsely : Prop := decomposeChangesRow.holds Tryd.pinned (OpenSpec.ofChange decomposeChangesWrong)

/-- 'unicodetextlaw21.DecomposeKinds': WHATEVER THE INPUT: true; the input reads as it did. -/
def decomposeKindsSpec : ChangeSpec := { name := "decomposeKinds", fn := fun _ => fun
  | [d1, d2] => { results := [.lit (.bool true)], args := [d1, d2] }
  | _ => none }
def decomposeKindsRow : OpenClaim := { program := "ytobcaploncgnbaadoor", sum := "56b897cc448e8e47fecadc46168f79f6850decebc795ef8a9f6b99ea0ab5c6bc", func := "unicodetext/unicodetextlaw21.DecomposeKinds", spec := "decomposeKinds", unfollowed := true, recurses := true, named := ["unicodetext/ordering.hangulRanges"], plainKeys := false, apart := false, laid := [("unicodetext/ordering.hangulRanges", laid_unicodetext_ordering_hangulRanges)] }
def DecomposeKindsSaid : Prop := decomposeKindsRow.holds Tryd.pinned (OpenSpec.ofChange decomposeKindsSpec)

/-- ITS FALSE NEIGHBOUR: 'it returns false'. Refute it at one input. -/
def decomposeKindsWrong : ChangeSpec := { name := "decomposeKinds", fn := fun _ => fun
  | [d1, d2] => { results := [.lit (.bool false)], args := [d1, d2] }
  | _ => none }
def DecomposeKindsWrongFalsely : Prop := decomposeKindsRow.holds Tryd.pinned (OpenSpec.ofChange decomposeKindsWrong)

/-- 'unicodetextlaw21.DecomposeJoins': WHATEVER THE INPUT: true; the input reads as it did. -/
def decomposeJoinsSpec : ChangeSpec := { name := "decomposeJoins", fn := fun _ => fun
  | [d1, d2, d3] => { results := [.lit (.bool true)], args := [d1, d2, d3] }
  | _ => none }
def decomposeJoinsRow : OpenClaim := { program := "ytobcaploncgnbaadoor", sum := "56b897cc448e8e47fecadc46168f79f6850decebc795ef8a9f6b99ea0ab5c6bc", func := "unicodetext/unicodetextlaw21.DecomposeJoins", spec := "decomposeJoins", unfollowed := true, recurses := true, named := ["unicodetext/ordering.hangulRanges"], plainKeys := false, apart := false, laid := [("unicodetext/ordering.hangulRanges", laid_unicodetext_ordering_hangulRanges)] }
def DecomposeJoinsSaid : Prop := decomposeJoinsRow.holds Tryd.pinned (OpenSpec.ofChange decomposeJoinsSpec)

/-- ITS FALSE NEIGHBOUR: 'it returns false'. Refute it at one input. -/
def decomposeJoinsWrong : ChangeSpec := { name := "decomposeJoins", fn := fun _ => fun
  | [d1, d2, d3] => { results := [.lit (.bool false)], args := [d1, d2, d3] }
  | _ => none }
def DecomposeJoinsWrongFalsely : Prop := decomposeJoinsRow.holds Tryd.pinned (OpenSpec.ofChange decomposeJoinsWrong)

/-- 'unicodetextlaw21.DecomposeEmpty': WHATEVER THE INPUT: true; the input reads as it did. -/
def decomposeEmptySpec : ChangeSpec := { name := "decomposeEmpty", fn := fun _ => fun
  | [d1, d2, d3] => { results := [.lit (.bool true)], args := [d1, d2, d3] }
  | _ => none }
def decomposeEmptyRow : OpenClaim := { program := "ytobcaploncgnbaadoor", sum := "56b897cc448e8e47fecadc46168f79f6850decebc795ef8a9f6b99ea0ab5c6bc", func := "unicodetext/unicodetextlaw21.DecomposeEmpty", spec := "decomposeEmpty", unfollowed := true, recurses := true, named := ["unicodetext/ordering.hangulRanges"], plainKeys := false, apart := false, laid := [("unicodetext/ordering.hangulRanges", laid_unicodetext_ordering_hangulRanges)] }
def DecomposeEmptySaid : Prop := decomposeEmptyRow.holds Tryd.pinned (OpenSpec.ofChange decomposeEmptySpec)

/-- ITS FALSE NEIGHBOUR: 'it returns false'. Refute it at one input. -/
def decomposeEmptyWrong : ChangeSpec := { name := "decomposeEmpty", fn := fun _ => fun
  | [d1, d2, d3] => { results := [.lit (.bool false)], args := [d1, d2, d3] }
  | _ => none }
def DecomposeEmptyWrongFalsely : Prop := decomposeEmptyRow.holds Tryd.pinned (OpenSpec.ofChange decomposeEmptyWrong)

/- THE SECOND FORM. 'bulk': how many values and letters a reading holds, each counted each time it is reached (what is shared counts as often as it is met; a slice's spare places count too). A statement '..UptoSaid' is the law's where the arguments, and the package variables that the reading takes, are together of bulk at most 1048576: NARROWER than '..Said'. Prove '..Said' where nothing that the law and all that it calls make is longer than what came in: it says more and counts as full. Else prove '..UptoSaid'. A law counts once. -/
mutual
def uptoBulk {H : Type} : DataW H → Nat
  | .lit (.string bytes) => bytes.length + 1
  | .lit _ => 1
  | .nil => 1
  | .ptr d => uptoBulk d + 1
  | .slice elems spare => uptoBulkAll elems + uptoBulkAll spare + 1
  | .agg parts => uptoBulkAll parts + 1
  | .iface _ d => uptoBulk d + 1
  | .map entries => uptoBulkEntries entries + 1
  | .held _ => 1
def uptoBulkAll {H : Type} : List (DataW H) → Nat
  | [] => 0
  | d :: r => uptoBulk d + uptoBulkAll r
def uptoBulkEntries {H : Type} : List (Lit × DataW H) → Nat
  | [] => 0
  | x :: r => uptoBulkEntry x + uptoBulkEntries r
def uptoBulkEntry {H : Type} : Lit × DataW H → Nat
  | (.string bytes, d) => bytes.length + uptoBulk d + 1
  | (_, d) => uptoBulk d + 1
 end
def uptoSmall : (H : Type) → List (DataW H) → Bool := fun _ ds => decide (uptoBulkAll ds ≤ 1048576)
def OpenSpec.upto (s : _root_.Go.ChangeSpec) : _root_.Go.OpenSpec := { _root_.Go.OpenSpec.ofChange s with cond := some uptoSmall }

/-- 'unicodetextlaw21.DecomposeChecks', WHERE WHAT IT READS IS OF BULK AT MOST 1048576: true; the input reads as it did. -/
def decomposeChecksUptoRow : OpenClaim := { program := "ytobcaploncgnbaadoor", sum := "56b897cc448e8e47fecadc46168f79f6850decebc795ef8a9f6b99ea0ab5c6bc", func := "unicodetext/unicodetextlaw21.DecomposeChecks", spec := "decomposeChecks", unfollowed := true, recurses := true, named := ["unicodetext/ordering.hangulRanges"], plainKeys := false, apart := false, laid := [("unicodetext/ordering.hangulRanges", laid_unicodetext_ordering_hangulRanges)], narrowed := true }
def DecomposeChecksUptoSaid : Prop := decomposeChecksUptoRow.holds Tryd.pinned (OpenSpec.upto decomposeChecksSpec)

/-- 'unicodetextlaw21.DecomposeDistributes', WHERE WHAT IT READS IS OF BULK AT MOST 1048576: true; the input reads as it did. -/
def decomposeDistributesUptoRow : OpenClaim := { program := "ytobcaploncgnbaadoor", sum := "56b897cc448e8e47fecadc46168f79f6850decebc795ef8a9f6b99ea0ab5c6bc", func := "unicodetext/unicodetextlaw21.DecomposeDistributes", spec := "decomposeDistributes", unfollowed := true, recurses := true, named := ["unicodetext/ordering.hangulRanges"], plainKeys := false, apart := false, laid := [("unicodetext/ordering.hangulRanges", laid_unicodetext_ordering_hangulRanges)], narrowed := true }
def DecomposeDistributesUptoSaid : Prop := decomposeDistributesUptoRow.holds Tryd.pinned (OpenSpec.upto decomposeDistributesSpec)

/-- 'unicodetextlaw21.DecomposeChanges', WHERE WHAT IT READS IS OF BULK AT MOST 1048576: true; the input reads as it did. -/
def decomposeChangesUptoRow : OpenClaim := { program := "ytobcaploncgnbaadoor", sum := "56b897cc448e8e47fecadc46168f79f6850decebc795ef8a9f6b99ea0ab5c6bc", func := "unicodetext/unicodetextlaw21.DecomposeChanges", spec := "decomposeChanges", unfollowed := true, recurses := true, named := ["unicodetext/ordering.hangulRanges"], plainKeys := false, apart := false, laid := [("unicodetext/ordering.hangulRanges", laid_unicodetext_ordering_hangulRanges)], narrowed := true }
def DecomposeChangesUptoSaid : Prop := decomposeChangesUptoRow.holds Tryd.pinned (OpenSpec.upto decomposeChangesSpec)

/-- 'unicodetextlaw21.DecomposeKinds', WHERE WHAT IT READS IS OF BULK AT MOST 1048576: true; the input reads as it did. -/
def decomposeKindsUptoRow : OpenClaim := { program := "ytobcaploncgnbaadoor", sum := "56b897cc448e8e47fecadc46168f79f6850decebc795ef8a9f6b99ea0ab5c6bc", func := "unicodetext/unicodetextlaw21.DecomposeKinds", spec := "decomposeKinds", unfollowed := true, recurses := true, named := ["unicodetext/ordering.hangulRanges"], plainKeys := false, apart := false, laid := [("unicodetext/ordering.hangulRanges", laid_unicodetext_ordering_hangulRanges)], narrowed := true }
def DecomposeKindsUptoSaid : Prop := decomposeKindsUptoRow.holds Tryd.pinned (OpenSpec.upto decomposeKindsSpec)

/-- 'unicodetextlaw21.DecomposeJoins', WHERE WHAT IT READS IS OF BULK AT MOST 1048576: true; the input reads as it did. -/
def decomposeJoinsUptoRow : OpenClaim := { program := "ytobcaploncgnbaadoor", sum := "56b897cc448e8e47fecadc46168f79f6850decebc795ef8a9f6b99ea0ab5c6bc", func := "unicodetext/unicodetextlaw21.DecomposeJoins", spec := "decomposeJoins", unfollowed := true, recurses := true, named := ["unicodetext/ordering.hangulRanges"], plainKeys := false, apart := false, laid := [("unicodetext/ordering.hangulRanges", laid_unicodetext_ordering_hangulRanges)], narrowed := true }
def DecomposeJoinsUptoSaid : Prop := decomposeJoinsUptoRow.holds Tryd.pinned (OpenSpec.upto decomposeJoinsSpec)

/-- 'unicodetextlaw21.DecomposeEmpty', WHERE WHAT IT READS IS OF BULK AT MOST 1048576: true; the input reads as it did. -/
def decomposeEmptyUptoRow : OpenClaim := { program := "ytobcaploncgnbaadoor", sum := "56b897cc448e8e47fecadc46168f79f6850decebc795ef8a9f6b99ea0ab5c6bc", func := "unicodetext/unicodetextlaw21.DecomposeEmpty", spec := "decomposeEmpty", unfollowed := true, recurses := true, named := ["unicodetext/ordering.hangulRanges"], plainKeys := false, apart := false, laid := [("unicodetext/ordering.hangulRanges", laid_unicodetext_ordering_hangulRanges)], narrowed := true }
def DecomposeEmptyUptoSaid : Prop := decomposeEmptyUptoRow.holds Tryd.pinned (OpenSpec.upto decomposeEmptySpec)

end Rows
end Go.Proofs.YtobcaploncgnbaaDoor
