/-
  NARROWER THAN 'FOR EVERY INPUT', by the rows' own cells (each row's printed sentence says how): NormalizeAgain: laid · NormalizeAgrees: laid · NormalizeFirst: laid · NormalizeEqual: laid · NormalizeRelates: laid · NormalizeBelongs: laid.
  DERIVED. THE GIVEN ROWS OF THIS SEAT. 6 by the template 'for every input the law returns true; each argument reads behind the call as it read before'; 0 by the template 'total and deterministic' (their statements: YtdogaaepiddnoaaDoorTotals.lean).
  GIVEN WITH THE SEED: the statements are not yours to turn. If you find one false, say at which input.
  Laid BY PROGRAM, IN A SANDBOX (cutbox-rows.mjs): the forced cells as the released guide's own fill.sh prints them over the translation c18a1a6f50d203db… (all of the seat's roots in one cut). By AI agents, Wed Nov 11 2026. No macro, syntax, notation, axiom, sorry.
-/
import Derived.Test.YtdogaaepiddnoaaDoorChecked
import GoSem.Claim
import GoSem.ClaimJoined
import GoSem.ClaimMapViews
import Derived.JoinedTies
import Derived.KernelRfl
namespace Go.Proofs.YtdogaaepiddnoaaDoor
/- THE CELL 'sum', in the pinned program and in every row, IS THE sha256 OF THE DUMP (.gsa) THAT YtdogaaepiddnoaaDoorProg.lean LOADS. Nothing in Lean hashes anything: it is a label: what it is worth is what the hold of that sum in a sandbox is worth. -/
noncomputable def Tryd.pinned : Pinned := { name := "ytdogaaepiddnoaadoor", sum := "c18a1a6f50d203db934760d239b2bb68e2e3cd628e6613b2eb2a89d7d0a0bfe6", checked := Tryd.checked }
namespace Rows
def none {H : Type} : Left H := { results := [], args := [] }

/- WHAT THE LISTED PACKAGE-LEVEL VARIABLES READ AS WHEN THE CALL BEGINS. Each datum BY PROGRAM (the guide's laid-datum.mjs) off the statement by which the dump's own 'gosem.cut.vars' lays the variable. In a bare row this is a premise. The card (YtdogaaepiddnoaaDoorCards.lean) ties it to the program's text. -/
def laid_unicodetext_ordering_hangulRanges {H : Type} : DataW H := .agg [.agg [.lit (.int .i64 4352), .lit (.int .i64 4370)], .agg [.lit (.int .i64 4449), .lit (.int .i64 4469)], .agg [.lit (.int .i64 4520), .lit (.int .i64 4546)], .agg [.lit (.int .i64 44032), .lit (.int .i64 55203)]]

/-- 'unicodetextlaw23.NormalizeAgain': WHATEVER THE INPUT: true; the input reads as it did. -/
def normalizeAgainSpec : ChangeSpec := { name := "normalizeAgain", fn := fun _ => fun
  | [d1, d2, d3] => { results := [.lit (.bool true)], args := [d1, d2, d3] }
  | _ => none }
def normalizeAgainRow : OpenClaim := { program := "ytdogaaepiddnoaadoor", sum := "c18a1a6f50d203db934760d239b2bb68e2e3cd628e6613b2eb2a89d7d0a0bfe6", func := "unicodetext/unicodetextlaw23.NormalizeAgain", spec := "normalizeAgain", unfollowed := true, recurses := true, named := ["unicodetext/ordering.hangulRanges"], plainKeys := false, apart := false, laid := [("unicodetext/ordering.hangulRanges", laid_unicodetext_ordering_hangulRanges)] }
def NormalizeAgainSaid : Prop := normalizeAgainRow.holds Tryd.pinned (OpenSpec.ofChange normalizeAgainSpec)

/-- ITS FALSE NEIGHBOUR: 'it returns false'. Refute it at one input. -/
def normalizeAgainWrong : ChangeSpec := { name := "normalizeAgain", fn := fun _ => fun
  | [d1, d2, d3] => { results := [.lit (.bool false)], args := [d1, d2, d3] }
  | _ => none }
def NormalizeAgainWrongFalsely : Prop := normalizeAgainRow.holds Tryd.pinned (OpenSpec.ofChange normalizeAgainWrong)

/-- 'unicodetextlaw23.NormalizeAgrees': WHATEVER THE INPUT: true; the input reads as it did. -/
def normalizeAgreesSpec : ChangeSpec := { name := "normalizeAgrees", fn := fun _ => fun
  | [d1, d2, d3] => { results := [.lit (.bool true)], args := [d1, d2, d3] }
  | _ => none }
def normalizeAgreesRow : OpenClaim := { program := "ytdogaaepiddnoaadoor", sum := "c18a1a6f50d203db934760d239b2bb68e2e3cd628e6613b2eb2a89d7d0a0bfe6", func := "unicodetext/unicodetextlaw23.NormalizeAgrees", spec := "normalizeAgrees", unfollowed := true, recurses := true, named := ["unicodetext/ordering.hangulRanges"], plainKeys := false, apart := false, laid := [("unicodetext/ordering.hangulRanges", laid_unicodetext_ordering_hangulRanges)] }
def NormalizeAgreesSaid : Prop := normalizeAgreesRow.holds Tryd.pinned (OpenSpec.ofChange normalizeAgreesSpec)

/-- ITS FALSE NEIGHBOUR: 'it returns false'. Refute it at one input. -/
def normalizeAgreesWrong : ChangeSpec := { name := "normalizeAgrees", fn := fun _ => fun
  | [d1, d2, d3] => { results := [.lit (.bool false)], args := [d1, d2, d3] }
  | _ => none }
def NormalizeAgreesWrongFalsely : Prop := normalizeAgreesRow.holds Tryd.pinned (OpenSpec.ofChange normalizeAgreesWrong)

/-- 'unicodetextlaw23.NormalizeFirst': WHATEVER THE INPUT: true; the input reads as it did. -/
def normalizeFirstSpec : ChangeSpec := { name := "normalizeFirst", fn := fun _ => fun
  | [d1, d2, d3] => { results := [.lit (.bool true)], args := [d1, d2, d3] }
  | _ => none }
def normalizeFirstRow : OpenClaim := { program := "ytdogaaepiddnoaadoor", sum := "c18a1a6f50d203db934760d239b2bb68e2e3cd628e6613b2eb2a89d7d0a0bfe6", func := "unicodetext/unicodetextlaw23.NormalizeFirst", spec := "normalizeFirst", unfollowed := true, recurses := true, named := ["unicodetext/ordering.hangulRanges"], plainKeys := false, apart := false, laid := [("unicodetext/ordering.hangulRanges", laid_unicodetext_ordering_hangulRanges)] }
def NormalizeFirstSaid : Prop := normalizeFirstRow.holds Tryd.pinned (OpenSpec.ofChange normalizeFirstSpec)

/-- ITS FALSE NEIGHBOUR: 'it returns false'. Refute it at one input. -/
def normalizeFirstWrong : ChangeSpec := { name := "normalizeFirst", fn := fun _ => fun
  | [d1, d2, d3] => { results := [.lit (.bool false)], args := [d1, d2, d3] }
  | _ => none }
def NormalizeFirstWrongFalsely : Prop := normalizeFirstRow.holds Tryd.pinned (OpenSpec.ofChange normalizeFirstWrong)

/-- 'unicodetextlaw23.NormalizeEqual': WHATEVER THE INPUT: true; the input reads as it did. -/
def normalizeEqualSpec : ChangeSpec := { name := "normalizeEqual", fn := fun _ => fun
  | [d1, d2, d3] => { results := [.lit (.bool true)], args := [d1, d2, d3] }
  | _ => none }
def normalizeEqualRow : OpenClaim := { program := "ytdogaaepiddnoaadoor", sum := "c18a1a6f50d203db934760d239b2bb68e2e3cd628e6613b2eb2a89d7d0a0bfe6", func := "unicodetext/unicodetextlaw23.NormalizeEqual", spec := "normalizeEqual", unfollowed := true, recurses := true, named := ["unicodetext/ordering.hangulRanges"], plainKeys := false, apart := false, laid := [("unicodetext/ordering.hangulRanges", laid_unicodetext_ordering_hangulRanges)] }
def NormalizeEqualSaid : Prop := normalizeEqualRow.holds Tryd.pinned (OpenSpec.ofChange normalizeEqualSpec)

/-- ITS FALSE NEIGHBOUR: 'it returns false'. Refute it at one input. -/
def normalizeEqualWrong : ChangeSpec := { name := "normalizeEqual", fn := fun _ => fun
  | [d1, d2, d3] => { results := [.lit (.bool false)], args := [d1, d2, d3] }
  | _ => none }
def NormalizeEqualWrongFalsely : Prop := normalizeEqualRow.holds Tryd.pinned (OpenSpec.ofChange normalizeEqualWrong)

/-- 'unicodetextlaw23.NormalizeRelates': WHATEVER THE INPUT: true; the input reads as it did. -/
def normalizeRelatesSpec : ChangeSpec := { name := "normalizeRelates", fn := fun _ => fun
  | [d1, d2, d3] => { results := [.lit (.bool true)], args := [d1, d2, d3] }
  | _ => none }
def normalizeRelatesRow : OpenClaim := { program := "ytdogaaepiddnoaadoor", sum := "c18a1a6f50d203db934760d239b2bb68e2e3cd628e6613b2eb2a89d7d0a0bfe6", func := "unicodetext/unicodetextlaw23.NormalizeRelates", spec := "normalizeRelates", unfollowed := true, recurses := true, named := ["unicodetext/ordering.hangulRanges"], plainKeys := false, apart := false, laid := [("unicodetext/ordering.hangulRanges", laid_unicodetext_ordering_hangulRanges)] }
def NormalizeRelatesSaid : Prop := normalizeRelatesRow.holds Tryd.pinned (OpenSpec.ofChange normalizeRelatesSpec)

/-- ITS FALSE NEIGHBOUR: 'it returns false'. Refute it at one input. -/
def normalizeRelatesWrong : ChangeSpec := { name := "normalizeRelates", fn := fun _ => fun
  | [d1, d2, d3] => { results := [.lit (.bool false)], args := [d1, d2, d3] }
  | _ => none }
def NormalizeRelatesWrongFalsely : Prop := normalizeRelatesRow.holds Tryd.pinned (OpenSpec.ofChange normalizeRelatesWrong)

/-- 'unicodetextlaw23.NormalizeBelongs': WHATEVER THE INPUT: true; the input reads as it did. -/
def normalizeBelongsSpec : ChangeSpec := { name := "normalizeBelongs", fn := fun _ => fun
  | [d1, d2] => { results := [.lit (.bool true)], args := [d1, d2] }
  | _ => none }
def normalizeBelongsRow : OpenClaim := { program := "ytdogaaepiddnoaadoor", sum := "c18a1a6f50d203db934760d239b2bb68e2e3cd628e6613b2eb2a89d7d0a0bfe6", func := "unicodetext/unicodetextlaw23.NormalizeBelongs", spec := "normalizeBelongs", unfollowed := true, recurses := true, named := ["unicodetext/ordering.hangulRanges"], plainKeys := false, apart := false, laid := [("unicodetext/ordering.hangulRanges", laid_unicodetext_ordering_hangulRanges)] }
def NormalizeBelongsSaid : Prop := normalizeBelongsRow.holds Tryd.pinned (OpenSpec.ofChange normalizeBelongsSpec)

/-- ITS FALSE NEIGHBOUR: 'it returns false'. Refute it at one input. -/
def normalizeBelongsWrong : ChangeSpec := { name := "normalizeBelongs", fn := fun _ => fun
  | [d1, d2] => { results := [.lit (.bool false)], args := [d1, d2] }
  | _ => none }
def NormalizeBelongsWrongFalsely : Prop := normalizeBelongsRow.holds Tryd.pinned (OpenSpec.ofChange normalizeBelongsWrong)

/- THE SECOND FORM. 'bulk': how many values and letters a reading holds, each counted each time it is reached (what is shared counts as often as it is met; a slice's spare places count too). A statement '..UptoSaid' is the law's where the arguments, and the package variables that the reading takes, are together of bulk at most 1048576: NARROWER than '..Said'. Prove '..Said' where nothing that the law and all that it calls make is longer than what came in: it says more and counts as full. Else prove '..UptoSaid'. A law counts once. -/
mutual
def uptoBulk {H : Type} : DataW H → Nat
  | .lit (.string bytes) => bytes.length + 1
  | .lit _ => 1
  | .nil => 1
  | .ptr d => uptoBulk d + 1
  | .slice elems spare => uptoBulkAll elems + uptoBulkAll spare + 1
  | .agg parts => uptoBulkAll parts + 1
  | .iface _ d => uptoBulk d + 1
  | .map entries => uptoBulkEntries entries + 1
  | .held _ => 1
def uptoBulkAll {H : Type} : List (DataW H) → Nat
  | [] => 0
  | d :: r => uptoBulk d + uptoBulkAll r
def uptoBulkEntries {H : Type} : List (Lit × DataW H) → Nat
  | [] => 0
  | x :: r => uptoBulkEntry x + uptoBulkEntries r
def uptoBulkEntry {H : Type} : Lit × DataW H → Nat
  | (.string bytes, d) => bytes.length + uptoBulk d + 1
  | (_, d) => uptoBulk d + 1
 end
def uptoSmall : (H : Type) → List (DataW H) → Bool := fun _ ds => decide (uptoBulkAll ds ≤ 1048576)
def OpenSpec.upto (s : _root_.Go.ChangeSpec) : _root_.Go.OpenSpec := { _root_.Go.OpenSpec.ofChange s with cond := some uptoSmall }

/-- 'unicodetextlaw23.NormalizeAgain', WHERE WHAT IT READS IS OF BULK AT MOST 1048576: true; the input reads as it did. -/
def normalizeAgainUptoRow : OpenClaim := { program := "ytdogaaepiddnoaadoor", sum := "c18a1a6f50d203db934760d239b2bb68e2e3cd628e6613b2eb2a89d7d0a0bfe6", func := "unicodetext/unicodetextlaw23.NormalizeAgain", spec := "normalizeAgain", unfollowed := true, recurses := true, named := ["unicodetext/ordering.hangulRanges"], plainKeys := false, apart := false, laid := [("unicodetext/ordering.hangulRanges", laid_unicodetext_ordering_hangulRanges)], narrowed := true }
def NormalizeAgainUptoSaid : Prop := normalizeAgainUptoRow.holds Tryd.pinned (OpenSpec.upto normalizeAgainSpec)

/-- 'unicodetextlaw23.NormalizeAgrees', WHERE WHAT IT READS IS OF BULK AT MOST 1048576: true; the input reads as it did. -/
def normalizeAgreesUptoRow : OpenClaim := { program := "ytdogaaepiddnoaadoor", sum := "c18a1a6f50d203db934760d239b2bb68e2e3cd628e6613b2eb2a89d7d0a0bfe6", func := "unicodetext/unicodetextlaw23.NormalizeAgrees", spec := "normalizeAgrees", unfollowed := true, recurses := true, named := ["unicodetext/ordering.hangulRanges"], plainKeys := false, apart := false, laid := [("unicodetext/ordering.hangulRanges", laid_unicodetext_ordering_hangulRanges)], narrowed := true }
def NormalizeAgreesUptoSaid : Prop := normalizeAgreesUptoRow.holds Tryd.pinned (OpenSpec.upto normalizeAgreesSpec)

/-- 'unicodetextlaw23.NormalizeFirst', WHERE WHAT IT READS IS OF BULK AT MOST 1048576: true; the input reads as it did. -/
def normalizeFirstUptoRow : OpenClaim := { program := "ytdogaaepiddnoaadoor", sum := "c18a1a6f50d203db934760d239b2bb68e2e3cd628e6613b2eb2a89d7d0a0bfe6", func := "unicodetext/unicodetextlaw23.NormalizeFirst", spec := "normalizeFirst", unfollowed := true, recurses := true, named := ["unicodetext/ordering.hangulRanges"], plainKeys := false, apart := false, laid := [("unicodetext/ordering.hangulRanges", laid_unicodetext_ordering_hangulRanges)], narrowed := true }
def NormalizeFirstUptoSaid : Prop := normalizeFirstUptoRow.holds Tryd.pinned (OpenSpec.upto normalizeFirstSpec)

/-- 'unicodetextlaw23.NormalizeEqual', WHERE WHAT IT READS IS OF BULK AT MOST 1048576: true; the input reads as it did. -/
def normalizeEqualUptoRow : OpenClaim := { program := "ytdogaaepiddnoaadoor", sum := "c18a1a6f50d203db934760d239b2bb68e2e3cd628e6613b2eb2a89d7d0a0bfe6", func := "unicodetext/unicodetextlaw23.NormalizeEqual", spec := "normalizeEqual", unfollowed := true, recurses := true, named := ["unicodetext/ordering.hangulRanges"], plainKeys := false, apart := false, laid := [("unicodetext/ordering.hangulRanges", laid_unicodetext_ordering_hangulRanges)], narrowed := true }
def NormalizeEqualUptoSaid : Prop := normalizeEqualUptoRow.holds Tryd.pinned (OpenSpec.upto normalizeEqualSpec)

/-- 'unicodetextlaw23.NormalizeRelates', WHERE WHAT IT READS IS OF BULK AT MOST 1048576: true; the input reads as it did. -/
def normalizeRelatesUptoRow : OpenClaim := { program := "ytdogaaepiddnoaadoor", sum := "c18a1a6f50d203db934760d239b2bb68e2e3cd628e6613b2eb2a89d7d0a0bfe6", func := "unicodetext/unicodetextlaw23.NormalizeRelates", spec := "normalizeRelates", unfollowed := true, recurses := true, named := ["unicodetext/ordering.hangulRanges"], plainKeys := false, apart := false, laid := [("unicodetext/ordering.hangulRanges", laid_unicodetext_ordering_hangulRanges)], narrowed := true }
def NormalizeRelatesUptoSaid : Prop := normalizeRelatesUptoRow.holds Tryd.pinned (OpenSpec.upto normalizeRelatesSpec)

/-- 'unicodetextlaw23.NormalizeBelongs', WHERE WHAT IT READS IS OF BULK AT MOST 1048576: true; the input reads as it did. -/
def normalizeBelongsUptoRow : OpenClaim := { program := "ytdogaaepiddnoaadoor", sum := "c18a1a6f50d203db934760d239b2bb68e2e3cd628e6613b2eb2a89d7d0a0bfe6", func := "unicodetext/unicodetextlaw23.NormalizeBelongs", spec := "normalizeBelongs", unfollowed := true, recurses := true, named := ["unicodetext/ordering.hangulRanges"], plainKeys := false, apart := false, laid := [("unicodetext/ordering.hangulRanges", laid_unicodetext_ordering_hangulRanges)], narrowed := true }
def NormalizeBelongsUptoSaid : Prop := normalizeBelongsUptoRow.holds Tryd.pinned (OpenSpec.upto normalizeBelongsSpec)

end Rows
end Go.Proofs.YtdogaaepiddnoaaDoor
