/-
  NARROWER THAN 'FOR EVERY INPUT', by the rows' own cells (each row's printed sentence says how): StreamsafeTwice: laid · StreamsafeKeeps: laid · StreamsafeBounds: laid.
  DERIVED. THE GIVEN ROWS OF THIS SEAT. 3 by the template 'for every input the law returns true; each argument reads behind the call as it read before'; 0 by the template 'total and deterministic' (their statements: YtljkkfohlkhjnaaDoorTotals.lean).
  GIVEN WITH THE SEED: the statements are not yours to turn. If you find one false, say at which input.
  Laid BY PROGRAM, IN A SANDBOX (cutbox-rows.mjs): the forced cells as the released guide's own fill.sh prints them over the translation 45d5fce689e60c98… (all of the seat's roots in one cut). By AI agents, Wed Nov 11 2026. No macro, syntax, notation, axiom, sorry.
-/
import Derived.Test.YtljkkfohlkhjnaaDoorChecked
import GoSem.Claim
import GoSem.ClaimJoined
import GoSem.ClaimMapViews
import Derived.JoinedTies
import Derived.KernelRfl
namespace Go.Proofs.YtljkkfohlkhjnaaDoor
/- THE CELL 'sum', in the pinned program and in every row, IS THE sha256 OF THE DUMP (.gsa) THAT YtljkkfohlkhjnaaDoorProg.lean LOADS. Nothing in Lean hashes anything: it is a label: what it is worth is what the hold of that sum in a sandbox is worth. -/
noncomputable def Tryd.pinned : Pinned := { name := "ytljkkfohlkhjnaadoor", sum := "45d5fce689e60c982f1d2c4de818dc3124139247b4183d116abdd8a931471250", checked := Tryd.checked }
namespace Rows
def none {H : Type} : Left H := { results := [], args := [] }

/- WHAT THE LISTED PACKAGE-LEVEL VARIABLES READ AS WHEN THE CALL BEGINS. Each datum BY PROGRAM (the guide's laid-datum.mjs) off the statement by which the dump's own 'gosem.cut.vars' lays the variable. In a bare row this is a premise. The card (YtljkkfohlkhjnaaDoorCards.lean) ties it to the program's text. -/
def laid_unicodetext_ordering_hangulRanges {H : Type} : DataW H := .agg [.agg [.lit (.int .i64 4352), .lit (.int .i64 4370)], .agg [.lit (.int .i64 4449), .lit (.int .i64 4469)], .agg [.lit (.int .i64 4520), .lit (.int .i64 4546)], .agg [.lit (.int .i64 44032), .lit (.int .i64 55203)]]

/-- 'unicodetextlaw27.StreamsafeTwice': WHATEVER THE INPUT: true; the input reads as it did. -/
def streamsafeTwiceSpec : ChangeSpec := { name := "streamsafeTwice", fn := fun _ => fun
  | [d1, d2, d3] => { results := [.lit (.bool true)], args := [d1, d2, d3] }
  | _ => none }
def streamsafeTwiceRow : OpenClaim := { program := "ytljkkfohlkhjnaadoor", sum := "45d5fce689e60c982f1d2c4de818dc3124139247b4183d116abdd8a931471250", func := "unicodetext/unicodetextlaw27.StreamsafeTwice", spec := "streamsafeTwice", unfollowed := true, recurses := true, named := ["unicodetext/ordering.hangulRanges"], plainKeys := false, apart := false, laid := [("unicodetext/ordering.hangulRanges", laid_unicodetext_ordering_hangulRanges)] }
def StreamsafeTwiceSaid : Prop := streamsafeTwiceRow.holds Tryd.pinned (OpenSpec.ofChange streamsafeTwiceSpec)

/-- ITS FALSE NEIGHBOUR: 'it returns false'. Refute it at one input. -/
def streamsafeTwiceWrong : ChangeSpec := { name := "streamsafeTwice", fn := fun _ => fun
  | [d1, d2, d3] => { results := [.lit (.bool false)], args := [d1, d2, d3] }
  | _ => none }
def StreamsafeTwiceWrongFalsely : Prop := streamsafeTwiceRow.holds Tryd.pinned (OpenSpec.ofChange streamsafeTwiceWrong)

/-- 'unicodetextlaw27.StreamsafeKeeps': WHATEVER THE INPUT: true; the input reads as it did. -/
def streamsafeKeepsSpec : ChangeSpec := { name := "streamsafeKeeps", fn := fun _ => fun
  | [d1, d2, d3] => { results := [.lit (.bool true)], args := [d1, d2, d3] }
  | _ => none }
def streamsafeKeepsRow : OpenClaim := { program := "ytljkkfohlkhjnaadoor", sum := "45d5fce689e60c982f1d2c4de818dc3124139247b4183d116abdd8a931471250", func := "unicodetext/unicodetextlaw27.StreamsafeKeeps", spec := "streamsafeKeeps", unfollowed := true, recurses := true, named := ["unicodetext/ordering.hangulRanges"], plainKeys := false, apart := false, laid := [("unicodetext/ordering.hangulRanges", laid_unicodetext_ordering_hangulRanges)] }
def StreamsafeKeepsSaid : Prop := streamsafeKeepsRow.holds Tryd.pinned (OpenSpec.ofChange streamsafeKeepsSpec)

/-- ITS FALSE NEIGHBOUR: 'it returns false'. Refute it at one input. -/
def streamsafeKeepsWrong : ChangeSpec := { name := "streamsafeKeeps", fn := fun _ => fun
  | [d1, d2, d3] => { results := [.lit (.bool false)], args := [d1, d2, d3] }
  | _ => none }
def StreamsafeKeepsWrongFalsely : Prop := streamsafeKeepsRow.holds Tryd.pinned (OpenSpec.ofChange streamsafeKeepsWrong)

/-- 'unicodetextlaw27.StreamsafeBounds': WHATEVER THE INPUT: true; the input reads as it did. -/
def streamsafeBoundsSpec : ChangeSpec := { name := "streamsafeBounds", fn := fun _ => fun
  | [d1, d2, d3] => { results := [.lit (.bool true)], args := [d1, d2, d3] }
  | _ => none }
def streamsafeBoundsRow : OpenClaim := { program := "ytljkkfohlkhjnaadoor", sum := "45d5fce689e60c982f1d2c4de818dc3124139247b4183d116abdd8a931471250", func := "unicodetext/unicodetextlaw27.StreamsafeBounds", spec := "streamsafeBounds", unfollowed := true, recurses := true, named := ["unicodetext/ordering.hangulRanges"], plainKeys := false, apart := false, laid := [("unicodetext/ordering.hangulRanges", laid_unicodetext_ordering_hangulRanges)] }
def StreamsafeBoundsSaid : Prop := streamsafeBoundsRow.holds Tryd.pinned (OpenSpec.ofChange streamsafeBoundsSpec)

/-- ITS FALSE NEIGHBOUR: 'it returns false'. Refute it at one input. -/
def streamsafeBoundsWrong : ChangeSpec := { name := "streamsafeBounds", fn := fun _ => fun
  | [d1, d2, d3] => { results := [.lit (.bool false)], args := [d1, d2, d3] }
  | _ => none }
def StreamsafeBoundsWrongFalsely : Prop := streamsafeBoundsRow.holds Tryd.pinned (OpenSpec.ofChange streamsafeBoundsWrong)

/- THE SECOND FORM. 'bulk': how many values and letters a reading holds, each counted each time it is reached (what is shared counts as often as it is met; a slice's spare places count too). A statement '..UptoSaid' is the law's where the arguments, and the package variables that the reading takes, are together of bulk at most 1048576: NARROWER than '..Said'. Prove '..Said' where nothing that the law and all that it calls make is longer than what came in: it says more and counts as full. Else prove '..UptoSaid'. A law counts once. -/
mutual
def uptoBulk {H : Type} : DataW H → Nat
  | .lit (.string bytes) => bytes.length + 1
  | .lit _ => 1
  | .nil => 1
  | .ptr d => uptoBulk d + 1
  | .slice elems spare => uptoBulkAll elems + uptoBulkAll spare + 1
  | .agg parts => uptoBulkAll parts + 1
  | .iface _ d => uptoBulk d + 1
  | .map entries => uptoBulkEntries entries + 1
  | .held _ => 1
def uptoBulkAll {H : Type} : List (DataW H) → Nat
  | [] => 0
  | d :: r => uptoBulk d + uptoBulkAll r
def uptoBulkEntries {H : Type} : List (Lit × DataW H) → Nat
  | [] => 0
  | x :: r => uptoBulkEntry x + uptoBulkEntries r
def uptoBulkEntry {H : Type} : Lit × DataW H → Nat
  | (.string bytes, d) => bytes.length + uptoBulk d + 1
  | (_, d) => uptoBulk d + 1
 end
def uptoSmall : (H : Type) → List (DataW H) → Bool := fun _ ds => decide (uptoBulkAll ds ≤ 1048576)
def OpenSpec.upto (s : _root_.Go.ChangeSpec) : _root_.Go.OpenSpec := { _root_.Go.OpenSpec.ofChange s with cond := some uptoSmall }

/-- 'unicodetextlaw27.StreamsafeTwice', WHERE WHAT IT READS IS OF BULK AT MOST 1048576: true; the input reads as it did. -/
def streamsafeTwiceUptoRow : OpenClaim := { program := "ytljkkfohlkhjnaadoor", sum := "45d5fce689e60c982f1d2c4de818dc3124139247b4183d116abdd8a931471250", func := "unicodetext/unicodetextlaw27.StreamsafeTwice", spec := "streamsafeTwice", unfollowed := true, recurses := true, named := ["unicodetext/ordering.hangulRanges"], plainKeys := false, apart := false, laid := [("unicodetext/ordering.hangulRanges", laid_unicodetext_ordering_hangulRanges)], narrowed := true }
def StreamsafeTwiceUptoSaid : Prop := streamsafeTwiceUptoRow.holds Tryd.pinned (OpenSpec.upto streamsafeTwiceSpec)

/-- 'unicodetextlaw27.StreamsafeKeeps', WHERE WHAT IT READS IS OF BULK AT MOST 1048576: true; the input reads as it did. -/
def streamsafeKeepsUptoRow : OpenClaim := { program := "ytljkkfohlkhjnaadoor", sum := "45d5fce689e60c982f1d2c4de818dc3124139247b4183d116abdd8a931471250", func := "unicodetext/unicodetextlaw27.StreamsafeKeeps", spec := "streamsafeKeeps", unfollowed := true, recurses := true, named := ["unicodetext/ordering.hangulRanges"], plainKeys := false, apart := false, laid := [("unicodetext/ordering.hangulRanges", laid_unicodetext_ordering_hangulRanges)], narrowed := true }
def StreamsafeKeepsUptoSaid : Prop := streamsafeKeepsUptoRow.holds Tryd.pinned (OpenSpec.upto streamsafeKeepsSpec)

/-- 'unicodetextlaw27.StreamsafeBounds', WHERE WHAT IT READS IS OF BULK AT MOST 1048576: true; the input reads as it did. -/
def streamsafeBoundsUptoRow : OpenClaim := { program := "ytljkkfohlkhjnaadoor", sum := "45d5fce689e60c982f1d2c4de818dc3124139247b4183d116abdd8a931471250", func := "unicodetext/unicodetextlaw27.StreamsafeBounds", spec := "streamsafeBounds", unfollowed := true, recurses := true, named := ["unicodetext/ordering.hangulRanges"], plainKeys := false, apart := false, laid := [("unicodetext/ordering.hangulRanges", laid_unicodetext_ordering_hangulRanges)], narrowed := true }
def StreamsafeBoundsUptoSaid : Prop := streamsafeBoundsUptoRow.holds Tryd.pinned (OpenSpec.upto streamsafeBoundsSpec)

end Rows
end Go.Proofs.YtljkkfohlkhjnaaDoor
