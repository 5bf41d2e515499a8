/- law24.QuickcheckBoundaries returns true for every input, and leaves the input as it was: the row, and its card tied to the program's text. Condition: the package variable hangulRanges holds what its initialiser lays (the card ties it). -/
import Derived.Test.YtjfhcmkcmdnhoaaGreatDoorKRowC
import Derived.Test.YtjfhcmkcmdnhoaaGreatDoorKFcQuickcheckBoundaries
import Derived.Test.YtjfhcmkcmdnhoaaGreatDoorKRowN
import Derived.Test.YtjfhcmkcmdnhoaaGreatDoorKPl42
namespace Go.Proofs.YtjfhcmkcmdnhoaaGreatDoor
open Go Go.RowKit Go.ChangeShapes Go.WideShapes Go.ChangeAt
set_option maxRecDepth 100000 in
theorem quickcheckBoundaries_contract (H : Type) (enc : TypeId × Value → H) (W : World) (base : Nat) (args : Array Value) (ds gs : List (DataW H)) (before : List MemPlace)
    (hval : ∀ (j : Nat) t v, Tryz.f10.params[j]? = some t → args[j]? = some v → Value.okWide Tryz.prog W .any base t v)
    (hW : DataW.Whole enc Tryz.prog Tryz.f10.params.toList Rows.quickcheckBoundariesSpec.vars false W args.toList ds gs before) (hL : laidMetH Tryz.prog Rows.quickcheckBoundariesRow.laid W) :
    Calls Tryz.prog 10 args W fun e W' => ∃ v, e = .returned v ∧ Rows.quickcheckBoundariesSpec.post enc Tryz.prog Tryz.f10 false true false false W args v W' := by
  have hW' := hW
  obtain ⟨p, q, hA0, hV, _, _, _⟩ := hW
  have hA : DataW.TrodAll enc Tryz.prog W 0 (fun _ => true) true Tryz.f10.params.toList args.toList ds p := hA0
  rw [Tryz.params10] at hA hval
  obtain ⟨v0, vs0, d0, ds0, p0, q0, hargs, rfl, rfl, h0, r0⟩ := trodAll_cons hA
  obtain ⟨rfl, rfl, rfl⟩ := trodAll_nil r0
  obtain rfl : args = #[v0] := by cases args; simp_all
  obtain ⟨rfl, rfl⟩ := trodVars_none hV
  obtain ⟨s0, n0, x0, A0, l0, c0, xs0, rfl, hN0, hx0, hI0⟩ := open_case (hval 0 54 v0 rfl rfl) h0
  refine (law_boundaries24 s0 n0 x0 A0 l0 c0 xs0 W hN0 hx0 hI0 (glob_ofH hL)).mono fun e W' ⟨he, hk⟩ => ?_
  subst he
  exact ⟨_, rfl, post_true rfl (by kernel_rfl) (fun t ht => by rw [Tryz.params10] at ht; simp at ht; subst ht; exact of_decide_eq_true (by kernel_rfl)) hW' rfl hk⟩
noncomputable def quickcheckBoundaries_world (os : Os) : World :=
  { World.holding Tryz.prog os ⟨#[], #[], []⟩ with heap := (World.holding Tryz.prog os ⟨#[], #[], []⟩).heap.modify 0 fun
      | .cells _ t frozen => .cells #[.int .i64 4352, .int .i64 4370, .int .i64 4449, .int .i64 4469, .int .i64 4520, .int .i64 4546, .int .i64 44032, .int .i64 55203] t frozen
      | o => o }
theorem quickcheckBoundaries_met (os : Os) : laidMet Tryz.prog Rows.quickcheckBoundariesRow.laid ((quickcheckBoundaries_world os).forCall (fun _ _ => 0) ⟨#[], #[.agg #[.slice none 0 0, .slice none 0 0, .slice none 0 0, .int .i64 0, .slice none 0 0]], []⟩).memory :=
  laidMet_of_run' 8 (by kernel_rfl) (by kernel_rfl)
theorem quickcheckBoundaries_reads (os : Os) {H : Type} (enc : TypeId × Value → H) : ∃ places, DataW.whole enc Tryz.prog ((quickcheckBoundaries_world os).forCall (fun _ _ => 0) ⟨#[], #[.agg #[.slice none 0 0, .slice none 0 0, .slice none 0 0, .int .i64 0, .slice none 0 0]], []⟩).memory Tryz.f10.params.toList Rows.quickcheckBoundariesSpec.vars false #[(.agg #[.slice none 0 0, .slice none 0 0, .slice none 0 0, .int .i64 0, .slice none 0 0] : Value)].toList 8 = some ([.agg [.agg [.nil, .nil, .agg [.nil]], .lit (.int .i64 0), .nil]], [], places) :=
  ⟨[], by kernel_rfl⟩
set_option maxRecDepth 100000 in
theorem quickcheckBoundaries_lifted (os : Os) (started : os.Started) (H : Type) (enc : TypeId × Value → H) (F : Stop.Interp) :
    ReturnsInHanded {} Tryz.checked os 10 .any ((OpenSpec.ofChange Rows.quickcheckBoundariesSpec).preRow enc Tryz.prog Tryz.f10 Rows.quickcheckBoundariesRow.domain false Rows.quickcheckBoundariesRow.laid) (((OpenSpec.ofChange Rows.quickcheckBoundariesSpec).at F).post enc Tryz.prog Tryz.f10 false true false false) := by
  obtain ⟨places, hx⟩ := quickcheckBoundaries_reads os enc
  refine returnsInHanded_of_row (C := Tryz.checked) (s := OpenSpec.ofChange Rows.quickcheckBoundariesSpec) row_own started (by kernel_rfl) Tryz.func10
    (witness_row_at (enc := enc) (C := Tryz.checked) false (quickcheckBoundaries_world os) #[.agg #[.slice none 0 0, .slice none 0 0, .slice none 0 0, .int .i64 0, .slice none 0 0]] rfl (by kernel_rfl) (by kernel_rfl) (by kernel_rfl)
      (OpenSpec.preRow_of_cond 8 hx (by kernel_rfl) (fun k hk => by cases hk) (by kernel_rfl) (quickcheckBoundaries_met os))) ?_
  intro W base args ds gs before hval hW _ _ _ hL _ _
  exact quickcheckBoundaries_contract H enc W base args ds gs before hval hW hL
theorem quickcheckBoundaries_said : Rows.QuickcheckBoundariesSaid :=
  OpenClaim.holds_of_cond 10 Tryz.f10 rfl rfl rfl rfl rfl rfl rfl ⟨rfl, rfl, rfl, rfl, rfl⟩ rfl rfl rfl rfl rfl (by kernel_rfl) Tryz.func10 quickcheckBoundaries_facts
    (of_decide_eq_true (by kernel_rfl)) (by unfold Func.isWrapper; first | (rw [if_pos (by decide +kernel)]; kernel_rfl) | (rw [if_neg (by decide +kernel)]; exact ⟨rfl, rfl⟩))
    (fun os started H enc _ F => by rw [OpenClaim.pre_eq_preRow]; exact quickcheckBoundaries_lifted os started H enc F)
theorem quickcheckBoundaries_plain (f : FuncId) (fn : Func) (hf : Tryz.pinned.checked.prog.funcNamed "unicodetext/unicodetextlaw24.QuickcheckBoundaries" = some f) (hfn : Tryz.pinned.checked.prog.funcs[f]? = some fn) :
    false = Tryz.pinned.checked.prog.looks [] ∧ ∀ (j : Nat) t, fn.params[j]? = some t → Tryz.pinned.checked.prog.wantsStandIn t = false := by
  obtain rfl : f = 10 := Option.some.inj ((show Tryz.prog.funcNamed "unicodetext/unicodetextlaw24.QuickcheckBoundaries" = some 10 by kernel_rfl).symm.trans hf) |>.symm
  obtain rfl : fn = Tryz.f10 := (Option.some.inj (Tryz.func10.symm.trans hfn)).symm
  refine ⟨by kernel_rfl, fun j t ht => ?_⟩
  rw [Tryz.params10] at ht
  have hm := Array.mem_of_getElem? ht
  obtain rfl : t = 54 := by simpa using hm
  exact (show Tryz.prog.wantsStandIn 54 = false by kernel_rfl)
theorem quickcheckBoundaries_card : Rows.QuickcheckBoundariesCardSaid :=
  Claim7.holds_tied_plain_at .later [] _ _ _ _ quickcheckBoundaries_said (fun _ h => by cases h) (by kernel_rfl) (fun _ h => by cases h) quickcheckBoundaries_row_tie rfl ⟨rfl, rfl⟩ prog_main rfl quickcheckBoundaries_plain quickcheckBoundaries_goes
end Go.Proofs.YtjfhcmkcmdnhoaaGreatDoor
