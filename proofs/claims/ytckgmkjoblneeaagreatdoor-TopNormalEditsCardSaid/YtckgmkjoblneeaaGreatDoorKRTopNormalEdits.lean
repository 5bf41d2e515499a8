/- top.TopNormalEdits returns true for every input, and leaves the input as it was: the row, and its card tied to the program's text. Condition: the package variable hangulRanges holds what its initialiser lays (the card ties it). -/
import Derived.Test.YtckgmkjoblneeaaGreatDoorKEdS
import Derived.Test.YtckgmkjoblneeaaGreatDoorKFcTopNormalEdits
import Derived.Test.YtckgmkjoblneeaaGreatDoorKRowN
import Derived.Test.YtckgmkjoblneeaaGreatDoorKLawEdits8
namespace Go.Proofs.YtckgmkjoblneeaaGreatDoor
open Go Go.RowKit Go.ChangeShapes Go.WideShapes Go.ChangeAt
set_option maxRecDepth 100000 in
theorem topNormalEdits_contract (H : Type) (enc : TypeId × Value → H) (W : World) (base : Nat) (args : Array Value) (ds gs : List (DataW H)) (before : List MemPlace)
    (hval : ∀ (j : Nat) t v, Tryz.f4.params[j]? = some t → args[j]? = some v → Value.okWide Tryz.prog W .any base t v)
    (hW : DataW.Whole enc Tryz.prog Tryz.f4.params.toList Rows.topNormalEditsSpec.vars false W args.toList ds gs before) (hL : laidMetH Tryz.prog Rows.topNormalEditsRow.laid W) :
    Calls Tryz.prog 4 args W fun e W' => ∃ v, e = .returned v ∧ Rows.topNormalEditsSpec.post enc Tryz.prog Tryz.f4 false true false false W args v W' := by
  have hW' := hW
  obtain ⟨p, q, hA0, hV, _, _, _⟩ := hW
  have hA : DataW.TrodAll enc Tryz.prog W 0 (fun _ => true) true Tryz.f4.params.toList args.toList ds p := hA0
  rw [Tryz.params4] at hA hval
  obtain ⟨v0, vs0, d0, ds0, p0, q0, hargs, rfl, rfl, h0, r0⟩ := trodAll_cons hA
  obtain ⟨v1, vs1, d1, ds1, p1, q1, rfl, rfl, rfl, h1, r1⟩ := trodAll_cons r0
  obtain ⟨v2, vs2, d2, ds2, p2, q2, rfl, rfl, rfl, h2, r2⟩ := trodAll_cons r1
  obtain ⟨rfl, rfl, rfl⟩ := trodAll_nil r2
  obtain rfl : args = #[v0, v1, v2] := by cases args; simp_all
  obtain ⟨rfl, rfl⟩ := trodVars_none hV
  obtain ⟨s0, n0, rfl, hN0⟩ := open_norm (hval 0 28 v0 rfl rfl) h0
  obtain ⟨x1, rfl, _, _, hw1⟩ := open_int Tryz.underlying3 (hval 1 3 v1 rfl rfl) h1
  obtain ⟨A2, l2, c2, xs2, B2, m2, e2, L2, rfl, hI2, hE2⟩ := open_work (hval 2 40 v2 rfl rfl) h2
  refine (law_edits8 s0 n0 x1 A2 l2 c2 xs2 B2 m2 e2 L2 W hN0 (wf_i64 hw1) hI2 hE2 (glob_ofH hL)).mono fun e W' ⟨he, hk⟩ => ?_
  subst he
  exact ⟨_, rfl, post_true rfl (by kernel_rfl) (fun t ht => by rw [Tryz.params4] at ht; simp at ht; rcases ht with rfl | rfl | rfl <;> exact of_decide_eq_true (by kernel_rfl)) hW' rfl hk⟩
noncomputable def topNormalEdits_world (os : Os) : World :=
  { World.holding Tryz.prog os ⟨#[], #[], []⟩ with heap := (World.holding Tryz.prog os ⟨#[], #[], []⟩).heap.modify 0 fun
      | .cells _ t frozen => .cells #[.int .i64 4352, .int .i64 4370, .int .i64 4449, .int .i64 4469, .int .i64 4520, .int .i64 4546, .int .i64 44032, .int .i64 55203] t frozen
      | o => o }
theorem topNormalEdits_met (os : Os) : laidMet Tryz.prog Rows.topNormalEditsRow.laid ((topNormalEdits_world os).forCall (fun _ _ => 0) ⟨#[], #[.agg #[.slice none 0 0, .slice none 0 0, .slice none 0 0], .int .i64 0, .agg #[.slice none 0 0, .slice none 0 0]], []⟩).memory :=
  laidMet_of_run' 8 (by kernel_rfl) (by kernel_rfl)
theorem topNormalEdits_reads (os : Os) {H : Type} (enc : TypeId × Value → H) : ∃ places, DataW.whole enc Tryz.prog ((topNormalEdits_world os).forCall (fun _ _ => 0) ⟨#[], #[.agg #[.slice none 0 0, .slice none 0 0, .slice none 0 0], .int .i64 0, .agg #[.slice none 0 0, .slice none 0 0]], []⟩).memory Tryz.f4.params.toList Rows.topNormalEditsSpec.vars false #[(.agg #[.slice none 0 0, .slice none 0 0, .slice none 0 0] : Value), (.int .i64 0 : Value), (.agg #[.slice none 0 0, .slice none 0 0] : Value)].toList 8 = some ([.agg [.nil, .nil, .agg [.nil]], .lit (.int .i64 0), .agg [.nil, .nil]], [], places) :=
  ⟨[], by kernel_rfl⟩
set_option maxRecDepth 100000 in
theorem topNormalEdits_lifted (os : Os) (started : os.Started) (H : Type) (enc : TypeId × Value → H) (F : Stop.Interp) :
    ReturnsInHanded {} Tryz.checked os 4 .any ((OpenSpec.ofChange Rows.topNormalEditsSpec).preRow enc Tryz.prog Tryz.f4 Rows.topNormalEditsRow.domain false Rows.topNormalEditsRow.laid) (((OpenSpec.ofChange Rows.topNormalEditsSpec).at F).post enc Tryz.prog Tryz.f4 false true false false) := by
  obtain ⟨places, hx⟩ := topNormalEdits_reads os enc
  refine returnsInHanded_of_row (C := Tryz.checked) (s := OpenSpec.ofChange Rows.topNormalEditsSpec) row_own started (by kernel_rfl) Tryz.func4
    (witness_row_at (enc := enc) (C := Tryz.checked) false (topNormalEdits_world os) #[.agg #[.slice none 0 0, .slice none 0 0, .slice none 0 0], .int .i64 0, .agg #[.slice none 0 0, .slice none 0 0]] rfl (by kernel_rfl) (by kernel_rfl) (by kernel_rfl)
      (OpenSpec.preRow_of_cond 8 hx (by kernel_rfl) (fun k hk => by cases hk) (by kernel_rfl) (topNormalEdits_met os))) ?_
  intro W base args ds gs before hval hW _ _ _ hL _ _
  exact topNormalEdits_contract H enc W base args ds gs before hval hW hL
theorem topNormalEdits_said : Rows.TopNormalEditsSaid :=
  OpenClaim.holds_of_cond 4 Tryz.f4 rfl rfl rfl rfl rfl rfl rfl ⟨rfl, rfl, rfl, rfl, rfl⟩ rfl rfl rfl rfl rfl (by kernel_rfl) Tryz.func4 topNormalEdits_facts
    (of_decide_eq_true (by kernel_rfl)) (by unfold Func.isWrapper; first | (rw [if_pos (by decide +kernel)]; kernel_rfl) | (rw [if_neg (by decide +kernel)]; exact ⟨rfl, rfl⟩))
    (fun os started H enc _ F => by rw [OpenClaim.pre_eq_preRow]; exact topNormalEdits_lifted os started H enc F)
theorem topNormalEdits_plain (f : FuncId) (fn : Func) (hf : Tryz.pinned.checked.prog.funcNamed "unicodetext/unicodetexttop.TopNormalEdits" = some f) (hfn : Tryz.pinned.checked.prog.funcs[f]? = some fn) :
    false = Tryz.pinned.checked.prog.looks [] ∧ ∀ (j : Nat) t, fn.params[j]? = some t → Tryz.pinned.checked.prog.wantsStandIn t = false := by
  obtain rfl : f = 4 := Option.some.inj ((show Tryz.prog.funcNamed "unicodetext/unicodetexttop.TopNormalEdits" = some 4 by kernel_rfl).symm.trans hf) |>.symm
  obtain rfl : fn = Tryz.f4 := (Option.some.inj (Tryz.func4.symm.trans hfn)).symm
  refine ⟨by kernel_rfl, fun j t ht => ?_⟩
  rw [Tryz.params4] at ht
  have hm := Array.mem_of_getElem? ht
  simp only [List.mem_toArray, List.mem_cons, List.not_mem_nil, or_false] at hm
  rcases hm with rfl | rfl | rfl
  · exact (show Tryz.prog.wantsStandIn 28 = false by kernel_rfl)
  · exact (show Tryz.prog.wantsStandIn 3 = false by kernel_rfl)
  · exact (show Tryz.prog.wantsStandIn 40 = false by kernel_rfl)
theorem topNormalEdits_card : Rows.TopNormalEditsCardSaid :=
  Claim7.holds_tied_plain_at .later [] _ _ _ _ topNormalEdits_said (fun _ h => by cases h) (by kernel_rfl) (fun _ h => by cases h) topNormalEdits_row_tie rfl ⟨rfl, rfl⟩ prog_main rfl topNormalEdits_plain topNormalEdits_goes
end Go.Proofs.YtckgmkjoblneeaaGreatDoor
