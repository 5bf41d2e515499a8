/- The examples of the chapter on normalization. No walk. law23.sample. law23.few. law23.alive returns true. -/
import Derived.Test.YtdogaaepiddnoaaGreatDoorKCmc
import Derived.Test.YtdogaaepiddnoaaGreatDoorKAlive21
import Derived.Test.YtdogaaepiddnoaaGreatDoorKNrm
import Derived.Test.YtdogaaepiddnoaaGreatDoorKFew
namespace Go.Proofs.YtdogaaepiddnoaaGreatDoor

def formM : List Mp := [⟨197, [65, 778], ⟨#[]⟩⟩, ⟨8491, [197], ⟨#[]⟩⟩]
def formN : Nrm := ⟨[⟨778, 778, 230⟩], formM, []⟩
theorem formN_check : decCheck formN = 0 := by decide +kernel
theorem formN_usable : usableN formN = formN := if_pos formN_check
theorem formN_full : FullEq formM false (fullOf (usableN formN).decomp false) := by
  have := usableN_full formN false
  rw [formN_usable] at this ⊢
  exact this
theorem formN_197 : fullOf (usableN formN).decomp false 197 = [65, 778] := by
  have h := formN_full
  rw [@full_to _ _ _ h 197 [65, 778] (by decide +kernel)]
  simp only [List.flatMap_cons, List.flatMap_nil]
  rw [full_alone h (c := 65) (by decide +kernel), full_alone h (c := 778) (by decide +kernel)]
  rfl
theorem formN_8491 : fullOf (usableN formN).decomp false 8491 = [65, 778] := by
  rw [@full_to _ _ _ formN_full 8491 [197] (by decide +kernel)]
  simp only [List.flatMap_cons, List.flatMap_nil]
  rw [formN_197]
  rfl
theorem formN_97 : fullOf (usableN formN).decomp false 97 = [97] := full_alone formN_full (by decide +kernel)
theorem sortT_one {cls : Int → Int} {c : Int} (h : cls c ≠ 0) : sortT cls [c] = [c] := by
  rw [sortT_all (by simpa using h)]
  exact (stab_eq (Srt.one c) (Keep.refl _)).symm
theorem formN_65 : classOf (usableN formN).classes 65 = 0 := by rw [formN_usable]; decide +kernel
theorem formN_c97 : classOf (usableN formN).classes 97 = 0 := by rw [formN_usable]; decide +kernel
theorem formN_778 : classOf (usableN formN).classes 778 ≠ 0 := by rw [formN_usable]; decide +kernel
theorem formN_d1 : textOf formN false [8491] = [65, 778] := by
  rw [textOf_eq, textE_eq]
  simp only [List.flatMap_cons, List.flatMap_nil, formN_8491, List.append_nil]
  rw [sortT_start formN_65, sortT_one formN_778]
theorem formN_d2 : textOf formN false [97, 8491] = [97, 65, 778] := by
  rw [textOf_eq, textE_eq]
  simp only [List.flatMap_cons, List.flatMap_nil, formN_8491, formN_97, List.append_nil, List.cons_append, List.nil_append]
  rw [sortT_start formN_c97, sortT_start formN_65, sortT_one formN_778]
theorem formN_d3 : textOf formN false [197] = [65, 778] := by
  rw [textOf_eq, textE_eq]
  simp only [List.flatMap_cons, List.flatMap_nil, formN_197, List.append_nil]
  rw [sortT_start formN_65, sortT_one formN_778]
theorem formN_c1 : formOf formN 1 [8491] = [197] := by
  rw [formOf_1, formN_d1]
  unfold compN
  rw [formN_usable]
  decide +kernel
theorem formN_c2 : formOf formN 1 [97, 8491] = [97, 197] := by
  rw [formOf_1, formN_d2]
  unfold compN
  rw [formN_usable]
  decide +kernel
theorem formN_f1 : formOf formN 2 [8491] = [65, 778] := by rw [formOf_2, formN_d1]
theorem formN_f2 : formOf formN 2 [197] = [65, 778] := by rw [formOf_2, formN_d3]
theorem emptyN_usable : usableN emptyN = emptyN := if_pos emptyN_check
theorem formE_d : textOf emptyN false [4352, 4449] = [4352, 4449] := by
  have h := usableN_full emptyN false
  rw [textOf_eq, textE_eq]
  have hd : (usableN emptyN).decomp = [] := by rw [emptyN_usable]; rfl
  have e1 : fullOf (usableN emptyN).decomp false 4352 = [4352] := full_alone h (by rw [hd]; decide +kernel)
  have e2 : fullOf (usableN emptyN).decomp false 4449 = [4449] := full_alone h (by rw [hd]; decide +kernel)
  simp only [List.flatMap_cons, List.flatMap_nil, e1, e2, List.append_nil, List.cons_append, List.nil_append]
  have c1 : ∀ c, classOf (usableN emptyN).classes c = 0 := fun c => by rw [emptyN_usable]; rfl
  rw [sortT_start (c1 _), sortT_start (c1 _), sortT_nil]
theorem formE_c : formOf emptyN 1 [4352, 4449] = [44032] := by
  rw [formOf_1, formE_d]
  unfold compN
  rw [emptyN_usable]
  decide +kernel
end Go.Proofs.YtdogaaepiddnoaaGreatDoor
namespace Go.Proofs.YtdogaaepiddnoaaGreatDoor
open Go Go.RowKit

theorem span_one {w : World} {b : Nat} {lo hi v : Int} (h : w.heap[b]? = some (.cells #[.int .i64 lo, .int .i64 hi, .int .i64 v] 51 (0, 0))) : Spans w (some ⟨b, 0, none⟩) 1 [⟨lo, hi, v⟩] := by
  refine ⟨rfl, fun _ => ⟨_, 0, rfl, fun i x hx j u hu => ?_⟩⟩
  have hi0 : i = 0 := by have := lt_of_getElem?_some hx; simpa using this
  subst hi0
  simp at hx
  subst hx
  match j, hu with
  | 0, hu => simp [encS] at hu; subst hu; exact cell_of_block (i := 0) h rfl
  | 1, hu => simp [encS] at hu; subst hu; exact cell_of_block (i := 1) h rfl
  | 2, hu => simp [encS] at hu; subst hu; exact cell_of_block (i := 2) h rfl
  | j + 3, hu => simp [encS] at hu
theorem mps_form {w : World} {b b0 b1 : Nat} (h : w.heap[b]? = some (.cells #[.int .i64 197, .slice (some ⟨b0, 0, none⟩) 2 2, .string ⟨#[]⟩, .int .i64 8491, .slice (some ⟨b1, 0, none⟩) 1 1, .string ⟨#[]⟩] 64 (0, 0)))
    (h0 : Ints w (some ⟨b0, 0, none⟩) 2 [65, 778]) (h1 : Ints w (some ⟨b1, 0, none⟩) 1 [197]) : Mps w (some ⟨b, 0, none⟩) 2 formM := by
  refine ⟨rfl, fun _ => ⟨b, 0, rfl, fun i m hm => ?_⟩⟩
  match i, hm with
  | 0, hm =>
    simp only [formM, List.getElem?_cons_zero, Option.some.injEq] at hm
    subst hm
    exact ⟨_, 2, 2, Nat.le_refl _, h0, cell_of_block h rfl, cell_of_block h rfl, cell_of_block h rfl⟩
  | 1, hm =>
    simp only [formM, List.getElem?_cons_succ, List.getElem?_cons_zero, Option.some.injEq] at hm
    subst hm
    exact ⟨_, 1, 1, Nat.le_refl _, h1, cell_of_block h rfl, cell_of_block h rfl, cell_of_block h rfl⟩
  | i + 2, hm => simp [formM] at hm

set_option maxRecDepth 100000 in
set_option maxHeartbeats 2000000 in
theorem sample23 (w : World) : Calls Tryz.prog 48 #[] w (RetNorm w formN) := by
  go_enter Tryz.func48, Tryz.ntmps48
  go_wp2_with fail
  obtain ⟨B, hB⟩ : ∃ B : Nat, B = w.heap.size := ⟨_, rfl⟩
  rw [← hB]
  have b0 : (((((w.alloc (Obj.cells #[Value.slice (some ⟨B + 1, 0, none⟩) 1 1, Value.slice (some ⟨B + 1 + 1 + 1 + 1, 0, none⟩) 2 2, Value.slice none 0 0] 28)).alloc (Obj.cells #[Value.int IntKind.i64 778, Value.int IntKind.i64 778, Value.int IntKind.i64 230] 51)).alloc (Obj.cells #[Value.int IntKind.i64 65, Value.int IntKind.i64 778] 3)).alloc (Obj.cells #[Value.int IntKind.i64 197] 3)).alloc (Obj.cells #[Value.int IntKind.i64 197, Value.slice (some ⟨B + 1 + 1, 0, none⟩) 2 2, Value.string ⟨#[]⟩, Value.int IntKind.i64 8491, Value.slice (some ⟨B + 1 + 1 + 1, 0, none⟩) 1 1, Value.string ⟨#[]⟩] 64)).heap[B]? = some (Obj.cells #[Value.slice (some ⟨B + 1, 0, none⟩) 1 1, Value.slice (some ⟨B + 1 + 1 + 1 + 1, 0, none⟩) 2 2, Value.slice none 0 0] 28 (0, 0)) := alloc_lift (alloc_lift (alloc_lift (alloc_lift (alloc_at hB))))
  have b1 : (((((w.alloc (Obj.cells #[Value.slice (some ⟨B + 1, 0, none⟩) 1 1, Value.slice (some ⟨B + 1 + 1 + 1 + 1, 0, none⟩) 2 2, Value.slice none 0 0] 28)).alloc (Obj.cells #[Value.int IntKind.i64 778, Value.int IntKind.i64 778, Value.int IntKind.i64 230] 51)).alloc (Obj.cells #[Value.int IntKind.i64 65, Value.int IntKind.i64 778] 3)).alloc (Obj.cells #[Value.int IntKind.i64 197] 3)).alloc (Obj.cells #[Value.int IntKind.i64 197, Value.slice (some ⟨B + 1 + 1, 0, none⟩) 2 2, Value.string ⟨#[]⟩, Value.int IntKind.i64 8491, Value.slice (some ⟨B + 1 + 1 + 1, 0, none⟩) 1 1, Value.string ⟨#[]⟩] 64)).heap[B + 1]? = some (Obj.cells #[Value.int IntKind.i64 778, Value.int IntKind.i64 778, Value.int IntKind.i64 230] 51 (0, 0)) := alloc_lift (alloc_lift (alloc_lift (alloc_at (by simp [hB]))))
  have b2 : (((((w.alloc (Obj.cells #[Value.slice (some ⟨B + 1, 0, none⟩) 1 1, Value.slice (some ⟨B + 1 + 1 + 1 + 1, 0, none⟩) 2 2, Value.slice none 0 0] 28)).alloc (Obj.cells #[Value.int IntKind.i64 778, Value.int IntKind.i64 778, Value.int IntKind.i64 230] 51)).alloc (Obj.cells #[Value.int IntKind.i64 65, Value.int IntKind.i64 778] 3)).alloc (Obj.cells #[Value.int IntKind.i64 197] 3)).alloc (Obj.cells #[Value.int IntKind.i64 197, Value.slice (some ⟨B + 1 + 1, 0, none⟩) 2 2, Value.string ⟨#[]⟩, Value.int IntKind.i64 8491, Value.slice (some ⟨B + 1 + 1 + 1, 0, none⟩) 1 1, Value.string ⟨#[]⟩] 64)).heap[B + 1 + 1]? = some (Obj.cells #[Value.int IntKind.i64 65, Value.int IntKind.i64 778] 3 (0, 0)) := alloc_lift (alloc_lift (alloc_at (by simp [hB])))
  have b3 : (((((w.alloc (Obj.cells #[Value.slice (some ⟨B + 1, 0, none⟩) 1 1, Value.slice (some ⟨B + 1 + 1 + 1 + 1, 0, none⟩) 2 2, Value.slice none 0 0] 28)).alloc (Obj.cells #[Value.int IntKind.i64 778, Value.int IntKind.i64 778, Value.int IntKind.i64 230] 51)).alloc (Obj.cells #[Value.int IntKind.i64 65, Value.int IntKind.i64 778] 3)).alloc (Obj.cells #[Value.int IntKind.i64 197] 3)).alloc (Obj.cells #[Value.int IntKind.i64 197, Value.slice (some ⟨B + 1 + 1, 0, none⟩) 2 2, Value.string ⟨#[]⟩, Value.int IntKind.i64 8491, Value.slice (some ⟨B + 1 + 1 + 1, 0, none⟩) 1 1, Value.string ⟨#[]⟩] 64)).heap[B + 1 + 1 + 1]? = some (Obj.cells #[Value.int IntKind.i64 197] 3 (0, 0)) := alloc_lift (alloc_at (by simp [hB]))
  have b4 : (((((w.alloc (Obj.cells #[Value.slice (some ⟨B + 1, 0, none⟩) 1 1, Value.slice (some ⟨B + 1 + 1 + 1 + 1, 0, none⟩) 2 2, Value.slice none 0 0] 28)).alloc (Obj.cells #[Value.int IntKind.i64 778, Value.int IntKind.i64 778, Value.int IntKind.i64 230] 51)).alloc (Obj.cells #[Value.int IntKind.i64 65, Value.int IntKind.i64 778] 3)).alloc (Obj.cells #[Value.int IntKind.i64 197] 3)).alloc (Obj.cells #[Value.int IntKind.i64 197, Value.slice (some ⟨B + 1 + 1, 0, none⟩) 2 2, Value.string ⟨#[]⟩, Value.int IntKind.i64 8491, Value.slice (some ⟨B + 1 + 1 + 1, 0, none⟩) 1 1, Value.string ⟨#[]⟩] 64)).heap[B + 1 + 1 + 1 + 1]? = some (Obj.cells #[Value.int IntKind.i64 197, Value.slice (some ⟨B + 1 + 1, 0, none⟩) 2 2, Value.string ⟨#[]⟩, Value.int IntKind.i64 8491, Value.slice (some ⟨B + 1 + 1 + 1, 0, none⟩) 1 1, Value.string ⟨#[]⟩] 64 (0, 0)) := alloc_at (by simp [hB])
  have hk : Kept w (((((w.alloc (Obj.cells #[Value.slice (some ⟨B + 1, 0, none⟩) 1 1, Value.slice (some ⟨B + 1 + 1 + 1 + 1, 0, none⟩) 2 2, Value.slice none 0 0] 28)).alloc (Obj.cells #[Value.int IntKind.i64 778, Value.int IntKind.i64 778, Value.int IntKind.i64 230] 51)).alloc (Obj.cells #[Value.int IntKind.i64 65, Value.int IntKind.i64 778] 3)).alloc (Obj.cells #[Value.int IntKind.i64 197] 3)).alloc (Obj.cells #[Value.int IntKind.i64 197, Value.slice (some ⟨B + 1 + 1, 0, none⟩) 2 2, Value.string ⟨#[]⟩, Value.int IntKind.i64 8491, Value.slice (some ⟨B + 1 + 1 + 1, 0, none⟩) 1 1, Value.string ⟨#[]⟩] 64)) := Kept.alloc (Kept.alloc (Kept.alloc (Kept.alloc (Kept.alloc (Kept.refl w) _) _) _) _) _
  generalize (((((w.alloc (Obj.cells #[Value.slice (some ⟨B + 1, 0, none⟩) 1 1, Value.slice (some ⟨B + 1 + 1 + 1 + 1, 0, none⟩) 2 2, Value.slice none 0 0] 28)).alloc (Obj.cells #[Value.int IntKind.i64 778, Value.int IntKind.i64 778, Value.int IntKind.i64 230] 51)).alloc (Obj.cells #[Value.int IntKind.i64 65, Value.int IntKind.i64 778] 3)).alloc (Obj.cells #[Value.int IntKind.i64 197] 3)).alloc (Obj.cells #[Value.int IntKind.i64 197, Value.slice (some ⟨B + 1 + 1, 0, none⟩) 2 2, Value.string ⟨#[]⟩, Value.int IntKind.i64 8491, Value.slice (some ⟨B + 1 + 1 + 1, 0, none⟩) 1 1, Value.string ⟨#[]⟩] 64)) = W0 at *
  have g0 := cell_of_block (i := 0) b0 rfl
  have g1 := cell_of_block (i := 1) b0 rfl
  have g2 := cell_of_block (i := 2) b0 rfl
  simp only [List.getElem_toArray, List.getElem_cons_zero, List.getElem_cons_succ] at g0 g1 g2
  have hN : NormAt W0 ⟨some ⟨B + 1, 0, none⟩, 1, 1, some ⟨B + 1 + 1 + 1 + 1, 0, none⟩, 2, 2, none, 0, 0⟩ formN :=
    ⟨Nat.le_refl _, Nat.le_refl _, Nat.le_refl _, show 1 ≤ 1000 by decide, show 2 ≤ 1000 by decide, Nat.zero_le _, span_one b1, mps_form b4 (Ints.new_ (xs := [65, 778]) b2 rfl) (Ints.new_ (xs := [197]) b3 rfl), Sl.nil, fun m hm => by
      simp only [formN, formM, List.mem_cons, List.not_mem_nil, or_false] at hm
      rcases hm with rfl | rfl <;> simp⟩
  exact bodyPost_ret (v := Sls.val ⟨some ⟨B + 1, 0, none⟩, 1, 1, some ⟨B + 1 + 1 + 1 + 1, 0, none⟩, 2, 2, none, 0, 0⟩) (by simp [results, Tryz.results48, go_sem, g0, g1, g2, Sls.val]) rfl ⟨_, rfl, hN, hk⟩
end Go.Proofs.YtdogaaepiddnoaaGreatDoor
namespace Go.Proofs.YtdogaaepiddnoaaGreatDoor
open Go Go.RowKit

set_option maxRecDepth 100000 in
set_option maxHeartbeats 1000000 in
theorem few23 (s : Sls) (n : Nrm) (A : Option Addr) (l c : Nat) (w : World) (hN : NormIn w s n) (hl : l ≤ c ∧ c ≤ 9223372036854775807) : Calls Tryz.prog 15 #[s.val, .slice A l c] w (RetB w (smallB n && decide (l ≤ 40))) := by
  have hk1 := Kept.alloc (Kept.refl w) (Obj.cells #[Value.slice s.Ac s.nc s.cc, Value.slice s.Am s.nm s.cm, Value.slice s.Ae s.ne s.ce] 28)
  have HK1 := Lib.hid hk1
  have HS := Lib.hid (r21small s n (w.alloc (Obj.cells #[Value.slice s.Ac s.nc s.cc, Value.slice s.Am s.nm s.cm, Value.slice s.Ae s.ne s.ce] 28)) (hN.kept hk1))
  clear hN hk1
  obtain ⟨hle, hc⟩ := hl
  cases hsm : smallB n
  · rw [hsm] at HS
    clear hsm
    unfold Sls.val at *
    go_enter Tryz.func15, Tryz.ntmps15
    go_wp2_with (go_at_call 8; refine HS.out.mono ?_; rintro e w1 ⟨rfl, k1⟩)
    go_ret
    exact ⟨rfl, Kept.trans HK1.out k1⟩
  · rw [hsm] at HS
    clear hsm
    unfold Sls.val at *
    go_enter Tryz.func15, Tryz.ntmps15
    go_wp2_with (go_at_call 8; refine HS.out.mono ?_; rintro e w1 ⟨rfl, k1⟩)
    go_ret
    refine ⟨ret_bool ?_, Kept.trans HK1.out k1⟩
    simp
    try omega
end Go.Proofs.YtdogaaepiddnoaaGreatDoor
namespace Go.Proofs.YtdogaaepiddnoaaGreatDoor
open Go Go.RowKit

theorem first_alive : firstI [97, 197] [97, 8491] = 1 := by decide +kernel
set_option maxRecDepth 100000 in
set_option maxHeartbeats 4000000 in
theorem alive23 (w : World) (hG : Glob w) : Calls Tryz.prog 19 #[] w (RetB w true) := by
  have HG := Lib.hid hG
  clear hG
  go_enter Tryz.func19, Tryz.ntmps19
  go_wp2_with fail
  refine (sample23 w).mono ?_
  rintro e v0 ⟨s1, rfl, hN, k0⟩
  have hka := Kept.alloc (Kept.refl v0) (Obj.cells #[Value.slice s1.Ac s1.nc s1.cc, Value.slice s1.Am s1.nm s1.cm, Value.slice s1.Ae s1.ne s1.ce] 28)
  have hbb : (v0.alloc (Obj.cells #[Value.slice s1.Ac s1.nc s1.cc, Value.slice s1.Am s1.nm s1.cm, Value.slice s1.Ae s1.ne s1.ce] 28)).heap[v0.heap.size]? = some (Obj.cells #[Value.slice s1.Ac s1.nc s1.cc, Value.slice s1.Am s1.nm s1.cm, Value.slice s1.Ae s1.ne s1.ce] 28 (0, 0)) := alloc_at rfl
  have HN := Lib.hid (hN.kept hka)
  have K := Lib.hid (Kept.trans k0 hka)
  have HB := Lib.hid hbb
  clear hN hka k0 hbb
  unfold Sls.val
  have hka := Kept.alloc (Kept.refl (v0.alloc (Obj.cells #[Value.slice s1.Ac s1.nc s1.cc, Value.slice s1.Am s1.nm s1.cm, Value.slice s1.Ae s1.ne s1.ce] 28))) (Obj.cells #[Value.int IntKind.i64 8491] 3)
  have HF := Lib.hid (form_any s1 formN 1 (some ⟨v0.heap.size + 1, 0, none⟩) 1 1 [8491] ((v0.alloc (Obj.cells #[Value.slice s1.Ac s1.nc s1.cc, Value.slice s1.Am s1.nm s1.cm, Value.slice s1.Ae s1.ne s1.ce] 28)).alloc (Obj.cells #[Value.int IntKind.i64 8491] 3)) (HN.out.kept hka) (HG.out.kept (Kept.trans K.out hka)) (by omega) (Ints.alloc_ (xs := [8491]) (by simp) rfl))
  rw [formN_c1] at HF
  unfold Sls.val at HF
  have HKA := Lib.hid hka
  clear hka
  go_wp2_with fail
  refine HF.out.mono ?_
  rintro e v2 ⟨A1, n_A1, c_A1, rfl, le_A1, i_A1, k_A1⟩
  have hn_A1 : n_A1 = 1 := i_A1.1
  subst hn_A1
  have I_A1 := Lib.hid i_A1
  clear i_A1
  have hkk := Kept.trans HKA.out k_A1
  have HB := Lib.hid ((hkk.block _ (block_lt HB.out)).trans HB.out)
  have HN := Lib.hid (HN.out.kept hkk)
  have K := Lib.hid (Kept.trans K.out hkk)
  clear hkk
  clear HF HKA k_A1
  obtain ⟨bx, hbx⟩ : ∃ bx : Nat, bx = v0.heap.size := ⟨_, rfl⟩
  rw [← hbx] at HB ⊢
  clear hbx
  have hka := Kept.alloc (Kept.refl v2) (Obj.cells #[Value.int IntKind.i64 197] 3)
  have HEQ := Lib.hid (r01_same [197] A1 (some ⟨v2.heap.size, 0, none⟩) 1 1 c_A1 1 (v2.alloc (Obj.cells #[Value.int IntKind.i64 197] 3)) (by decide) (I_A1.out.kept hka) (Ints.alloc_ (xs := [197]) rfl rfl))
  have HKA := Lib.hid hka
  clear hka
  go_wp2_with fail
  refine HEQ.out.mono ?_
  rintro e v3 ⟨rfl, k_v3⟩
  have hkk := Kept.trans HKA.out k_v3
  have HB := Lib.hid ((hkk.block _ (block_lt HB.out)).trans HB.out)
  have HN := Lib.hid (HN.out.kept hkk)
  have K := Lib.hid (Kept.trans K.out hkk)
  clear hkk
  have ex := HB.out
  have p0 := cell_of_block (i := 0) ex rfl
  have p1 := cell_of_block (i := 1) ex rfl
  have p2 := cell_of_block (i := 2) ex rfl
  simp only [List.getElem_toArray, List.getElem_cons_zero, List.getElem_cons_succ] at p0 p1 p2
  clear ex
  have hka := Kept.alloc (Kept.refl v3) (Obj.cells #[Value.int IntKind.i64 8491] 3)
  have HF := Lib.hid (form_any s1 formN 2 (some ⟨v3.heap.size, 0, none⟩) 1 1 [8491] (v3.alloc (Obj.cells #[Value.int IntKind.i64 8491] 3)) (HN.out.kept hka) (HG.out.kept (Kept.trans K.out hka)) (by omega) (Ints.alloc_ (xs := [8491]) rfl rfl))
  rw [formN_f1] at HF
  unfold Sls.val at HF
  have HKA := Lib.hid hka
  clear hka
  go_wp2_with fail
  refine HF.out.mono ?_
  rintro e v4 ⟨A2, n_A2, c_A2, rfl, le_A2, i_A2, k_A2⟩
  have hn_A2 : n_A2 = 2 := i_A2.1
  subst hn_A2
  have I_A2 := Lib.hid i_A2
  clear i_A2
  have hkk := Kept.trans HKA.out k_A2
  have HB := Lib.hid ((hkk.block _ (block_lt HB.out)).trans HB.out)
  have HN := Lib.hid (HN.out.kept hkk)
  have K := Lib.hid (Kept.trans K.out hkk)
  clear hkk
  clear p0 p1 p2
  have hka := Kept.alloc (Kept.refl v4) (Obj.cells #[Value.int IntKind.i64 65, Value.int IntKind.i64 778] 3)
  have HEQ := Lib.hid (r01_same [65, 778] A2 (some ⟨v4.heap.size, 0, none⟩) 2 2 c_A2 2 (v4.alloc (Obj.cells #[Value.int IntKind.i64 65, Value.int IntKind.i64 778] 3)) (by decide) (I_A2.out.kept hka) (Ints.alloc_ (xs := [65, 778]) rfl rfl))
  have HKA := Lib.hid hka
  clear hka
  go_wp2_with fail
  refine HEQ.out.mono ?_
  rintro e v5 ⟨rfl, k_v5⟩
  have hkk := Kept.trans HKA.out k_v5
  have HB := Lib.hid ((hkk.block _ (block_lt HB.out)).trans HB.out)
  have HN := Lib.hid (HN.out.kept hkk)
  have K := Lib.hid (Kept.trans K.out hkk)
  clear hkk
  have ex := HB.out
  have p0 := cell_of_block (i := 0) ex rfl
  have p1 := cell_of_block (i := 1) ex rfl
  have p2 := cell_of_block (i := 2) ex rfl
  simp only [List.getElem_toArray, List.getElem_cons_zero, List.getElem_cons_succ] at p0 p1 p2
  clear ex
  have hka := Kept.alloc (Kept.refl v5) (Obj.cells #[Value.int IntKind.i64 97, Value.int IntKind.i64 8491] 3)
  have HF := Lib.hid (nfirst_any s1 formN 1 (some ⟨v5.heap.size, 0, none⟩) 2 2 [97, 8491] (v5.alloc (Obj.cells #[Value.int IntKind.i64 97, Value.int IntKind.i64 8491] 3)) (HN.out.kept hka) (HG.out.kept (Kept.trans K.out hka)) (by omega) (Ints.alloc_ (xs := [97, 8491]) rfl rfl))
  rw [formN_c2, first_alive] at HF
  unfold Sls.val at HF
  have HKA := Lib.hid hka
  clear hka
  go_wp2_with fail
  refine HF.out.mono ?_
  rintro e v6 ⟨rfl, k_A3⟩
  have hkk := Kept.trans HKA.out k_A3
  have HB := Lib.hid ((hkk.block _ (block_lt HB.out)).trans HB.out)
  have HN := Lib.hid (HN.out.kept hkk)
  have K := Lib.hid (Kept.trans K.out hkk)
  clear hkk
  clear p0 p1 p2
  have hka := Kept.alloc (Kept.refl v6) (Obj.cells #[Value.int IntKind.i64 4352, Value.int IntKind.i64 4449] 3)
  have HF := Lib.hid (form_any emptyS emptyN 1 (some ⟨v6.heap.size, 0, none⟩) 2 2 [4352, 4449] (v6.alloc (Obj.cells #[Value.int IntKind.i64 4352, Value.int IntKind.i64 4449] 3)) (emptyS_at _) (HG.out.kept (Kept.trans K.out hka)) (by omega) (Ints.alloc_ (xs := [4352, 4449]) rfl rfl))
  rw [formE_c] at HF
  unfold Sls.val emptyS at HF
  have HKA := Lib.hid hka
  clear hka
  go_wp2_with fail
  refine HF.out.mono ?_
  rintro e v7 ⟨A4, n_A4, c_A4, rfl, le_A4, i_A4, k_A4⟩
  have hn_A4 : n_A4 = 1 := i_A4.1
  subst hn_A4
  have I_A4 := Lib.hid i_A4
  clear i_A4
  have hkk := Kept.trans HKA.out k_A4
  have HB := Lib.hid ((hkk.block _ (block_lt HB.out)).trans HB.out)
  have HN := Lib.hid (HN.out.kept hkk)
  have K := Lib.hid (Kept.trans K.out hkk)
  clear hkk
  have hka := Kept.alloc (Kept.refl v7) (Obj.cells #[Value.int IntKind.i64 44032] 3)
  have HEQ := Lib.hid (r01_same [44032] A4 (some ⟨v7.heap.size, 0, none⟩) 1 1 c_A4 1 (v7.alloc (Obj.cells #[Value.int IntKind.i64 44032] 3)) (by decide) (I_A4.out.kept hka) (Ints.alloc_ (xs := [44032]) rfl rfl))
  have HKA := Lib.hid hka
  clear hka
  go_wp2_with fail
  refine HEQ.out.mono ?_
  rintro e v8 ⟨rfl, k_v8⟩
  have hkk := Kept.trans HKA.out k_v8
  have HB := Lib.hid ((hkk.block _ (block_lt HB.out)).trans HB.out)
  have HN := Lib.hid (HN.out.kept hkk)
  have K := Lib.hid (Kept.trans K.out hkk)
  clear hkk
  have ex := HB.out
  have p0 := cell_of_block (i := 0) ex rfl
  have p1 := cell_of_block (i := 1) ex rfl
  have p2 := cell_of_block (i := 2) ex rfl
  simp only [List.getElem_toArray, List.getElem_cons_zero, List.getElem_cons_succ] at p0 p1 p2
  clear ex
  have hka := Kept.alloc (Kept.refl v8) (Obj.cells #[Value.int IntKind.i64 197] 3)
  have HF := Lib.hid (nis_any s1 formN 2 (some ⟨v8.heap.size, 0, none⟩) 1 1 [197] (v8.alloc (Obj.cells #[Value.int IntKind.i64 197] 3)) (HN.out.kept hka) (HG.out.kept (Kept.trans K.out hka)) (by omega) (Ints.alloc_ (xs := [197]) rfl rfl))
  rw [formN_f2, show decide (([65, 778] : List Int) = [197]) = false by decide] at HF
  unfold Sls.val at HF
  have HKA := Lib.hid hka
  clear hka
  go_wp2_with fail
  refine HF.out.mono ?_
  rintro e v9 ⟨rfl, k_A5⟩
  have hkk := Kept.trans HKA.out k_A5
  have HB := Lib.hid ((hkk.block _ (block_lt HB.out)).trans HB.out)
  have HN := Lib.hid (HN.out.kept hkk)
  have K := Lib.hid (Kept.trans K.out hkk)
  clear hkk
  clear p0 p1 p2
  go_wp2_with fail
  go_ret
  exact ⟨rfl, K.out⟩

end Go.Proofs.YtdogaaepiddnoaaGreatDoor
