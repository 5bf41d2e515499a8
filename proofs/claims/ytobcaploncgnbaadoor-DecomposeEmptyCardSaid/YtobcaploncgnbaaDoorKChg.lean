/- decompose.Changed. The reference's Changed of layer 21. -/
import Derived.Deep.AppendLies
import Derived.Test.YtobcaploncgnbaaDoorKFew
import Derived.Test.YtobcaploncgnbaaDoorKSetC
import Derived.Test.YtobcaploncgnbaaDoorKPq
import Derived.Test.YtobcaploncgnbaaDoorKRefM
import Derived.Test.YtobcaploncgnbaaDoorKRefH
namespace Go.Proofs.YtobcaploncgnbaaDoor
open Go Go.RowKit

/-- The set of the code points that have a mapping. -/
def changedR (n : Nrm) (cp : Bool) : List Rng := makeR (chgL (usableN n).decomp cp)
theorem field_maps (A : Option Addr) (n c : Nat) (u v : Value) (w : World) : Sem.run Tryd.prog (Instr.field 28 (.agg #[u, .slice A n c, v]) 1) w = .ok (.slice A n c) w := by kernel_rfl

set_option maxRecDepth 100000 in
set_option maxHeartbeats 2000000 in
theorem changed_any (s : Sls) (n : Nrm) (cp : Bool) (w : World) (hN : NormAt w s n) (hG : Glob w) : Calls Tryd.prog 16 #[s.val, .bool cp] w (RetSet w (changedR n cp)) := by
  have HN := Lib.hid hN
  have HG := Lib.hid hG
  have HU := Lib.hid (fun w' (hk : Kept w w') => usable_val s n w' (hN.kept hk) (hG.kept hk))
  have HNU := Lib.hid (usableS_at hN)
  clear hN hG
  unfold changedR
  generalize usableN n = n1 at *
  generalize usableS s n = s1 at *
  unfold Sls.val at *
  go_enter Tryd.func16, Tryd.ntmps16
  go_wp2_with fail
  obtain ⟨B, hB⟩ : ∃ B : Nat, B = w.heap.size := ⟨_, rfl⟩
  rw [← hB]
  have b1 : (((w.alloc (Obj.cells #[Value.slice s.Ac s.nc s.cc, Value.slice s.Am s.nm s.cm, Value.slice s.Ae s.ne s.ce] 28)).alloc (Obj.cells #[Value.slice none 0 0] 26)).alloc (Obj.cells #[Value.int IntKind.i64 44032, Value.int IntKind.i64 55203] 50)).heap[B + 1]? = some (Obj.cells #[Value.slice none 0 0] 26) := alloc_lift (alloc_at (by simp [hB]))
  have b2 : (((w.alloc (Obj.cells #[Value.slice s.Ac s.nc s.cc, Value.slice s.Am s.nm s.cm, Value.slice s.Ae s.ne s.ce] 28)).alloc (Obj.cells #[Value.slice none 0 0] 26)).alloc (Obj.cells #[Value.int IntKind.i64 44032, Value.int IntKind.i64 55203] 50)).heap[B + 1 + 1]? = some (Obj.cells #[Value.int IntKind.i64 44032, Value.int IntKind.i64 55203] 50) := alloc_at (by simp [hB])
  have hk0 : Kept w (((w.alloc (Obj.cells #[Value.slice s.Ac s.nc s.cc, Value.slice s.Am s.nm s.cm, Value.slice s.Ae s.ne s.ce] 28)).alloc (Obj.cells #[Value.slice none 0 0] 26)).alloc (Obj.cells #[Value.int IntKind.i64 44032, Value.int IntKind.i64 55203] 50)) := Kept.alloc (Kept.alloc (Kept.alloc (Kept.refl w) _) _) _
  generalize (((w.alloc (Obj.cells #[Value.slice s.Ac s.nc s.cc, Value.slice s.Am s.nm s.cm, Value.slice s.Ae s.ne s.ce] 28)).alloc (Obj.cells #[Value.slice none 0 0] 26)).alloc (Obj.cells #[Value.int IntKind.i64 44032, Value.int IntKind.i64 55203] 50)) = W0 at *
  have HB := Lib.hid hB
  have HB1 := Lib.hid b1
  have HB2 := Lib.hid b2
  have HK0 := Lib.hid hk0
  clear hB b1 b2 hk0
  refine (HU.out _ HK0.out).mono ?_
  rintro e w1 ⟨rfl, k1⟩
  have hfd := fun w' => field_maps s1.Am s1.nm s1.cm (.slice s1.Ac s1.nc s1.cc) (.slice s1.Ae s1.ne s1.ce) w'
  have HK1 := Lib.hid k1
  have hbm := HNU.out.bm
  obtain ⟨i0, hi, hz0, hz1, hz2⟩ := info_parts info_rng
  have HI0 := Lib.hid hi
  have HZ0 := Lib.hid hz0
  have HZ1 := Lib.hid hz1
  have HZ2 := Lib.hid hz2
  clear hi hz0 hz1 hz2
  have hb2 : w1.heap[B + 1 + 1]? = some (.cells #[.int .i64 44032, .int .i64 55203] 50 (0, 0)) := (k1.block _ (block_lt HB2.out)).trans HB2.out
  have hown0 : OwnR w1 (B + 1 + 1) (.slice (some ⟨B + 1 + 1, 0, none⟩) 1 1) (chgL (n1.decomp.take 0) cp) :=
    ⟨by simp [chgL, chgT, encR], .inr ⟨B + 1 + 1, 1, _, by simp [chgL, chgT], Nat.le_refl _, hb2, by simp [chgL, chgT], by unfold maxLen; omega, rfl, by simp [chgL, chgT, encR]⟩⟩
  have HO0 := Lib.hid hown0
  clear hb2 hown0 k1
  go_wp2_with fail
  clear hfd
  go_loopw [5, 14] (fun p i wr => ∃ k : Nat, k ≤ s1.nm ∧ i = .int .i64 k ∧ OwnR wr (B + 1 + 1) p (chgL (n1.decomp.take k) cp) ∧ Below (B + 1 + 1) w1 wr) (fun _ i _ => s1.nm - (intOf i).toNat)
  case atStart => exact ⟨0, Nat.zero_le _, rfl, HO0.out, Below.refl _ _⟩
  case round =>
    obtain ⟨k, hk, rfl, hown, hBl⟩ := hrel
    have HO := Lib.hid hown
    have HBL := Lib.hid hBl
    have hB2w : B + 1 + 1 < W0.heap.size := block_lt HB2.out
    have hs1 := HK1.out.size
    have hsr := hBl.size
    have KW : Hid (Kept w wr) := Lib.hid (Below.trans (Kept.trans HK0.out HK1.out) (hBl.mono (by have := HB.out; omega)))
    clear hown hBl
    by_cases hlt : k < s1.nm
    · obtain ⟨b, off, m, A', n', c', hA, hm, hle, hI, c0, c1, c2⟩ := mp_at (i := k) (HNU.out.kept KW.out).dec hlt
      have HMM := Lib.hid (chgL_snoc hm cp)
      have hl := chgL_length (n1.decomp.take k) cp
      have hl2 : (n1.decomp.take k).length ≤ k := List.length_take_le _ _
      rw [hA]
      clear hm hI
      cases ht : m.tag.toList.isEmpty
      · have hte : ¬ m.tag.toList = [] := by simpa using ht
        have HT := Lib.hid ht
        cases cp
        · go_wp2_with fail
          go_roundw
          case rel => exact ⟨k + 1, by omega, by go_num, by rw [HMM.out, if_neg (by simp [plainTag, HT.out]), List.append_nil]; exact World.ownsRow.alloc HO.out _, HBL.out.alloc (by omega) _⟩
          case measure => simp [intOf]; omega
        · go_wp2_with (at_builtin; refine wpList_append_own _ rfl _ _ 24 rfl (B + 1 + 1) 50 i0 (.agg #[.int .i64 0, .int .i64 0]) 2 16 Tryd.underlying24 HI0.out HZ0.out HZ1.out HZ2.out rfl (by decide) _ _ _ rfl (by exact (HO.out.alloc _).alloc _) ⟨wr.heap.size + 1, 0, none⟩ 1 1 [.int .i64 m.src, .int .i64 m.src] rfl rfl (by exact cell_two_new (w := wr.alloc _) (by simp)) (by simp [Value.oneCell']) (by unfold maxLen; omega) (by omega) (by simp; omega) ?_; intro v' w2 hown' hgrow _)
          have hB4 : Below (B + 1 + 1) w1 w2 := ((HBL.out.alloc (by omega) (Obj.cells #[Value.int IntKind.i64 m.src, Value.slice A' n' c', Value.string m.tag] 57)).alloc (by simp; omega) (Obj.cells #[Value.int IntKind.i64 m.src, Value.int IntKind.i64 m.src] 50)).grown hgrow (by simp; omega) (fun q e => (World.ownsRow.lt HO.out q e).1)
          have HB4 := Lib.hid hB4
          go_roundw
          case rel => exact ⟨k + 1, by omega, by go_num, by rw [HMM.out, if_pos (by simp [plainTag, HT.out])]; simpa [OwnR, encR] using hown', HB4.out⟩
          case measure => simp [intOf]; omega
      · have hte : m.tag.toList = [] := by simpa using ht
        have HT := Lib.hid ht
        go_wp2_with (at_builtin; refine wpList_append_own _ rfl _ _ 24 rfl (B + 1 + 1) 50 i0 (.agg #[.int .i64 0, .int .i64 0]) 2 16 Tryd.underlying24 HI0.out HZ0.out HZ1.out HZ2.out rfl (by decide) _ _ _ rfl (by exact (HO.out.alloc _).alloc _) ⟨wr.heap.size + 1, 0, none⟩ 1 1 [.int .i64 m.src, .int .i64 m.src] rfl rfl (by exact cell_two_new (w := wr.alloc _) (by simp)) (by simp [Value.oneCell']) (by unfold maxLen; omega) (by omega) (by simp; omega) ?_; intro v' w2 hown' hgrow _)
        have hB4 : Below (B + 1 + 1) w1 w2 := ((HBL.out.alloc (by omega) (Obj.cells #[Value.int IntKind.i64 m.src, Value.slice A' n' c', Value.string m.tag] 57)).alloc (by simp; omega) (Obj.cells #[Value.int IntKind.i64 m.src, Value.int IntKind.i64 m.src] 50)).grown hgrow (by simp; omega) (fun q e => (World.ownsRow.lt HO.out q e).1)
        have HB4 := Lib.hid hB4
        go_roundw
        case rel => exact ⟨k + 1, by omega, by go_num, by rw [HMM.out, if_pos (by simp [plainTag, HT.out])]; simpa [OwnR, encR] using hown', HB4.out⟩
        case measure => simp [intOf]; omega
    · have hfull : n1.decomp.take k = n1.decomp := List.take_of_length_le (by have := HNU.out.dec.1; omega)
      have hown := HO.out
      rw [hfull] at hown
      have hl := chgL_length n1.decomp cp
      have hdl := HNU.out.dec.1
      generalize chgL n1.decomp cp = L at *
      obtain ⟨A4, c4, hu, hle4, hS4⟩ := Sl.of_own (k := 2) (enc := encR) (fun _ => rfl) hown
      obtain ⟨nl, hnl⟩ : ∃ nl : Nat, nl = L.length := ⟨_, rfl⟩
      rw [← hnl] at hu hle4 hS4
      have HM := Lib.hid (make_any A4 nl c4 L wr (by omega) hS4)
      have hb1 : B + 1 < W0.heap.size := block_lt HB1.out
      have HE1 := Lib.hid (((HBL.out.block (B + 1) (by omega)).trans (HK1.out.block (B + 1) hb1)).trans HB1.out)
      clear hown hfull hl hdl hnl hS4
      subst hu
      go_wp2_with fail
      refine HM.out.mono ?_
      rintro e w5 ⟨A5, n5, c5, rfl, hle5, hR5, k5⟩
      have e1 : w5.heap[B + 1]? = some (.cells #[.slice none 0 0] 26 (0, 0)) := (k5.block (B + 1) (by omega)).trans HE1.out
      have e2 := cell_of_block (i := 0) e1 rfl
      have e3 := frozen_of_block (i := 0) e1
      simp only [List.getElem_toArray, List.getElem_cons_zero] at e2
      have HE5 := Lib.hid e1
      have HR5 := Lib.hid hR5
      clear e1 hR5
      go_wp2_with fail
      have e4 : (w5.setCell ⟨B + 1, 0, none⟩ (.slice A5 n5 c5)).cell? ⟨B + 1, 0, none⟩ = some (.slice A5 n5 c5) := cell_of_block (i := 0) (heap_setCell_one HE5.out) rfl
      clear e2 e3
      refine bodyPost_ret (v := .agg #[.slice A5 n5 c5]) (by simp [results, Tryd.results16, go_sem, e4]) rfl ⟨A5, _, c5, rfl, hle5, ?_, ?_⟩
      · refine ⟨HR5.out.1, fun hpos => ?_⟩
        obtain ⟨b, off, e, hcs⟩ := HR5.out.2 hpos
        refine ⟨b, off, e, fun i x hx j u hu => ?_⟩
        have h1 := hcs i x hx j u hu
        refine (World.cell?_setCell_other _ _ _ _ (fun ea => ?_)).trans h1
        have eb : b = B + 1 := by injection ea with e5; exact e5.symm
        subst eb
        unfold World.cell? at h1
        simp only [HE5.out] at h1
        have : (#[Value.slice none 0 0] : Array Value)[off + i * 2 + j]? = some u := by simpa using h1
        have hlt0 := (Array.getElem?_eq_some_iff.1 this).1
        have h0 : off + i * 2 + j = 0 := by simpa using hlt0
        rw [h0] at this
        have hu2 : u = .slice none 0 0 := by simpa using this.symm
        rw [hu2] at hu
        have := List.mem_of_getElem? hu
        simp [encR] at this
      · exact Below.setCell (Kept.trans KW.out k5) (p := ⟨B + 1, 0, none⟩) (by rw [HB.out]; exact Nat.le_succ _) _
end Go.Proofs.YtobcaploncgnbaaDoor
namespace Go.Proofs.YtobcaploncgnbaaDoor
open Go Go.RowKit

set_option maxRecDepth 100000 in
set_option maxHeartbeats 2000000 in
theorem r21changed (s : Sls) (n : Nrm) (cp : Bool) (w : World) (hN : NormAt w s n) (htag : ∀ m ∈ n.decomp, m.tag.size ≤ 1000) : Calls Tryd.prog 19 #[s.val, .bool cp] w (RetSet w (changedR n cp)) := by
  have HD := Lib.hid (fun w' (hk : Kept w w') => r21data s n w' (hN.kept hk) htag)
  have HNU := Lib.hid (usableS_at hN)
  clear hN htag
  unfold changedR
  rw [← refMake_eq]
  generalize usableN n = n1 at *
  generalize usableS s n = s1 at *
  unfold Sls.val at *
  go_enter Tryd.func19, Tryd.ntmps19
  go_wp2_with fail
  obtain ⟨B, hB⟩ : ∃ B : Nat, B = w.heap.size := ⟨_, rfl⟩
  rw [← hB]
  have b1 : ((w.alloc (Obj.cells #[Value.slice s.Ac s.nc s.cc, Value.slice s.Am s.nm s.cm, Value.slice s.Ae s.ne s.ce] 28)).alloc (Obj.cells #[Value.slice none 0 0] 26)).heap[B + 1]? = some (Obj.cells #[Value.slice none 0 0] 26) := alloc_at (by simp [hB])
  have hk0 : Kept w ((w.alloc (Obj.cells #[Value.slice s.Ac s.nc s.cc, Value.slice s.Am s.nm s.cm, Value.slice s.Ae s.ne s.ce] 28)).alloc (Obj.cells #[Value.slice none 0 0] 26)) := Kept.alloc (Kept.alloc (Kept.refl w) _) _
  generalize ((w.alloc (Obj.cells #[Value.slice s.Ac s.nc s.cc, Value.slice s.Am s.nm s.cm, Value.slice s.Ae s.ne s.ce] 28)).alloc (Obj.cells #[Value.slice none 0 0] 26)) = W0 at *
  have HB := Lib.hid hB
  have HB1 := Lib.hid b1
  have HK0 := Lib.hid hk0
  clear hB b1 hk0
  refine (HD.out _ HK0.out).mono ?_
  rintro e w1 ⟨rfl, k1⟩
  have HK1 := Lib.hid k1
  have hbm := HNU.out.bm
  obtain ⟨i0, hi, hz0, hz1, hz2⟩ := info_parts info_rng
  have HI0 := Lib.hid hi
  have HZ0 := Lib.hid hz0
  have HZ1 := Lib.hid hz1
  have HZ2 := Lib.hid hz2
  clear hi hz0 hz1 hz2 k1
  go_wp2_with fail
  obtain ⟨bd, hbd⟩ : ∃ bd : Nat, bd = w1.heap.size := ⟨_, rfl⟩
  have d1 : ((w1.alloc (Obj.cells #[Value.slice s1.Ac s1.nc s1.cc, Value.slice s1.Am s1.nm s1.cm, Value.slice s1.Ae s1.ne s1.ce] 28)).alloc (Obj.cells #[Value.int IntKind.i64 44032, Value.int IntKind.i64 55203] 50)).heap[bd]? = some (Obj.cells #[Value.slice s1.Ac s1.nc s1.cc, Value.slice s1.Am s1.nm s1.cm, Value.slice s1.Ae s1.ne s1.ce] 28) := alloc_lift (alloc_at (by simp [hbd]))
  have d2 : ((w1.alloc (Obj.cells #[Value.slice s1.Ac s1.nc s1.cc, Value.slice s1.Am s1.nm s1.cm, Value.slice s1.Ae s1.ne s1.ce] 28)).alloc (Obj.cells #[Value.int IntKind.i64 44032, Value.int IntKind.i64 55203] 50)).heap[bd + 1]? = some (Obj.cells #[Value.int IntKind.i64 44032, Value.int IntKind.i64 55203] 50) := alloc_at (by simp [hbd])
  have hk2 : Kept w1 ((w1.alloc (Obj.cells #[Value.slice s1.Ac s1.nc s1.cc, Value.slice s1.Am s1.nm s1.cm, Value.slice s1.Ae s1.ne s1.ce] 28)).alloc (Obj.cells #[Value.int IntKind.i64 44032, Value.int IntKind.i64 55203] 50)) := Kept.alloc (Kept.alloc (Kept.refl w1) _) _
  rw [← hbd]
  have HBD := Lib.hid hbd
  generalize ((w1.alloc (Obj.cells #[Value.slice s1.Ac s1.nc s1.cc, Value.slice s1.Am s1.nm s1.cm, Value.slice s1.Ae s1.ne s1.ce] 28)).alloc (Obj.cells #[Value.int IntKind.i64 44032, Value.int IntKind.i64 55203] 50)) = W2 at *
  have HD1 := Lib.hid d1
  have HD2 := Lib.hid d2
  have HK2 := Lib.hid hk2
  have hown0 : OwnR W2 (bd + 1) (.slice (some ⟨bd + 1, 0, none⟩) 1 1) (chgL (n1.decomp.take 0) cp) :=
    ⟨by simp [chgL, chgT, encR], .inr ⟨bd + 1, 1, _, by simp [chgL, chgT], Nat.le_refl _, d2, by simp [chgL, chgT], by unfold maxLen; omega, rfl, by simp [chgL, chgT, encR]⟩⟩
  have HO0 := Lib.hid hown0
  clear hbd d1 d2 hk2 hown0
  go_loopw [6, 7] (fun p i wr => ∃ k : Nat, k ≤ s1.nm ∧ i = .int .i64 k ∧ OwnR wr (bd + 1) p (chgL (n1.decomp.take k) cp) ∧ Below (bd + 1) W2 wr) (fun _ i _ => s1.nm - (intOf i).toNat)
  case atStart => exact ⟨0, Nat.zero_le _, rfl, HO0.out, Below.refl _ _⟩
  case round =>
    obtain ⟨k, hk, rfl, hown, hBl⟩ := hrel
    have HO := Lib.hid hown
    have HBL := Lib.hid hBl
    have hszr := hBl.size
    have hbW := block_lt HD2.out
    have hdb : wr.heap[bd]? = some (.cells #[Value.slice s1.Ac s1.nc s1.cc, Value.slice s1.Am s1.nm s1.cm, Value.slice s1.Ae s1.ne s1.ce] 28 (0, 0)) := (hBl.block bd (by omega)).trans HD1.out
    have g1 := cell_of_block (i := 1) hdb rfl
    simp only [List.getElem_toArray, List.getElem_cons_zero, List.getElem_cons_succ] at g1
    have KW : Hid (Kept w wr) := Lib.hid (Below.trans (Kept.trans HK0.out (Kept.trans HK1.out HK2.out)) (hBl.mono (by have := HBD.out; have := HK1.out.size; have := HK0.out.size; omega)))
    clear hown hBl hdb
    by_cases hlt : k < s1.nm
    · obtain ⟨b, off, m, A', n', c', hA, hm, hle, hI, c0, c1, c2⟩ := mp_at (i := k) (HNU.out.kept KW.out).dec hlt
      have HMM := Lib.hid (chgL_snoc hm cp)
      have hl := chgL_length (n1.decomp.take k) cp
      have hl2 : (n1.decomp.take k).length ≤ k := List.length_take_le _ _
      rw [hA] at g1
      clear hA
      clear hm hI c1
      cases cp
      · cases ht : m.tag.toList.isEmpty
        · have hte : ¬ m.tag.toList = [] := by simpa using ht
          have HT := Lib.hid ht
          go_wp2_with fail
          go_roundw
          case rel => exact ⟨k + 1, by omega, by go_num, by rw [HMM.out, if_neg (by simp [plainTag, HT.out]), List.append_nil]; exact HO.out, HBL.out⟩
          case measure => simp [intOf]; omega
        · have hte : m.tag.toList = [] := by simpa using ht
          have HT := Lib.hid ht
          have hka := Kept.alloc (Kept.refl wr) (Obj.cells #[Value.int IntKind.i64 m.src, Value.int IntKind.i64 m.src] 50)
          have g1a := Kept.cell hka g1
          have c0a := Kept.cell hka c0
          go_wp2_with fail
          go_region_law (refine step_append_lies _ (by rfl) (.tmp 29) (.tmp 43) 24 (by rfl) (bd + 1) 50 i0 (.agg #[.int .i64 0, .int .i64 0]) 2 16 Tryd.underlying24 HI0.out HZ0.out HZ1.out HZ2.out rfl (by omega) u6 (chgL (n1.decomp.take k) false).length ((chgL (n1.decomp.take k) false).flatMap encR) (by rfl) ((HO.out.alloc _).drew) ⟨wr.heap.size, 0, none⟩ 1 1 [.int .i64 m.src, .int .i64 m.src] (by rfl) (by rfl) (World.news_of_block (cs := #[.int .i64 m.src, .int .i64 m.src]) (t := 50) (fr := (0, 0)) (heap_alloc_new wr _)) (by simp [Value.oneCell']) (by omega) (by unfold maxLen; omega) (by omega) (by simp; omega) (wr.heap.size + 1) (by simp) ?_; intro gg cap w7 hown7 hgrow hat hlt7)
          all_goals
            have hB4 : Below (bd + 1) W2 w7 := (below_drew (HBL.out.alloc (by omega) (Obj.cells #[Value.int IntKind.i64 m.src, Value.int IntKind.i64 m.src] 50))).grown hgrow (by simp; omega) (fun q e => (World.ownsRow.lt HO.out q e).1)
            have HB4 := Lib.hid hB4
            have HO7 := Lib.hid hown7
            clear hB4 hown7 hgrow hat hlt7 hka g1a c0a g1 c0
            go_wp2_with fail
            go_roundw
            case rel => exact ⟨k + 1, by omega, by go_num, by rw [HMM.out, if_pos (by simp [plainTag, HT.out])]; simpa [OwnR, encR] using HO7.out, HB4.out⟩
            case measure => simp [intOf]; omega
      · clear c2
        have hka := Kept.alloc (Kept.refl wr) (Obj.cells #[Value.int IntKind.i64 m.src, Value.int IntKind.i64 m.src] 50)
        have g1a := Kept.cell hka g1
        have c0a := Kept.cell hka c0
        go_wp2_with fail
        go_region_law (refine step_append_lies _ (by rfl) (.tmp 29) (.tmp 43) 24 (by rfl) (bd + 1) 50 i0 (.agg #[.int .i64 0, .int .i64 0]) 2 16 Tryd.underlying24 HI0.out HZ0.out HZ1.out HZ2.out rfl (by omega) u6 (chgL (n1.decomp.take k) true).length ((chgL (n1.decomp.take k) true).flatMap encR) (by rfl) ((HO.out.alloc _).drew) ⟨wr.heap.size, 0, none⟩ 1 1 [.int .i64 m.src, .int .i64 m.src] (by rfl) (by rfl) (World.news_of_block (cs := #[.int .i64 m.src, .int .i64 m.src]) (t := 50) (fr := (0, 0)) (heap_alloc_new wr _)) (by simp [Value.oneCell']) (by omega) (by unfold maxLen; omega) (by omega) (by simp; omega) (wr.heap.size + 1) (by simp) ?_; intro gg cap w7 hown7 hgrow hat hlt7)
        all_goals
          have hB4 : Below (bd + 1) W2 w7 := (below_drew (HBL.out.alloc (by omega) (Obj.cells #[Value.int IntKind.i64 m.src, Value.int IntKind.i64 m.src] 50))).grown hgrow (by simp; omega) (fun q e => (World.ownsRow.lt HO.out q e).1)
          have HB4 := Lib.hid hB4
          have HO7 := Lib.hid hown7
          clear hB4 hown7 hgrow hat hlt7 hka g1a c0a g1 c0
          go_wp2_with fail
          go_roundw
          case rel => exact ⟨k + 1, by omega, by go_num, by rw [HMM.out, if_pos (by simp)]; simpa [OwnR, encR] using HO7.out, HB4.out⟩
          case measure => simp [intOf]; omega
    · have hfull : n1.decomp.take k = n1.decomp := List.take_of_length_le (by have := HNU.out.dec.1; omega)
      have hown := HO.out
      rw [hfull] at hown
      have hl := chgL_length n1.decomp cp
      have hdl := HNU.out.dec.1
      generalize chgL n1.decomp cp = L at *
      obtain ⟨A4, c4, hu, hle4, hS4⟩ := Sl.of_own (k := 2) (enc := encR) (fun _ => rfl) hown
      obtain ⟨nl, hnl⟩ : ∃ nl : Nat, nl = L.length := ⟨_, rfl⟩
      rw [← hnl] at hu hle4 hS4
      have HM := Lib.hid (r02Make A4 nl c4 L wr (by omega) hS4)
      have hb1 : B + 1 < W0.heap.size := block_lt HB1.out
      have hs0 := HK1.out.size
      have HE1 := Lib.hid ((((HBL.out.block (B + 1) (by have := HBD.out; omega)).trans (HK2.out.block (B + 1) (by omega))).trans (HK1.out.block (B + 1) hb1)).trans HB1.out)
      have hs2 := HK2.out.size
      clear hown hfull hl hdl hnl hS4
      subst hu
      go_wp2_with fail
      refine HM.out.mono ?_
      rintro e w5 ⟨A5, n5, c5, rfl, hle5, hR5, k5⟩
      have e1 : w5.heap[B + 1]? = some (.cells #[.slice none 0 0] 26 (0, 0)) := (k5.block (B + 1) (by omega)).trans HE1.out
      have e2 := cell_of_block (i := 0) e1 rfl
      have e3 := frozen_of_block (i := 0) e1
      simp only [List.getElem_toArray, List.getElem_cons_zero] at e2
      have HE5 := Lib.hid e1
      have HR5 := Lib.hid hR5
      clear e1 hR5
      go_wp2_with fail
      have e4 : (w5.setCell ⟨B + 1, 0, none⟩ (.slice A5 n5 c5)).cell? ⟨B + 1, 0, none⟩ = some (.slice A5 n5 c5) := cell_of_block (i := 0) (heap_setCell_one HE5.out) rfl
      clear e2 e3
      refine bodyPost_ret (v := .agg #[.slice A5 n5 c5]) (by simp [results, Tryd.results19, go_sem, e4]) rfl ⟨A5, _, c5, rfl, hle5, ?_, ?_⟩
      · exact rngs_setSet HR5.out HE5.out
      · exact Below.setCell (Kept.trans KW.out k5) (p := ⟨B + 1, 0, none⟩) (by rw [HB.out]; exact Nat.le_succ _) _
end Go.Proofs.YtobcaploncgnbaaDoor
