/- The reference's Runs of layer 20. -/
import Derived.Test.YtdogaaepiddnoaaGreatDoorKRefP
import Derived.Test.YtdogaaepiddnoaaGreatDoorKRfx
import Derived.Test.YtdogaaepiddnoaaGreatDoorKRfj
import Derived.Test.YtdogaaepiddnoaaGreatDoorKRgx
namespace Go.Proofs.YtdogaaepiddnoaaGreatDoor
open Go Go.RowKit

theorem take_last {l : List Int} {k : Nat} {x : Int} (h : l[k]? = some x) : (l.take (k + 1)).getLast? = some x := by rw [take_succ_some h]; simp
theorem runsT_length (cls : Int → Int) (t : List Int) : (runsT cls t).length ≤ t.length := by
  have := runsFrom_length cls t 0 none
  simpa [runsT] using this

set_option maxRecDepth 100000 in
set_option maxHeartbeats 4000000 in
theorem r20Runs (A : Option Addr) (n c : Nat) (l : List Span) (B : Option Addr) (m d : Nat) (text : List Int) (w : World) (hn : n ≤ 1000) (hm : m ≤ 100000) (hl : Spans w A n l) (hI : Ints w B m text) :
    Calls Tryz.prog 39 #[.slice A n c, .slice B m d] w (RetRngs w (runsT (classOf (usableSpans l)) text)) := by
  have HC := Lib.hid (fun (x : Int) w' (hk : Kept w w') => r20Starter A n c l x w' hn (hl.kept hk))
  have HI := Lib.hid hI
  have HML := Lib.hid hI.1
  clear hl hI
  generalize classOf (usableSpans l) = cls at *
  obtain ⟨i0, hi, hz0, hz1, hz2⟩ := info_parts info_rng
  have HI0 := Lib.hid hi
  have HZ0 := Lib.hid hz0
  have HZ1 := Lib.hid hz1
  have HZ2 := Lib.hid hz2
  clear hi hz0 hz1 hz2
  obtain ⟨base, hbase⟩ : ∃ base : Nat, base = w.heap.size := ⟨_, rfl⟩
  have HBASE := Lib.hid hbase
  clear hbase
  go_enter Tryz.func39, Tryz.ntmps39
  go_wp2_with fail
  go_loopw [5, 6] (fun p i wr => ∃ k : Nat, k ≤ m ∧ i = .int .i64 k ∧ OwnR wr base p (runsT cls (text.take k)) ∧ Kept w wr) (fun _ i _ => m - (intOf i).toNat)
  case atStart => exact ⟨0, Nat.zero_le _, rfl, (World.ownsRow_nil _ _ _ _ : OwnR w base (.slice none 0 0) []), Kept.refl _⟩
  case round =>
    obtain ⟨k, hk, rfl, hown, hkw⟩ := hrel
    have HOW := Lib.hid hown
    have HKW := Lib.hid hkw
    have hsz := hkw.size
    clear hown hkw
    by_cases hlt : k < m
    · obtain ⟨b, off, x, hA, hx, cx⟩ := int_at (HI.out.kept HKW.out) hlt
      have HX := Lib.hid hx
      have HTS := Lib.hid (take_succ_some hx)
      have HCX := Lib.hid (HC.out x wr HKW.out)
      have hLl := runsT_length cls (text.take k)
      have htl : (text.take k).length = k := by rw [List.length_take]; have := HML.out; omega
      rw [hA]
      clear hx
      by_cases hc : cls x = 0
      · have hb : (cls x == 0) = true := by simp [hc]
        rw [hb] at HCX
        have HE := Lib.hid (runsT_start (t := text.take k) hc)
        clear hc hb
        go_wp2_with fail
        refine HCX.out.mono ?_
        rintro e w2 ⟨rfl, k2⟩
        clear cx
        go_wp2_with fail
        go_roundw
        case rel => exact ⟨k + 1, by omega, by go_num, by rw [HTS.out, HE.out]; exact HOW.out.kept k2, Kept.trans HKW.out k2⟩
        case measure => simp [intOf]; omega
      · have hb : (cls x == 0) = false := by simp [hc]
        rw [hb] at HCX
        clear hb
        rcases Nat.eq_zero_or_pos k with h0 | hpos
        · have hE := runsT_new (t := text.take k) hc (.inl (by rw [h0]; rfl))
          rw [htl] at hE
          have HE := Lib.hid hE
          have hz : decide (0 < k) = false := by simp [h0]
          have H0 := Lib.hid h0
          clear hE hc h0
          go_wp2_with fail
          refine HCX.out.mono ?_
          rintro e w2 ⟨rfl, k2⟩
          clear cx
          have HKA := Lib.hid (Kept.trans HKW.out k2)
          have hszA := HKA.out.size
          have hbA : base ≤ w2.heap.size := by have := HBASE.out; omega
          have HOA := Lib.hid (OwnR.kept HOW.out k2)
          have hrl : (runsT cls (text.take k)).length ≤ 100000 := by omega
          generalize runsT cls (text.take k) = RR at *
          obtain ⟨Ao, co, rfl⟩ := OwnR.form HOA.out
          go_wp2_with (at_builtin; refine wpList_append_own _ rfl _ _ 24 rfl base 55 i0 (.agg #[.int .i64 0, .int .i64 0]) 2 16 Tryz.underlying24 HI0.out HZ0.out HZ1.out HZ2.out rfl (by decide) _ _ _ rfl (by exact HOA.out.alloc _) ⟨w2.heap.size, 0, none⟩ 1 1 [.int .i64 k, .int .i64 (k + 1)] rfl rfl (by exact cell_two_new (w := w2) rfl) (by simp [Value.oneCell']) (by unfold maxLen; omega) (by omega) (by simp; omega) ?_; intro v' w8 hown' hgrow _)
          have HKG := Lib.hid ((Kept.alloc HKA.out (Obj.cells #[Value.int IntKind.i64 k, Value.int IntKind.i64 (k + 1)] 55)).grown hgrow (by simp; omega) (fun q e => by have := (World.ownsRow.lt HOA.out q e).1; have := HBASE.out; omega))
          go_roundw
          case rel => exact ⟨k + 1, by omega, by go_num, by rw [HTS.out, HE.out]; simpa [OwnR, encR] using hown', HKG.out⟩
          case measure => simp [intOf]; omega
        · obtain ⟨j, hkj⟩ : ∃ j, k = j + 1 := ⟨k - 1, by omega⟩
          obtain ⟨b', off', y, hA', hy, cy⟩ := int_at (i := j) (HI.out.kept HKW.out) (by omega)
          rw [hA] at hA'
          simp only [Option.some.injEq, Addr.mk.injEq, and_true] at hA'
          obtain ⟨rfl, rfl⟩ := hA'
          have hlast : (text.take k).getLast? = some y := by rw [hkj]; exact take_last hy
          have hwj : IntKind.i64.wrap ((k : Int) - 1) = (j : Int) := by rw [IntWalk.i64_in _ (by omega)]; omega
          have hj0 : (0 : Int) ≤ (j : Int) := by omega
          have hj1 : (j : Int) < (m : Int) := by omega
          have HKJ := Lib.hid hkj
          by_cases hcy : cls y = 0
          · have hE := runsT_new (t := text.take k) hc (.inr ⟨y, hlast, hcy⟩)
            rw [htl] at hE
            have HE := Lib.hid hE
            have hb2 : (cls y == 0) = true := by simp [hcy]
            have HCY := Lib.hid (fun w' (hk : Kept w w') => HC.out y w' hk)
            rw [hb2] at HCY
            clear hE hc hcy hy hb2 hlast hkj
            go_wp2_with fail
            refine HCX.out.mono ?_
            rintro e w2 ⟨rfl, k2⟩
            have cy2 := Kept.cell k2 cy
            clear cx cy
            go_wp2_with fail
            refine (HCY.out w2 (Kept.trans HKW.out k2)).mono ?_
            rintro e w3 ⟨rfl, k3⟩
            clear cy2
            have K23 := Lib.hid (Kept.trans k2 k3)
            clear k2 k3
            have HKA := Lib.hid (Kept.trans HKW.out K23.out)
            have hszA := HKA.out.size
            have hbA : base ≤ w3.heap.size := by have := HBASE.out; omega
            have HOA := Lib.hid (OwnR.kept HOW.out K23.out)
            have hrl : (runsT cls (text.take k)).length ≤ 100000 := by omega
            generalize runsT cls (text.take k) = RR at *
            obtain ⟨Ao, co, rfl⟩ := OwnR.form HOA.out
            go_wp2_with (at_builtin; refine wpList_append_own _ rfl _ _ 24 rfl base 55 i0 (.agg #[.int .i64 0, .int .i64 0]) 2 16 Tryz.underlying24 HI0.out HZ0.out HZ1.out HZ2.out rfl (by decide) _ _ _ rfl (by exact HOA.out.alloc _) ⟨w3.heap.size, 0, none⟩ 1 1 [.int .i64 k, .int .i64 (k + 1)] rfl rfl (by exact cell_two_new (w := w3) rfl) (by simp [Value.oneCell']) (by unfold maxLen; omega) (by omega) (by simp; omega) ?_; intro v' w8 hown' hgrow _)
            have HKG := Lib.hid ((Kept.alloc HKA.out (Obj.cells #[Value.int IntKind.i64 k, Value.int IntKind.i64 (k + 1)] 55)).grown hgrow (by simp; omega) (fun q e => by have := (World.ownsRow.lt HOA.out q e).1; have := HBASE.out; omega))
            go_roundw
            case rel => exact ⟨k + 1, by omega, by go_num, by rw [HTS.out, HE.out]; simpa [OwnR, encR] using hown', HKG.out⟩
            case measure => simp [intOf]; omega
          · obtain ⟨os, q, hE1, hE2⟩ := runsT_more (t := text.take k) hc hlast hcy
            rw [htl] at hE2
            have HE := Lib.hid hE2
            have hb2 : (cls y == 0) = false := by simp [hcy]
            have HCY := Lib.hid (fun w' (hk : Kept w w') => HC.out y w' hk)
            rw [hb2] at HCY
            rw [hE1] at HOW hLl
            clear hE1 hE2 hc hcy hy hb2 hlast hkj
            go_wp2_with fail
            refine HCX.out.mono ?_
            rintro e w2 ⟨rfl, k2⟩
            have cy2 := Kept.cell k2 cy
            clear cx cy
            go_wp2_with fail
            refine (HCY.out w2 (Kept.trans HKW.out k2)).mono ?_
            rintro e w3 ⟨rfl, k3⟩
            clear cy2
            have HKA := Lib.hid (Kept.trans HKW.out (Kept.trans k2 k3))
            have hown' := OwnR.kept HOW.out (Kept.trans k2 k3)
            simp only [OwnR, List.length_append, List.length_singleton] at hown' hLl
            obtain ⟨g, co, rfl⟩ := ownsRow_succ_ hown'
            have d1 : w3.cell? ⟨g, os.length * 2 + 1, none⟩ = some (.int .i64 q.hi) := by
              rw [hown'.cellAt _ (by omega)]
              exact flat_get (k := 2) (f := encR) (fun _ => rfl) _ os.length 1 q _ (by simp) rfl
            have d2 := hown'.frozenAt (os.length * 2 + 1)
            have hgb : base ≤ g := (hown'.lt g rfl).1
            have hol3 : os.length ≤ 100000 := by omega
            have HO6 := Lib.hid hown'
            clear hown' k2 k3
            have hw2 : IntKind.i64.wrap (os.length : Int) = (os.length : Int) := IntWalk.i64_in _ (by omega)
            go_wp2_with fail
            have hst := HO6.out.stored (os.length * 2 + 1) (.int .i64 (k + 1))
            rw [flat_set] at hst
            go_roundw
            case rel =>
              refine ⟨k + 1, by omega, by go_num, ?_, Kept.setCell HKA.out (by have := HBASE.out; simp; omega) _⟩
              rw [HTS.out, HE.out]
              simp only [OwnR, List.length_append, List.length_singleton]
              exact hst.1
            case measure => simp [intOf]; omega
    · have hfull : text.take k = text := List.take_of_length_le (by have := HML.out; omega)
      have hown := HOW.out
      obtain ⟨R, hR⟩ : ∃ R : List Rng, R = runsT cls text := ⟨_, rfl⟩
      rw [hfull, ← hR] at hown
      have HR := Lib.hid hR
      obtain ⟨A4, c4, hu, hle4, hS4⟩ := Sl.of_own (k := 2) (enc := encR) (fun _ => rfl) hown
      clear hown hfull hR
      subst hu
      go_wp2_with fail
      go_ret
      exact ⟨A4, _, c4, rfl, hle4, by rw [← HR.out]; exact hS4, HKW.out⟩
end Go.Proofs.YtdogaaepiddnoaaGreatDoor
