/- slices.Collect of ranges; ordering.usable, runs, Runs, Class, Starter. -/
import Derived.Test.YtljkkfohlkhjnaaDoorKSeqB
import Derived.Test.YtljkkfohlkhjnaaDoorKPl
namespace Go.Proofs.YtljkkfohlkhjnaaDoor
open Go Go.RowKit Go.Shelf

theorem collect_rng (gf : Nat) (lb : Array Value) (xs : List Rng) (w : World) (hx : xs.length ≤ 1000000) (eg : ∀ args w, (callFunc gf args).run Tryd.prog w = .ok (.enter gf args) w) (hY : Yields gf lb encsR w.heap.size xs w) :
    Calls Tryd.prog 39 #[.func (.func gf) #[] lb] w (RetRngs w xs) := by
  have HC := Lib.hid (appendSeq_rng gf lb xs w hx eg hY)
  clear hY eg
  go_enter Tryd.func39, Tryd.ntmps39
  go_wp2_with fail
  refine HC.out.mono ?_
  rintro e w1 ⟨A, n, c, rfl, hle, hI, hk⟩
  go_wp2_with fail
  go_ret
  exact ⟨A, n, c, rfl, hle, hI, hk⟩

theorem usableSpans_sorted (l : List Span) : SpanSorted (usableSpans l) := by
  unfold usableSpans
  by_cases h : ordCheck l = 0
  · rw [if_pos h]
    obtain ⟨h0, h1, _⟩ := ordCheck_zero h
    exact spanSorted_of h0 h1
  · rw [if_neg h]
    exact ⟨fun i j a b _ ha => by simp at ha, fun a ha => by simp at ha⟩

def RetSpans (w : World) (xs : List Span) (bound : Nat) (e : Ending) (w' : World) : Prop := ∃ A n c, e = .returned (.slice A n c) ∧ n ≤ c ∧ n ≤ bound ∧ Spans w' A n xs ∧ Kept w w'
theorem ordUsable (A : Option Addr) (n c : Nat) (l : List Span) (w : World) (hn : n ≤ 1000) (hc : n ≤ c) (hl : Spans w A n l) (hG : Glob w) :
    Calls Tryd.prog 41 #[.slice A n c] w (RetSpans w (usableSpans l) n) := by
  have HL := Lib.hid hl
  have HC := Lib.hid (ordering_check A n c l w hn hl hG)
  clear hl hG
  by_cases h : ordCheck l = 0
  · have hb : (ordCheck l != 0) = false := by simp [h]
    have HU := Lib.hid (show usableSpans l = l from if_pos h)
    clear h
    go_enter Tryd.func41, Tryd.ntmps41
    go_wp2_with (go_at_call 31; refine HC.out.mono ?_; rintro e w1 ⟨rfl, hk⟩)
    go_ret
    exact ⟨A, n, c, rfl, hc, Nat.le_refl _, by rw [HU.out]; exact HL.out.kept hk, hk⟩
  · have hb : (ordCheck l != 0) = true := by simp [h]
    have HU := Lib.hid (show usableSpans l = [] from if_neg h)
    clear h
    go_enter Tryd.func41, Tryd.ntmps41
    go_wp2_with (go_at_call 31; refine HC.out.mono ?_; rintro e w1 ⟨rfl, hk⟩)
    go_ret
    exact ⟨none, 0, 0, rfl, Nat.le_refl _, Nat.zero_le _, by rw [HU.out]; exact Sl.nil, hk⟩

theorem runs_any (Ac At : Option Addr) (nc cc nt ct : Nat) (w : World) :
    Calls Tryd.prog 40 #[.slice Ac nc cc, .slice At nt ct] w fun e w' => e = .returned (.func (.func 55) #[] #[.pointer (some ⟨w.heap.size + 1, 0, none⟩), .pointer (some ⟨w.heap.size, 0, none⟩)]) ∧
      w' = (w.alloc (.cells #[.slice Ac nc cc] 22)).alloc (.cells #[.slice At nt ct] 29) := by
  go_enter Tryd.func40, Tryd.ntmps40
  go_wp2
  go_ret
  exact ⟨rfl, rfl⟩
theorem runs_yields (Ac At : Option Addr) (nc cc nt ct : Nat) (w : World) (text : List Int) (cl : List Span) (hnt : nt ≤ 1000000) (hnc : nc ≤ 1000) (hs : SpanSorted cl) (ht : Ints w At nt text) (hc : Spans w Ac nc cl) :
    Yields 55 #[.pointer (some ⟨w.heap.size + 1, 0, none⟩), .pointer (some ⟨w.heap.size, 0, none⟩)] encsR (w.heap.size + 2) (runsOf cl text) ((w.alloc (.cells #[.slice Ac nc cc] 22)).alloc (.cells #[.slice At nt ct] 29)) := by
  intro n hn l J Jx W hW hJ hJx hY h0
  have hsz : ((w.alloc (.cells #[.slice Ac nc cc] 22)).alloc (.cells #[.slice At nt ct] 29)).heap.size = w.heap.size + 2 := by simp
  rw [hsz] at hW
  have b1 := box_cell w #[.slice Ac nc cc] 22 0
  have b1' : ((w.alloc (.cells #[.slice Ac nc cc] 22)).alloc (.cells #[.slice At nt ct] 29)).cell? ⟨w.heap.size, 0, none⟩ = some (.slice Ac nc cc) := (Kept.alloc (Kept.refl _) _).cell b1
  have b2 := box_cell (w.alloc (.cells #[.slice Ac nc cc] 22)) #[.slice At nt ct] 29 0
  rw [World.size_alloc] at b2
  have hk0 : Kept w ((w.alloc (.cells #[.slice Ac nc cc] 22)).alloc (.cells #[.slice At nt ct] 29)) := Kept.alloc (Kept.alloc (Kept.refl _) _) _
  have hws : w.heap.size + 2 ≤ W.heap.size := by have := hW.size; simpa [hsz] using this
  exact runs1_in n hn (fun A B => w.heap.size + 2 ≤ A.heap.size → Below (w.heap.size + 2) A B) (fun A _ => Below.refl _ _) (fun h k hs => (h hs).trans (k (Nat.le_trans hs (h hs).size))) (fun h hs => Below.mono h hs) l (w.heap.size + 1) w.heap.size At Ac nt ct nc cc text cl hnt hnc hs J Jx _ hJ (fun pre x W1 h1 h2 => (hY pre x W1 h1 (by obtain ⟨t, ht⟩ := h2; rw [ht]; simp)).mono fun e W' h => h.imp (fun ⟨a, b, c⟩ => ⟨a, b, fun _ => c⟩) id) W
    (fun W' hW' => by
      have hk : Below (w.heap.size + 2) ((w.alloc (.cells #[.slice Ac nc cc] 22)).alloc (.cells #[.slice At nt ct] 29)) W' := hW.trans (hW' hws)
      rw [← hsz] at hk
      exact ⟨Kept.cell hk b2, Kept.cell hk b1', ht.kept (Kept.trans hk0 hk), hc.kept (Kept.trans hk0 hk)⟩) h0

theorem ordRuns (Ac At : Option Addr) (nc cc nt ct : Nat) (w : World) (text : List Int) (l : List Span) (hnt : nt ≤ 1000000) (hnc : nc ≤ 1000) (hcc : nc ≤ cc) (ht : Ints w At nt text) (hl : Spans w Ac nc l) (hG : Glob w) :
    Calls Tryd.prog 24 #[.slice Ac nc cc, .slice At nt ct] w (RetRngs w (runsOf (usableSpans l) text)) := by
  have HT := Lib.hid ht
  have HU := Lib.hid (ordUsable Ac nc cc l w hnc hcc hl hG)
  clear ht hl hG
  go_enter Tryd.func24, Tryd.ntmps24
  go_wp2_with fail
  refine HU.out.mono ?_
  rintro e w1 ⟨A1, n1, c1, rfl, hle1, hn1, hS1, hk1⟩
  have HS := Lib.hid hS1
  clear hS1
  go_wp2_with fail
  refine (runs_any _ _ _ _ _ _ _).mono ?_
  rintro e w2 ⟨rfl, hw2⟩
  have hY := runs_yields A1 At n1 c1 nt ct w1 text (usableSpans l) hnt (by omega) (usableSpans_sorted l) (HT.out.kept hk1) HS.out
  rw [← hw2] at hY
  have hsz : w1.heap.size + 2 = w2.heap.size := by rw [hw2]; simp
  rw [hsz] at hY
  have hk2 : Kept w1 w2 := by rw [hw2]; exact Kept.alloc (Kept.alloc (Kept.refl _) _) _
  have hlen : (runsOf (usableSpans l) text).length ≤ 1000000 := by
    have h1 := runsOf_length (usableSpans l) text
    have h2 := HT.out.1
    omega
  have HCC := Lib.hid (collect_rng _ _ _ w2 hlen (enters_of Tryd.func55 (by kernel_rfl) rfl) hY)
  clear hY hw2 hsz hlen
  go_wp2_with fail
  refine HCC.out.mono ?_
  rintro e w3 ⟨A3, n3, c3, rfl, hle3, hI3, hk3⟩
  go_wp2_with fail
  go_ret
  exact ⟨A3, n3, c3, rfl, hle3, hI3, Kept.trans hk1 (Kept.trans hk2 hk3)⟩
theorem ordClass (A : Option Addr) (n c : Nat) (l : List Span) (x : Int) (w : World) (hn : n ≤ 1000) (hc : n ≤ c) (hl : Spans w A n l) (hG : Glob w) :
    Calls Tryd.prog 38 #[.slice A n c, .int .i64 x] w (RetI w (classOf (usableSpans l) x)) := by
  have HU := Lib.hid (ordUsable A n c l w hn hc hl hG)
  clear hl hG
  go_enter Tryd.func38, Tryd.ntmps38
  go_wp2_with fail
  refine HU.out.mono ?_
  rintro e w1 ⟨A1, n1, c1, rfl, hle1, hn1, hS1, hk1⟩
  have HS := Lib.hid hS1
  clear hS1
  go_wp2_with fail
  refine (class_any _ _ _ _ _ _ (by omega) HS.out (usableSpans_sorted l)).mono ?_
  rintro e w2 ⟨rfl, hk2⟩
  go_wp2_with fail
  go_ret
  exact ⟨rfl, Kept.trans hk1 hk2⟩
end Go.Proofs.YtljkkfohlkhjnaaDoor
