/- joining.concat; slices of slices of numbers. -/
import Derived.Test.YtjfhcmkcmdnhoaaGreatDoorKRefA
import Derived.Test.YtjfhcmkcmdnhoaaGreatDoorKRgx
namespace Go.Proofs.YtjfhcmkcmdnhoaaGreatDoor
open Go Go.RowKit
def dropA (A : Option Addr) (m k : Nat) : Option Addr := if m = k then A else A.map (·.add k)
theorem Ints.drop_ {w : World} {A : Option Addr} {n k m : Nat} {xs : List Int} (h : Ints w A n xs) (hk : k ≤ n) (hm : n ≤ m) : Ints w (dropA A m k) (n - k) (xs.drop k) := by
  refine ⟨by rw [List.length_drop]; have := h.1; omega, fun h0 => ?_⟩
  obtain ⟨b, off, e, hc⟩ := h.2 (by omega)
  refine ⟨b, off + k, ?_, fun i x hx j u hu => ?_⟩
  · unfold dropA
    rw [if_neg (by omega), e]
    simp only [Option.map_some, Addr.add]
    split <;> simp_all
  · rw [List.getElem?_drop] at hx
    have := hc (k + i) x hx j u hu
    rw [show off + k + i * 1 + j = off + (k + i) * 1 + j by omega]
    exact this
theorem Ints.front_ {w : World} {A : Option Addr} {n q : Nat} {xs : List Int} (h : Ints w A n xs) (hq : q ≤ n) : Ints w A q (xs.take q) :=
  ⟨by rw [List.length_take]; have := h.1; omega, fun h0 => by
    obtain ⟨b, off, e, hc⟩ := h.2 (by omega)
    refine ⟨b, off, e, fun i x hx j u hu => hc i x ?_ j u hu⟩
    rw [List.getElem?_take] at hx
    split at hx
    · exact hx
    · cases hx⟩
theorem und_ints : Tryz.prog.underlying 29 = some (.slice (Tryz.prog.elem 29)) := by kernel_rfl
theorem size_int (w : World) : (sizeOf (Tryz.prog.elem 29)).run Tryz.prog w = .ok 1 w := by kernel_rfl
theorem run_drop1 (A : Option Addr) (n c k : Nat) (hk : k ≤ n) (w : World) :
    (Instr.slice 29 (.slice A n c) (some (.int .i64 (k : Int))) none none).run Tryz.prog w = .ok (.slice (dropA A c k) (n - k) (c - k)) w := by
  rw [run_slice_l w 29 A n c und_ints .i64 _ (by omega) (by omega), size_int]
  simp [Result.andThen, sliced, dropA]
theorem run_take1 (A : Option Addr) (n c k : Nat) (hk : k ≤ c) (w : World) :
    (Instr.slice 29 (.slice A n c) none (some (.int .i64 (k : Int))) none).run Tryz.prog w = .ok (.slice A k c) w := by
  rw [run_slice_h w 29 A n c und_ints .i64 _ (by omega) (by omega), size_int]
  simp only [Result.andThen, sliced, Int.toNat_natCast, Nat.sub_zero]
  split
  · rfl
  · cases A with
    | none => rfl
    | some a => simp [Addr.add]
theorem Ints.sets {w : World} {b : Nat} {A : Option Addr} {n : Nat} {xs : List Int} (h : Ints w A n xs) (hne : ∀ a, A = some a → a.block ≠ b) (i : Nat) (v : Value) : Ints (w.setCell ⟨b, i, none⟩ v) A n xs :=
  ⟨h.1, fun hn => by
    obtain ⟨b1, o1, e, hc⟩ := h.2 hn
    refine ⟨b1, o1, e, fun i2 x hx j u hu => ?_⟩
    have h1 := hc i2 x hx j u hu
    have hb := hne _ e
    simp only at hb
    rw [← h1]
    refine World.cell?_of_block ?_
    simp only [World.setCell]
    rw [Array.getElem?_modify, if_neg (fun e2 => hb e2.symm)]⟩
end Go.Proofs.YtjfhcmkcmdnhoaaGreatDoor
