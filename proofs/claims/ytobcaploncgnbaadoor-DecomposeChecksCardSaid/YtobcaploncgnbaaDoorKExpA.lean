/- decompose.expander: what its closure has captured. -/
import Derived.Test.YtobcaploncgnbaaDoorKApp
import Derived.Test.YtobcaploncgnbaaDoorKPl
namespace Go.Proofs.YtobcaploncgnbaaDoor
open Go Go.RowKit

def AwayM (g : Nat) (M : List (Int × Value)) : Prop := ∀ k v, getKV M k = some v → Away g (adOf v)
structure ExpAt (w : World) (bs bn bc bx bm : Nat) (s : Sls) (cp : Bool) (F : Int → List Int) (M : List (Int × Value)) : Prop where
  fs : w.heap[bs]? = some (.cells #[.map (some bm)] 93 (0, 0))
  n : w.heap[bn]? = some (.cells #[.slice s.Ac s.nc s.cc, .slice s.Am s.nm s.cm, .slice s.Ae s.ne s.ce] 28 (0, 0))
  c : w.heap[bc]? = some (.cells #[.bool cp] 4 (0, 0))
  x : w.heap[bx]? = some (.cells #[.func (.func 65) #[] #[.pointer (some ⟨bs, 0, none⟩), .pointer (some ⟨bn, 0, none⟩), .pointer (some ⟨bc, 0, none⟩), .pointer (some ⟨bx, 0, none⟩)]] 68 (0, 0))
  m : MapIs w bm (fun k : Int => Value.int .i64 k) M
  vals : ∀ k v, getKV M k = some v → ∃ A n c, v = .slice A n c ∧ n ≤ c ∧ Ints w A n (F k) ∧ InHeap w A
section
variable {w w' : World} {bs bn bc bx bm : Nat} {s : Sls} {cp : Bool} {F : Int → List Int} {M : List (Int × Value)}
theorem ExpAt.noInt (h : ExpAt w bs bn bc bx bm s cp F M) : ∀ b ∈ [bm], ∀ off x, w.cell? ⟨b, off, none⟩ ≠ some (.int .i64 x) := by
  intro b hb off x hc
  simp only [List.mem_cons, List.not_mem_nil, or_false] at hb
  subst hb
  obtain ⟨es, cl, hm, _⟩ := h.m
  unfold World.cell? at hc
  simp [hm] at hc
theorem ExpAt.neMap (h : ExpAt w bs bn bc bx bm s cp F M) {b : Nat} {cs : Array Value} {t : TypeId} (hb : w.heap[b]? = some (.cells cs t (0, 0))) : b ≠ bm := fun e => by
  obtain ⟨es, cl, hmm, _⟩ := h.m
  subst e
  rw [hmm] at hb
  cases hb
theorem ExpAt.kept (h : ExpAt w bs bn bc bx bm s cp F M) (hk : Kept w w') : ExpAt w' bs bn bc bx bm s cp F M :=
  ⟨(hk.block _ (block_lt h.fs)).trans h.fs, (hk.block _ (block_lt h.n)).trans h.n, (hk.block _ (block_lt h.c)).trans h.c, (hk.block _ (block_lt h.x)).trans h.x, h.m.kept hk, fun k v hv => by
    obtain ⟨A, n, c, e, hle, hI, hh⟩ := h.vals k v hv
    exact ⟨A, n, c, e, hle, hI.kept hk, hh.le hk.size⟩⟩
/-- A row of the call's own grows. -/
theorem ExpAt.grown (h : ExpAt w bs bn bc bx bm s cp F M) {row : Option Nat} (hg : w.grownBy w' row) (hr : ∀ g, row = some g → AwayM g M ∧ g ≠ bs ∧ g ≠ bn ∧ g ≠ bc ∧ g ≠ bx ∧ g ≠ bm) : ExpAt w' bs bn bc bx bm s cp F M := by
  have ne : ∀ {b : Nat}, (∀ g, row = some g → g ≠ b) → some b ≠ row := fun hb e => hb _ e.symm rfl
  refine ⟨(hg.block _ (block_lt h.fs) (ne fun g e => (hr g e).2.1)).trans h.fs, (hg.block _ (block_lt h.n) (ne fun g e => (hr g e).2.2.1)).trans h.n, (hg.block _ (block_lt h.c) (ne fun g e => (hr g e).2.2.2.1)).trans h.c, (hg.block _ (block_lt h.x) (ne fun g e => (hr g e).2.2.2.2.1)).trans h.x, h.m.block (hg.block _ h.m.lt (ne fun g e => (hr g e).2.2.2.2.2)), fun k v hv => ?_⟩
  obtain ⟨A, n, c, e, hle, hI, hh⟩ := h.vals k v hv
  refine ⟨A, n, c, e, hle, hI.grown hg (fun g hgr => ?_), hh.le hg.size⟩
  have := (hr g hgr).1 k v hv
  rw [e] at this
  exact this
/-- A full decomposition is kept. -/
theorem ExpAt.mapped (h : ExpAt w bs bn bc bx bm s cp F M) {k0 : Int} {A : Option Addr} {n c : Nat} (hg : w.grownBy w' (some bm)) (hm : MapIs w' bm (fun k : Int => Value.int .i64 k) (setKV M k0 (.slice A n c))) (hle : n ≤ c) (hI : Ints w A n (F k0)) (hA : InHeap w A) :
    ExpAt w' bs bn bc bx bm s cp F (setKV M k0 (.slice A n c)) := by
  have ne : ∀ {b : Nat} {cs : Array Value} {t : TypeId}, w.heap[b]? = some (.cells cs t (0, 0)) → some b ≠ some bm := fun hb e => h.neMap hb (by injection e)
  refine ⟨(hg.block _ (block_lt h.fs) (ne h.fs)).trans h.fs, (hg.block _ (block_lt h.n) (ne h.n)).trans h.n, (hg.block _ (block_lt h.c) (ne h.c)).trans h.c, (hg.block _ (block_lt h.x) (ne h.x)).trans h.x, hm, fun k v hv => ?_⟩
  rw [getKV_set] at hv
  split at hv
  · rename_i e
    subst e
    injection hv with hv
    exact ⟨A, n, c, hv.symm, hle, hI.keptBut (KeptBut.of_grown hg (by simp)) h.noInt, hA.le hg.size⟩
  · obtain ⟨A', n', c', e, hle', hI', hh⟩ := h.vals k v hv
    exact ⟨A', n', c', e, hle', hI'.keptBut (KeptBut.of_grown hg (by simp)) h.noInt, hh.le hg.size⟩
end
theorem own_keptBut {S : List Nat} {w w' : World} {base : Nat} {v : Value} {xs : List Int} (h : OwnI w base v xs) (hk : KeptBut S w w') (hS : ∀ g, v.ownBlock = some g → g ∉ S) : OwnI w' base v xs := by
  refine ⟨h.1, ?_⟩
  rcases h.2 with hn | ⟨g, cap, cur, rfl, hb, hgg, rest⟩
  · exact .inl hn
  · exact .inr ⟨g, cap, cur, rfl, hb, (hk.block g (block_lt hgg) (hS g rfl)).trans hgg, rest⟩

/-- What the closure returns. -/
def ExpPost (bs bn bc bx bm : Nat) (s : Sls) (cp : Bool) (F : Int → List Int) (M : List (Int × Value)) (w : World) (c : Int) (e : Ending) (w' : World) : Prop :=
  ∃ A n cc M', e = .returned (.slice A n cc) ∧ n ≤ cc ∧ Ints w' A n (F c) ∧ InHeap w' A ∧ KeptBut [bm] w w' ∧ ExpAt w' bs bn bc bx bm s cp F M' ∧ ∀ g, g < w.heap.size → AwayM g M → AwayM g M' ∧ Away g A
end Go.Proofs.YtobcaploncgnbaaDoor
