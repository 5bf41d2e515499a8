/- A stream's step, as the program and as the reference take it. No walk. The examples of the chapter on joining. No walk. And more of that kind. -/
import Derived.Test.YtomgchfjachedaaGreatDoorKFar
import Derived.Test.YtomgchfjachedaaGreatDoorKQp
import Derived.Test.YtomgchfjachedaaGreatDoorKAlive21
import Derived.Test.YtomgchfjachedaaGreatDoorKNrm
import Derived.Test.YtomgchfjachedaaGreatDoorKQcf
import Derived.Test.YtomgchfjachedaaGreatDoorKApp
import Derived.Test.YtomgchfjachedaaGreatDoorKRgx
import Derived.Test.YtomgchfjachedaaGreatDoorKRfl
import Derived.Test.YtomgchfjachedaaGreatDoorKPq
namespace Go.Proofs.YtomgchfjachedaaGreatDoor
theorem last_step {p : Int → Bool} {pend : List Int} (text : List Int) (h : lastBd p pend = 0) : lastBd p (pend ++ text) = wrK p pend text := by
  rw [lastBd_append]
  unfold wrK
  split
  · exact h
  · rfl
theorem last_rest (p : Int → Bool) (all : List Int) : lastBd p (all.drop (lastBd p all)) = 0 := by
  obtain ⟨_, _, _, h4⟩ := lastBd_spec p all.length all rfl
  refine lastBd_none (fun q d hq hd => ?_)
  rw [List.getElem?_drop] at hd
  exact h4 (lastBd p all + q) d (by omega) hd
end Go.Proofs.YtomgchfjachedaaGreatDoor
namespace Go.Proofs.YtomgchfjachedaaGreatDoor
def joinMm : List Mp := [⟨226, [97, 770], ⟨#[]⟩⟩]
def joinN : Nrm := ⟨[⟨770, 770, 230⟩], joinMm, []⟩
theorem joinN_check : decCheck joinN = 0 := by decide +kernel
theorem joinN_usable : usableN joinN = joinN := if_pos joinN_check
theorem joinN_full : FullEq joinMm false (fullOf (usableN joinN).decomp false) := by
  have := usableN_full joinN false
  rw [joinN_usable] at this ⊢
  exact this
theorem joinN_97 : fullOf (usableN joinN).decomp false 97 = [97] := full_alone joinN_full (by decide +kernel)
theorem joinN_770 : fullOf (usableN joinN).decomp false 770 = [770] := full_alone joinN_full (by decide +kernel)
theorem joinN_c97 : classOf (usableN joinN).classes 97 = 0 := by rw [joinN_usable]; decide +kernel
theorem joinN_c770 : classOf (usableN joinN).classes 770 ≠ 0 := by rw [joinN_usable]; decide +kernel
theorem sort_lone {cls : Int → Int} (c : Int) : sortT cls [c] = [c] := sort_one cls c
theorem joinN_d1 : textOf joinN false [97, 770] = [97, 770] := by
  rw [textOf_eq, textE_eq]
  simp only [List.flatMap_cons, List.flatMap_nil, joinN_97, joinN_770, List.append_nil, List.cons_append, List.nil_append]
  rw [sortT_start joinN_c97, sort_lone]
theorem joinN_f1 : formOf joinN 1 [97, 770] = [226] := by
  rw [formOf_1, joinN_d1]
  unfold compN
  rw [joinN_usable]
  decide +kernel
theorem joinN_second {x : Int} (h : kind x = 0) (hx : x ≠ 770) : secondB (usableN joinN) x = false := by
  cases hs : secondB (usableN joinN) x with
  | false => rfl
  | true =>
    exfalso
    obtain ⟨a, ha⟩ := secondB_iff.1 hs
    have hc : compH a x = none := by unfold compH; rw [if_neg (by rw [h]; omega), if_neg (by rw [h]; omega)]
    have hp : (pairM (usableN joinN) a x).isSome = true := by unfold pairOf at ha; rw [hc] at ha; exact ha
    obtain ⟨v, hv⟩ := Option.isSome_iff_exists.1 hp
    obtain ⟨m, hm, _, ht, _⟩ := pairM_some hv
    rw [joinN_usable] at hm
    simp only [joinN, joinMm, List.mem_singleton] at hm
    rw [hm] at ht
    simp only [List.cons.injEq, and_true] at ht
    exact hx ht.2.symm
theorem joinN_b97 : boundB joinN 1 97 = true := by
  unfold boundB
  rw [if_neg (by omega), show cpOf 1 = false by decide, joinN_97]
  simp [joinN_c97, joinN_second (x := 97) (by decide +kernel) (by decide)]
theorem joinN_b770 : boundB joinN 1 770 = false := by
  unfold boundB
  rw [if_neg (by omega), show cpOf 1 = false by decide, joinN_770]
  simp [joinN_c770]
end Go.Proofs.YtomgchfjachedaaGreatDoor
namespace Go.Proofs.YtomgchfjachedaaGreatDoor
def strPend (p : Int → Bool) (inp : List Int) : List Int := inp.drop (lastBd p inp)
noncomputable def strOut (n : Nrm) (form : Int) (inp : List Int) : List Int := formOf n form (inp.take (lastBd (boundB n form) inp))
def wrPend (p : Int → Bool) (pend text : List Int) : List Int := (pend ++ text).drop (wrK p pend text)
noncomputable def wrOut (n : Nrm) (form : Int) (pend text : List Int) : List Int := formOf n form ((pend ++ text).take (wrK (boundB n form) pend text))
theorem strPend_nil (p : Int → Bool) : strPend p [] = [] := by simp [strPend]
theorem strOut_nil (n : Nrm) (form : Int) : strOut n form [] = [] := by simp [strOut, form_nil]
theorem strPend_write (p : Int → Bool) (inp text : List Int) : wrPend p (strPend p inp) text = strPend p (inp ++ text) := (stream_pend p inp text).symm
theorem strOut_write (n : Nrm) (form : Int) (inp text : List Int) : strOut n form (inp ++ text) = strOut n form inp ++ wrOut n form (strPend (boundB n form) inp) text := stream_out n form inp text
theorem strOut_all (n : Nrm) (form : Int) (inp : List Int) : strOut n form inp ++ formOf n form (strPend (boundB n form) inp) = formOf n form inp := stream_whole n form inp
theorem strPend_length (p : Int → Bool) (inp : List Int) : (strPend p inp).length ≤ inp.length := by unfold strPend; rw [List.length_drop]; omega
theorem strPend_pos (p : Int → Bool) {inp : List Int} (h : 0 < inp.length) : 0 < (strPend p inp).length := by
  have := (lastBd_spec p inp.length inp rfl).2.1
  unfold strPend
  rw [List.length_drop]
  omega
theorem wrPend_length (p : Int → Bool) (pend text : List Int) : (wrPend p pend text).length ≤ pend.length + text.length := by unfold wrPend; rw [List.length_drop, List.length_append]; omega
theorem strPend_suffix (p : Int → Bool) (inp : List Int) : inp.drop (inp.length - (strPend p inp).length) = strPend p inp := by
  have := (lastBd_spec p inp.length inp rfl).1
  unfold strPend
  rw [List.length_drop]
  congr 1
  omega
theorem strPend_bound {p : Int → Bool} {inp : List Int} {k : Nat} {x : Int} (hx : (strPend p inp)[k]? = some x) : (0 < k → p x = false) ∧ (k = 0 → (strPend p inp).length < inp.length → p x = true) := by
  obtain ⟨h1, h2, h3, h4⟩ := lastBd_spec p inp.length inp rfl
  unfold strPend at hx ⊢
  rw [List.getElem?_drop] at hx
  refine ⟨fun hk => h4 _ x (by omega) hx, fun hk hl => ?_⟩
  subst hk
  rw [List.length_drop] at hl
  rcases h3 with h0 | ⟨c, r, hc, hp⟩
  · omega
  · have : inp[lastBd p inp]? = some c := by
      have := congrArg (fun l => l[0]?) hc
      simpa [List.getElem?_drop] using this
    rw [Nat.add_zero, this] at hx
    injection hx with hx
    rw [← hx]; exact hp
theorem joinN_98 : fullOf (usableN joinN).decomp false 98 = [98] := full_alone joinN_full (by decide +kernel)
theorem joinN_c98 : classOf (usableN joinN).classes 98 = 0 := by rw [joinN_usable]; decide +kernel
theorem joinN_b98 : boundB joinN 1 98 = true := by
  unfold boundB
  rw [if_neg (by omega), show cpOf 1 = false by decide, joinN_98]
  simp [joinN_c98, joinN_second (x := 98) (by decide +kernel) (by decide)]
theorem joinN_f98 : formOf joinN 1 [98] = [98] := by
  have : textOf joinN false [98] = [98] := by
    rw [textOf_eq, textE_eq]
    simp only [List.flatMap_cons, List.flatMap_nil, joinN_98, List.append_nil]
    exact sort_lone 98
  rw [formOf_1, this]
  unfold compN
  rw [joinN_usable]
  decide +kernel
theorem awake_k1 : wrK (boundB joinN 1) [] [97] = 0 := by simp [wrK, lastBd, bnds, joinN_b97]
theorem awake_k2 : wrK (boundB joinN 1) [97] [770, 98] = 2 := by simp [wrK, lastBd, bnds, joinN_b770, joinN_b98]
theorem awake_p1 : wrPend (boundB joinN 1) [] [97] = [97] := by unfold wrPend; rw [awake_k1]; rfl
theorem awake_o1 : wrOut joinN 1 [] [97] = [] := by unfold wrOut; rw [awake_k1]; exact form_nil joinN 1
theorem awake_p2 : wrPend (boundB joinN 1) [97] [770, 98] = [98] := by unfold wrPend; rw [awake_k2]; rfl
theorem awake_o2 : wrOut joinN 1 [97] [770, 98] = [226] := by unfold wrOut; rw [awake_k2]; exact joinN_f1
def limN : Nrm := ⟨[⟨770, 770, 230⟩], [], []⟩
theorem limN_check : decCheck limN = 0 := by decide +kernel
theorem limN_usable : usableN limN = limN := if_pos limN_check
theorem limN_b770 : boundB limN 2 770 = false := by
  have h : FullEq [] false (fullOf (usableN limN).decomp false) := by
    have := usableN_full limN false
    rw [limN_usable] at this ⊢
    exact this
  have h1 : fullOf (usableN limN).decomp false 770 = [770] := full_alone h (by decide +kernel)
  have h2 : classOf (usableN limN).classes 770 ≠ 0 := by rw [limN_usable]; decide +kernel
  unfold boundB
  rw [if_neg (by omega), show cpOf 2 = false by decide, h1]
  simp [h2]
theorem bnds_rep {p : Int → Bool} {x : Int} (h : p x = false) : ∀ (k i : Nat), bnds p i (List.replicate k x) = []
  | 0, _ => rfl
  | k + 1, i => by rw [List.replicate_succ, bnds, if_neg (by simp [h]), bnds_rep h k]
theorem lim_k (pend : List Int) (k : Nat) : wrK (boundB limN 2) pend (List.replicate k 770) = 0 := by unfold wrK; rw [if_pos (bnds_rep limN_b770 k 0)]
theorem lim_pend (pend : List Int) (k : Nat) : wrPend (boundB limN 2) pend (List.replicate k 770) = pend ++ List.replicate k 770 := by unfold wrPend; rw [lim_k]; rfl
theorem lim_out (pend : List Int) (k : Nat) : wrOut limN 2 pend (List.replicate k 770) = [] := by unfold wrOut; rw [lim_k]; exact form_nil limN 2
end Go.Proofs.YtomgchfjachedaaGreatDoor
namespace Go.Proofs.YtomgchfjachedaaGreatDoor
open Go Go.RowKit
def Cov (w w' : World) : Prop := ∀ p v, w.cell? p = some v → w'.cell? p = some v
theorem Sl.cov {α : Type} {k : Nat} {enc : α → List Value} {w w' : World} {A : Option Addr} {n : Nat} {xs : List α} (h : Sl k enc w A n xs) (hk : Cov w w') : Sl k enc w' A n xs :=
  ⟨h.1, fun hn => by
    obtain ⟨b, off, e, hc⟩ := h.2 hn
    exact ⟨b, off, e, fun i x hx j u hu => hk _ _ (hc i x hx j u hu)⟩⟩
theorem Mps.cov {w w' : World} {A : Option Addr} {n : Nat} {l : List Mp} (h : Mps w A n l) (hk : Cov w w') : Mps w' A n l :=
  ⟨h.1, fun hn => by
    obtain ⟨b, off, e, hc⟩ := h.2 hn
    refine ⟨b, off, e, fun i m hm => ?_⟩
    obtain ⟨A', n', c', hle, hI, h0, h1, h2⟩ := hc i m hm
    exact ⟨A', n', c', hle, hI.cov hk, hk _ _ h0, hk _ _ h1, hk _ _ h2⟩⟩
theorem NormAt.cov {w w' : World} {s : Sls} {n : Nrm} (h : NormAt w s n) (hk : Cov w w') : NormAt w' s n :=
  ⟨h.hc, h.hm, h.he, h.bc, h.bm, h.be, h.cls.cov hk, h.dec.cov hk, h.exc.cov hk, h.to⟩
def blank (B : Nat) (w : World) : World := { w with heap := w.heap.mapIdx fun i o => if i < B then .deferred none else o }
theorem blank_cell {B : Nat} {w : World} {p : Addr} {v : Value} (h : (blank B w).cell? p = some v) : w.cell? p = some v ∧ B ≤ p.block := by
  unfold World.cell? blank at h
  simp only [Array.getElem?_mapIdx] at h
  by_cases hp : p.block < B
  · cases hb : w.heap[p.block]? <;> simp [hb, hp] at h
  · refine ⟨?_, by omega⟩
    unfold World.cell?
    cases hb : w.heap[p.block]? <;> simp [hb, hp] at h ⊢
    exact h
theorem cell_blank {B : Nat} {w : World} {p : Addr} {v : Value} (h : w.cell? p = some v) (hp : B ≤ p.block) : (blank B w).cell? p = some v := by
  unfold World.cell? at h ⊢
  unfold blank
  simp only [Array.getElem?_mapIdx]
  have hp' : ¬ p.block < B := by omega
  cases hb : w.heap[p.block]? <;> simp [hb, hp'] at h ⊢
  exact h
def FarA (B : Nat) (A : Option Addr) : Prop := ∀ a, A = some a → B ≤ a.block
theorem Sl.blank {α : Type} {k : Nat} {enc : α → List Value} {B : Nat} {w : World} {A : Option Addr} {n : Nat} {xs : List α} (h : Sl k enc w A n xs) (hA : FarA B A) : Sl k enc (blank B w) A n xs :=
  ⟨h.1, fun hn => by
    obtain ⟨b, off, e, hc⟩ := h.2 hn
    have hb := hA _ e
    exact ⟨b, off, e, fun i x hx j u hu => cell_blank (hc i x hx j u hu) hb⟩⟩
def MpsFar (B : Nat) (w : World) (A : Option Addr) (n : Nat) (l : List Mp) : Prop :=
  n = l.length ∧ FarA B A ∧ (0 < n → ∃ b off, A = some ⟨b, off, none⟩ ∧ ∀ i m, l[i]? = some m → ∃ A' n' c', n' ≤ c' ∧ FarA B A' ∧ Ints w A' n' m.to ∧
    w.cell? ⟨b, off + i * 3, none⟩ = some (.int .i64 m.src) ∧ w.cell? ⟨b, off + i * 3 + 1, none⟩ = some (.slice A' n' c') ∧ w.cell? ⟨b, off + i * 3 + 2, none⟩ = some (.string m.tag))
theorem MpsFar.blank {B : Nat} {w : World} {A : Option Addr} {n : Nat} {l : List Mp} (h : MpsFar B w A n l) : Mps (blank B w) A n l :=
  ⟨h.1, fun hn => by
    obtain ⟨b, off, e, hc⟩ := h.2.2 hn
    have hb : B ≤ b := h.2.1 _ e
    refine ⟨b, off, e, fun i m hm => ?_⟩
    obtain ⟨A', n', c', hle, hf, hI, h0, h1, h2⟩ := hc i m hm
    exact ⟨A', n', c', hle, hI.blank hf, cell_blank h0 hb, cell_blank h1 hb, cell_blank h2 hb⟩⟩
theorem OwnI.blockOf {w : World} {base g : Nat} {v : Value} {xs : List Int} (h : OwnI w base v xs) (hg : v.ownBlock = some g) : ∃ cur, w.heap[g]? = some (.cells cur 3 (0, 0)) := by
  rcases h.2 with ⟨rfl, _⟩ | ⟨g', cap, cur, rfl, _, hgg, _⟩
  · cases hg
  · simp only [Value.ownBlock, Option.some.injEq] at hg
    subst hg
    exact ⟨cur, hgg⟩
theorem own_block {w w' : World} {base : Nat} {v : Value} {xs : List Int} (h : OwnI w base v xs) (hb : ∀ g, v.ownBlock = some g → w'.heap[g]? = w.heap[g]?) : OwnI w' base v xs := by
  refine ⟨h.1, ?_⟩
  rcases h.2 with hn | ⟨g, cap, cur, rfl, hbb, hgg, rest⟩
  · exact .inl hn
  · exact .inr ⟨g, cap, cur, rfl, hbb, (hb g rfl).trans hgg, rest⟩
structure StrIn (w : World) (B0 b : Nat) (n : Nrm) (form : Int) (pend : List Int) (s : Sls) (wd : World) (pv : Value) (F : Nat → Prop) : Prop where
  cell : w.heap[b]? = some (.cells #[pv, .slice s.Ac s.nc s.cc, .slice s.Am s.nm s.cm, .slice s.Ae s.ne s.ce, .int .i64 form, .bool true] 51 (0, 0))
  own : OwnI w 0 pv pend
  nat : NormAt wd s n
  cov : ∀ p v, wd.cell? p = some v → w.cell? p = some v ∧ F p.block ∧ p.block ≠ b ∧ pv.ownBlock ≠ some p.block
  hb : F b
  hp : ∀ g, pv.ownBlock = some g → F g
  lt : ∀ i, F i → B0 ≤ i ∧ i < w.heap.size
def StrAt (w : World) (B0 b : Nat) (n : Nrm) (form : Int) (pend : List Int) (F : Nat → Prop) : Prop := ∃ s wd pv, StrIn w B0 b n form pend s wd pv F
def StrOff (w : World) (b : Nat) : Prop := w.heap[b]? = some (.cells #[.slice none 0 0, .slice none 0 0, .slice none 0 0, .slice none 0 0, .int .i64 0, .bool false] 51 (0, 0))
section
variable {w w' : World} {B0 b : Nat} {n : Nrm} {form : Int} {pend : List Int} {s : Sls} {wd : World} {pv : Value} {F : Nat → Prop}
theorem StrIn.at_ (h : StrIn w B0 b n form pend s wd pv F) : NormAt w s n := h.nat.cov (fun p v hc => (h.cov p v hc).1)
theorem StrIn.ne (h : StrIn w B0 b n form pend s wd pv F) : ∀ g, pv.ownBlock = some g → g ≠ b := fun g hg e => by
  obtain ⟨cs, hc⟩ := h.own.blockOf hg
  subst e
  rw [h.cell] at hc
  simp at hc
theorem StrIn.but {S : List Nat} (h : StrIn w B0 b n form pend s wd pv F) (hk : KeptBut S w w') (hS : ∀ i ∈ S, ¬ F i) : StrIn w' B0 b n form pend s wd pv F := by
  have hblk : ∀ i, F i → w'.heap[i]? = w.heap[i]? := fun i hi => hk.block i (h.lt i hi).2 (fun hm => hS i hm hi)
  refine ⟨(hblk b h.hb).trans h.cell, own_block h.own (fun g hg => hblk g (h.hp g hg)), h.nat, fun p v hc => ?_, h.hb, h.hp, fun i hi => ⟨(h.lt i hi).1, Nat.lt_of_lt_of_le (h.lt i hi).2 hk.size⟩⟩
  obtain ⟨h1, h2, h3⟩ := h.cov p v hc
  exact ⟨(World.cell?_of_block (hblk _ h2)).trans h1, h2, h3⟩
theorem StrIn.kept (h : StrIn w B0 b n form pend s wd pv F) (hk : Kept w w') : StrIn w' B0 b n form pend s wd pv F := h.but (hk.but []) (fun i hi => by cases hi)
theorem StrAt.but {S : List Nat} (h : StrAt w B0 b n form pend F) (hk : KeptBut S w w') (hS : ∀ i ∈ S, ¬ F i) : StrAt w' B0 b n form pend F := by
  obtain ⟨s, wd, pv, h⟩ := h
  exact ⟨s, wd, pv, h.but hk hS⟩
theorem StrAt.kept (h : StrAt w B0 b n form pend F) (hk : Kept w w') : StrAt w' B0 b n form pend F := h.but (hk.but []) (fun i hi => by cases hi)
theorem StrAt.lt (h : StrAt w B0 b n form pend F) : ∀ i, F i → B0 ≤ i ∧ i < w.heap.size := by obtain ⟨s, wd, pv, h⟩ := h; exact h.lt
theorem StrAt.hb (h : StrAt w B0 b n form pend F) : F b := by obtain ⟨s, wd, pv, h⟩ := h; exact h.hb
end
end Go.Proofs.YtomgchfjachedaaGreatDoor
namespace Go.Proofs.YtomgchfjachedaaGreatDoor
open Go Go.RowKit
theorem Tab.at_ {w : World} {B : Option Addr} {m : Nat} {T : List (List Int)} (h : Tab w B m T) {i : Nat} (hi : i < m) :
    ∃ b off X A k c, B = some ⟨b, off, none⟩ ∧ T[i]? = some X ∧ w.cell? ⟨b, off + i, none⟩ = some (.slice A k c) ∧ k ≤ c ∧ Ints w A k X := by
  obtain ⟨b, off, e, hc⟩ := h.2 (by omega)
  obtain ⟨X, hX⟩ := getElem?_some_of_lt (l := T) (k := i) (by rw [← h.1]; exact hi)
  obtain ⟨A, k, c, h1, h2, h3⟩ := hc i X hX
  exact ⟨b, off, X, A, k, c, e, hX, h1, h2, h3⟩
def dropA (A : Option Addr) (m k : Nat) : Option Addr := if m = k then A else A.map (·.add k)
theorem Ints.drop_ {w : World} {A : Option Addr} {n k m : Nat} {xs : List Int} (h : Ints w A n xs) (hk : k ≤ n) (hm : n ≤ m) : Ints w (dropA A m k) (n - k) (xs.drop k) := by
  refine ⟨by rw [List.length_drop]; have := h.1; omega, fun h0 => ?_⟩
  obtain ⟨b, off, e, hc⟩ := h.2 (by omega)
  refine ⟨b, off + k, ?_, fun i x hx j u hu => ?_⟩
  · unfold dropA
    rw [if_neg (by omega), e]
    simp only [Option.map_some, Addr.add]
    split <;> simp_all
  · rw [List.getElem?_drop] at hx
    have := hc (k + i) x hx j u hu
    rw [show off + k + i * 1 + j = off + (k + i) * 1 + j by omega]
    exact this
theorem Ints.front_ {w : World} {A : Option Addr} {n q : Nat} {xs : List Int} (h : Ints w A n xs) (hq : q ≤ n) : Ints w A q (xs.take q) :=
  ⟨by rw [List.length_take]; have := h.1; omega, fun h0 => by
    obtain ⟨b, off, e, hc⟩ := h.2 (by omega)
    refine ⟨b, off, e, fun i x hx j u hu => hc i x ?_ j u hu⟩
    rw [List.getElem?_take] at hx
    split at hx
    · exact hx
    · cases hx⟩
theorem und_ints : Tryz.prog.underlying 40 = some (.slice (Tryz.prog.elem 40)) := by kernel_rfl
theorem size_int (w : World) : (sizeOf (Tryz.prog.elem 40)).run Tryz.prog w = .ok 1 w := by kernel_rfl
theorem run_drop1 (A : Option Addr) (n c k : Nat) (hk : k ≤ n) (w : World) :
    (Instr.slice 40 (.slice A n c) (some (.int .i64 (k : Int))) none none).run Tryz.prog w = .ok (.slice (dropA A c k) (n - k) (c - k)) w := by
  rw [run_slice_l w 40 A n c und_ints .i64 _ (by omega) (by omega), size_int]
  simp [Result.andThen, sliced, dropA]
theorem run_take1 (A : Option Addr) (n c k : Nat) (hk : k ≤ c) (w : World) :
    (Instr.slice 40 (.slice A n c) none (some (.int .i64 (k : Int))) none).run Tryz.prog w = .ok (.slice A k c) w := by
  rw [run_slice_h w 40 A n c und_ints .i64 _ (by omega) (by omega), size_int]
  simp only [Result.andThen, sliced, Int.toNat_natCast, Nat.sub_zero]
  split
  · rfl
  · cases A with
    | none => rfl
    | some a => simp [Addr.add]
theorem Ints.sets {w : World} {b : Nat} {A : Option Addr} {n : Nat} {xs : List Int} (h : Ints w A n xs) (hne : ∀ a, A = some a → a.block ≠ b) (i : Nat) (v : Value) : Ints (w.setCell ⟨b, i, none⟩ v) A n xs :=
  ⟨h.1, fun hn => by
    obtain ⟨b1, o1, e, hc⟩ := h.2 hn
    refine ⟨b1, o1, e, fun i2 x hx j u hu => ?_⟩
    have h1 := hc i2 x hx j u hu
    have hb := hne _ e
    simp only at hb
    rw [← h1]
    refine World.cell?_of_block ?_
    simp only [World.setCell]
    rw [Array.getElem?_modify, if_neg (fun e2 => hb e2.symm)]⟩
end Go.Proofs.YtomgchfjachedaaGreatDoor
namespace Go.Proofs.YtomgchfjachedaaGreatDoor
noncomputable def jFrom (n : Nrm) (form : Int) (a : List Int) : Nat := lastBd (boundB n form) a
end Go.Proofs.YtomgchfjachedaaGreatDoor
namespace Go.Proofs.YtomgchfjachedaaGreatDoor
open Go Go.RowKit
theorem bndI_last {n : Nrm} {form : Int} {t : List Int} {k : Nat} {x : Int} (hl : (bndI n form t).length = k + 1) (hx : (bndI n form t)[k]? = some x) : x = (jFrom n form t : Nat) := by
  unfold bndI at hl hx
  rw [List.length_map] at hl
  rw [List.getElem?_map] at hx
  unfold jFrom lastBd
  cases hb : (bnds (boundB n form) 0 t)[k]? with
  | none => rw [hb] at hx; cases hx
  | some y =>
    rw [hb] at hx
    injection hx with hx
    rw [List.getLastD_eq_getLast?, List.getLast?_eq_getElem?, hl, Nat.add_sub_cancel, hb]
    exact hx.symm
theorem bndI_length (n : Nrm) (form : Int) (t : List Int) : (bndI n form t).length ≤ t.length := by
  unfold bndI
  rw [List.length_map]
  exact bnds_length _ _ _
end Go.Proofs.YtomgchfjachedaaGreatDoor
namespace Go.Proofs.YtomgchfjachedaaGreatDoor
open Go Go.RowKit
theorem r20Starter (A : Option Addr) (n c : Nat) (l : List Span) (x : Int) (w : World) (hn : n ≤ 1000) (hl : Spans w A n l) :
    Calls Tryz.prog 109 #[.slice A n c, .int .i64 x] w (RetB w (classOf (usableSpans l) x == 0)) := by
  have HC := Lib.hid (r20Class A n c l x w hn hl)
  clear hl
  generalize classOf (usableSpans l) x = k at *
  go_enter Tryz.func109, Tryz.ntmps109
  go_wp2_with fail
  refine HC.out.mono ?_
  rintro e w1 ⟨rfl, k1⟩
  go_wp2_with fail
  go_ret
  exact ⟨rfl, k1⟩
theorem own_nil {w : World} {base g : Nat} (h : w.heap[g]? = some (.cells #[] 3 (0, 0))) (hb : base ≤ g) : OwnI w base (.slice (some ⟨g, 0, none⟩) 0 0) [] :=
  ⟨rfl, .inr ⟨g, 0, #[], rfl, hb, h, Nat.le_refl _, Nat.zero_le _, rfl, rfl⟩⟩
end Go.Proofs.YtomgchfjachedaaGreatDoor
