/- What is touched; the memory of any words. -/
import Derived.Test.YtgjcniokgdicpaaGreatDoorRowB
import Derived.Test.YtgjcniokgdicpaaGreatDoorWs
import Derived.IntWalk
namespace Go.Proofs.YtgjcniokgdicpaaGreatDoor
open Go.RowKit
attribute [local go_sem] Oper.semAt_some

/-- All blocks but some stay as they are. -/
structure Tch (T : Nat → Prop) (w w' : World) : Prop where
  os : w'.os = w.os
  tape : w'.tape = w.tape
  output : w'.output = w.output
  size : w.heap.size ≤ w'.heap.size
  block : ∀ k, k < w.heap.size → ¬ T k → w'.heap[k]? = w.heap[k]?
section
variable {T T' : Nat → Prop} {a w w' : World}
theorem Tch.refl (T : Nat → Prop) (w : World) : Tch T w w := ⟨rfl, rfl, rfl, Nat.le_refl _, fun _ _ _ => rfl⟩
theorem Tch.trans (h : Tch T a w) (k : Tch T w w') : Tch T a w' := ⟨k.os.trans h.os, k.tape.trans h.tape, k.output.trans h.output, Nat.le_trans h.size k.size, fun i hi hn => (k.block i (Nat.lt_of_lt_of_le hi h.size) hn).trans (h.block i hi hn)⟩
theorem Tch.mono (h : Tch T a w) (hT : ∀ k, k < a.heap.size → T k → T' k) : Tch T' a w := ⟨h.os, h.tape, h.output, h.size, fun i hi hn => h.block i hi fun ht => hn (hT i hi ht)⟩
/-- What comes behind may touch what is new. -/
theorem Tch.new (h : Tch T a w) (k : Tch T' w w') (hT : ∀ k, k < a.heap.size → T' k → T k) : Tch T a w' := ⟨k.os.trans h.os, k.tape.trans h.tape, k.output.trans h.output, Nat.le_trans h.size k.size, fun i hi hn => (k.block i (Nat.lt_of_lt_of_le hi h.size) fun ht => hn (hT i hi ht)).trans (h.block i hi hn)⟩
theorem Tch.of_below (T : Nat → Prop) (h : Below w.heap.size w w') : Tch T w w' := ⟨h.os, h.tape, h.output, h.size, fun k hk _ => h.block k hk⟩
theorem Tch.below (h : Tch T w w') {N : Nat} (hN : N ≤ w.heap.size) (hT : ∀ k, k < w.heap.size → T k → N ≤ k) : Below N w w' := ⟨h.os, h.tape, h.output, h.size, fun k hk => h.block k (Nat.lt_of_lt_of_le hk hN) fun ht => absurd (hT k (Nat.lt_of_lt_of_le hk hN) ht) (by omega)⟩
theorem Tch.drew (h : Tch T a w) : Tch T a w.drew := ⟨h.os, h.tape, h.output, h.size, h.block⟩
theorem Tch.drewN (h : Tch T a w) (n : Nat) : Tch T a (w.drewN n) := ⟨h.os, h.tape, h.output, h.size, h.block⟩
theorem Tch.alloc (h : Tch T a w) (o : Obj) : Tch T a (w.alloc o) := h.trans (Tch.of_below T ((Below.refl _ w).alloc (Nat.le_refl _) o))
theorem Tch.set (h : Tch T a w) {b : Nat} (hb : T b) (j : Nat) (v : Value) : Tch T a (w.setCell ⟨b, j, none⟩ v) := ⟨h.os, h.tape, h.output, by rw [size_set]; exact h.size, fun k hk hn => (heap_set w b j v k fun e => hn (by rw [e]; exact hb)).trans (h.block k hk hn)⟩
theorem Tch.setNew (h : Tch T a w) {b : Nat} (hb : a.heap.size ≤ b) (j : Nat) (v : Value) : Tch T a (w.setCell ⟨b, j, none⟩ v) := ⟨h.os, h.tape, h.output, by rw [size_set]; exact h.size, fun k hk hn => (heap_set w b j v k (by omega)).trans (h.block k hk hn)⟩
theorem Tch.row (h : Tch T a w) {b : Nat} (hb : T b) (cs : Array Value) : Tch T a (w.setRow b cs) := ⟨h.os, h.tape, h.output, by rw [setRow_size]; exact h.size, fun k hk hn => (setRow_other _ _ _ _ (fun e => hn (by rw [e]; exact hb))).trans (h.block k hk hn)⟩
theorem Tch.rowNew (h : Tch T a w) {b : Nat} (hb : a.heap.size ≤ b) (cs : Array Value) : Tch T a (w.setRow b cs) := ⟨h.os, h.tape, h.output, by rw [setRow_size]; exact h.size, fun k hk hn => (setRow_other _ _ _ _ (by omega)).trans (h.block k hk hn)⟩
theorem RowB.tch {n : Nat} {arr : Array Value} {t : TypeId} (h : RowB w n arr t) (hk : Tch T w w') (hn : ¬ T n) : RowB w' n arr t := (hk.block n h.lt hn).trans h
theorem Tch.cell (hk : Tch T w w') {b o : Nat} {v : Value} (h : w.cell? ⟨b, o, none⟩ = some v) (hn : ¬ T b) : w'.cell? ⟨b, o, none⟩ = some v := by
  have hl := cell_lt h
  unfold World.cell? at *
  rw [hk.block b hl hn]
  exact h
theorem own_tch {α : Type} {E : Enc α} {t : TypeId} {base : Nat} {v : Value} {l : List α} (h : Own E t base w v l) (hk : Tch T w w') (hn : ∀ b, v.ownBlock = some b → ¬ T b) : Own E t base w' v l := by
  refine ⟨h.1, ?_⟩
  rcases h.2 with h2 | ⟨g, cap, cur, hv, hg, hh, r⟩
  · exact .inl h2
  · exact .inr ⟨g, cap, cur, hv, hg, (hk.block g (Array.getElem?_eq_some_iff.1 hh).1 (hn g (by rw [hv]; rfl))).trans hh, r⟩
theorem grown_tch {row : Option Nat} (hg : w.grownBy w' row) (hT : ∀ k, row = some k → T k) : Tch T w w' := ⟨hg.os, hg.tape, hg.output, hg.size, fun k hk hn => hg.block k hk (fun e => hn (hT k e.symm))⟩
end
/-- A cell of an own row is written. -/
theorem own_put {q : IntKind} {t : TypeId} {base g n c : Nat} {w : World} {l : List Int} (h : Own (ints q) t base w (.slice (some ⟨g, 0, none⟩) n c) l) {i : Nat} (hi : i < l.length) (z : Int) : Own (ints q) t base (w.setCell ⟨g, i, none⟩ (.int q z)) (.slice (some ⟨g, 0, none⟩) n c) (l.set i z) := by
  have hall : ∀ l : List Int, (ints q).all l = l.map (Value.int q) := fun l => of1_all _ _ l
  have h1 := h.1
  unfold Own at *
  rw [hall] at h1 ⊢
  rw [hall] at h
  refine ⟨by simp [ints, Enc.of1], ?_⟩
  rcases h.2 with ⟨h2, _⟩ | ⟨g', cap, cur, hv, hg, hh, hcap, hmax, hsz, htk⟩
  · cases h2
  · injection hv with hA hn hc
    injection hA with hA
    injection hA with hA
    subst hA hn hc
    refine .inr ⟨g, c, cur.setIfInBounds i (.int q z), by simp, hg, RowB.set (w := w) (n := g) (arr := cur) (t := t) hh i _, by simpa using hcap, hmax, by simpa using hsz, ?_⟩
    have hs1 : (ints q).size = 1 := rfl
    rw [hs1, Nat.mul_one] at htk
    have htl := htk
    rw [hs1, Nat.mul_one, List.length_set, Array.toList_setIfInBounds, List.take_set, htl, List.map_set]
def W32 (l : List Int) : Prop := ∀ z ∈ l, 0 ≤ z ∧ z < 4294967296
theorem W32.set {l : List Int} (h : W32 l) (i : Nat) {z : Int} (hz : 0 ≤ z ∧ z < 4294967296) : W32 (l.set i z) := fun x hx => by
  rcases List.mem_or_eq_of_mem_set hx with q | q
  · exact h x q
  · rw [q]; exact hz
theorem W32.get {l : List Int} (h : W32 l) {i : Nat} {z : Int} (hz : l[i]? = some z) : 0 ≤ z ∧ z < 4294967296 := h z (List.mem_of_getElem? hz)
theorem W32.wf {l : List Int} (h : W32 l) : ∀ z ∈ l, (Lit.int .u32 z).wf = true := fun z hz => by
  have := h z hz
  simp [Lit.wf, IntKind.min, IntKind.max, IntKind.signed, IntKind.bits]
  omega
/-- A memory of these words. -/
def MemG (w : World) (mb lb : Nat) (l : List Int) : Prop := ∃ (k : Int) (c : Nat), RowB w mb #[.slice (some ⟨lb, 0, none⟩) l.length c, .int .i64 k] 125 ∧ Own (ints .u32) 32 0 w (.slice (some ⟨lb, 0, none⟩) l.length c) l ∧ lb ≠ mb ∧ l.length ≤ 1000000 ∧ W32 l
theorem MemG.w32 {w : World} {mb lb : Nat} {l : List Int} (h : MemG w mb lb l) : W32 l := by
  obtain ⟨_, _, _, _, _, _, h⟩ := h
  exact h
theorem MemG.len {w : World} {mb lb : Nat} {l : List Int} (h : MemG w mb lb l) : l.length ≤ 1000000 := by
  obtain ⟨_, _, _, _, _, h, _⟩ := h
  exact h
theorem MemG.tch {T : Nat → Prop} {w w' : World} {mb lb : Nat} {l : List Int} (h : MemG w mb lb l) (hk : Tch T w w') (h1 : ¬ T mb) (h2 : ¬ T lb) : MemG w' mb lb l := by
  obtain ⟨k, c, hr, ho, hn, hl, hz⟩ := h
  exact ⟨k, c, hr.tch hk h1, own_tch ho hk (fun b hb => by have : lb = b := Option.some.inj hb; rw [← this]; exact h2), hn, hl, hz⟩
theorem own_cell {q : IntKind} {t : TypeId} {base g n c : Nat} {w : World} {l : List Int} (h : Own (ints q) t base w (.slice (some ⟨g, 0, none⟩) n c) l) {i : Nat} {z : Int} (hz : l[i]? = some z) : w.cell? ⟨g, i, none⟩ = some (.int q z) := by
  obtain ⟨A, c', hv, _, _, hsl⟩ := h.sl
  injection hv with hA _ _
  obtain ⟨b, off, hA2, _, hc⟩ := hsl i z hz
  have := hc 0 _ rfl
  rw [← hA] at hA2
  injection hA2 with hA2
  injection hA2 with h1 h2
  subst h1 h2
  simpa [ints, Enc.of1] using this
theorem own_row {α : Type} {E : Enc α} {t : TypeId} {base g n c : Nat} {w : World} {l : List α} (h : Own E t base w (.slice (some ⟨g, 0, none⟩) n c) l) : ∃ cur, RowB w g cur t := by
  rcases h.2 with ⟨h2, _⟩ | ⟨g', cap, cur, hv, hg, hh, _⟩
  · cases h2
  · injection hv with hA _ _
    injection hA with hA
    injection hA with hA
    subst hA
    exact ⟨cur, hh⟩
theorem own_frozen {α : Type} {E : Enc α} {t : TypeId} {base g n c : Nat} {w : World} {l : List α} (h : Own E t base w (.slice (some ⟨g, 0, none⟩) n c) l) (i : Nat) : w.frozen? ⟨g, i, none⟩ = false := by
  obtain ⟨cur, hr⟩ := own_row h
  exact hr.frozen i
set_option maxRecDepth 100000 in
set_option maxHeartbeats 1000000 in
theorem word_g (mb n c : Nat) (A : Nat) (k : Int) (at' : Int) (w : World) (hm : RowB w mb #[.slice (some ⟨A, 0, none⟩) n c, .int .i64 k] 125) (hl : n ≤ 1000000) (h0 : 0 ≤ at') (h1 : at' < n) :
    Calls Tryz.prog 142 #[.pointer (some ⟨mb, 0, none⟩), .int .i64 at'] w fun e w' => e = .returned (.tuple #[.pointer (some ⟨A, at'.toNat, none⟩), .int .i64 0]) ∧ w' = w.setCell ⟨mb, 1, none⟩ (.int .i64 (IntKind.i64.wrap (k + 1))) := by
  have c0 := (hm.cell 0).trans rfl
  have c1 := (hm.cell 1).trans rfl
  have cf := hm.frozen 1
  have d0 : decide (at' < 0) = false := decide_eq_false (by omega)
  have d1 : decide ((n : Int) ≤ at') = false := decide_eq_false (by omega)
  clear hm
  obtain ⟨k', hk'⟩ : ∃ x, IntKind.i64.wrap (k + 1) = x := ⟨_, rfl⟩
  rw [hk']
  go_enter Tryz.func142, Tryz.ntmps142
  go_wp2_with fail
  go_ret2
  exact ⟨rfl, rfl⟩

end Go.Proofs.YtgjcniokgdicpaaGreatDoor
