/- asm.guess: the instruction that a line may be of. -/
import Derived.Test.YtkcdmonmgnmojaaDoorAsmN
import Derived.Test.YtkcdmonmgnmojaaDoorAsmW
import Derived.Test.YtkcdmonmgnmojaaDoorSeqBox
import Derived.Test.YtkcdmonmgnmojaaDoorSplitC
import Derived.Deep.RegionHeld3
namespace Go.Proofs.YtkcdmonmgnmojaaDoor
open Go.RowKit

theorem setC_size (W : World) (a : Addr) (v : Value) : (W.setCell a v).heap.size = W.heap.size := by simp [World.setCell]
def nextV (nl ni : Nat) : Value := .func (.func 84) #[] #[.pointer (some ⟨ni + 1, 0, none⟩), .pointer (some ⟨nl, 0, none⟩)]
structure GSt (w0 : World) (nl ni : Nat) (ps : List (List UInt8)) (k : Nat) (e : Ins) (W : World) : Prop where
  hb : Below w0.heap.size w0 W
  hr : InBox W w0.heap.size Ins.zero
  hl : Boxed W nl 60 (.slice (some ⟨w0.heap.size + 1, 0, none⟩) ps.length ps.length)
  hs : ∀ (j : Nat) x, ps[j]? = some x → W.cell? ⟨w0.heap.size + 1, j, none⟩ = some (.string ⟨x.toArray⟩)
  hi : InBox W ni e
  ha : Boxed W (ni + 1) 3 (.int .i64 (k : Int))
  hx : Boxed W (ni + 1 + 1) 119 (nextV nl ni)
  hn : w0.heap.size + 1 < nl ∧ nl < ni
section
variable {w0 : World} {nl ni k : Nat} {ps : List (List UInt8)} {e : Ins} {W W' : World}
theorem GSt.lt (h : GSt w0 nl ni ps k e W) : ni + 1 + 1 < W.heap.size := h.hx.lt
theorem GSt.blocks (h : GSt w0 nl ni ps k e W) (hB : Below w0.heap.size w0 W') (hk : ∀ j, j ≤ ni + 1 + 1 → W'.heap[j]? = W.heap[j]?) : GSt w0 nl ni ps k e W' :=
  have hn := h.hn
  ⟨hB, (hk _ (by omega)).trans h.hr, (hk _ (by omega)).trans h.hl, fun j x hx => (World.cell?_of_block (a := ⟨w0.heap.size + 1, j, none⟩) (hk _ (by simp only; omega))).trans (h.hs j x hx), (hk _ (by omega)).trans h.hi, (hk _ (by omega)).trans h.ha, (hk _ (by omega)).trans h.hx, hn⟩
theorem GSt.below (h : GSt w0 nl ni ps k e W) (hb : Below W.heap.size W W') : GSt w0 nl ni ps k e W' :=
  h.blocks (h.hb.trans (hb.mono h.hb.size)) fun j hj => hb.block j (by have := h.lt; omega)
theorem GSt.drew (h : GSt w0 nl ni ps k e W) : GSt w0 nl ni ps k e W.drew := h.below (Below.refl _ W).drew
theorem GSt.step (h : GSt w0 nl ni ps k e W) (m : Nat) : GSt w0 nl ni ps m e (W.setCell ⟨ni + 1, 0, none⟩ (.int .i64 (m : Int))) :=
  have hn := h.hn
  have hk : ∀ j, j ≠ ni + 1 → (W.setCell ⟨ni + 1, 0, none⟩ (.int .i64 (m : Int))).heap[j]? = W.heap[j]? := fun j hj => Below.heap_setCell _ _ _ _ hj
  ⟨h.hb.setCell (p := ⟨ni + 1, 0, none⟩) (by simp only; omega) _, (hk _ (by omega)).trans h.hr, (hk _ (by omega)).trans h.hl, fun j x hx => (World.cell?_of_block (a := ⟨w0.heap.size + 1, j, none⟩) (hk _ (by simp only; omega))).trans (h.hs j x hx), (hk _ (by omega)).trans h.hi, h.ha.set _, (hk _ (by omega)).trans h.hx, hn⟩
theorem GSt.next (h : GSt w0 nl ni ps k e W) {m : Nat} (hb : Below W.heap.size (W.setCell ⟨ni + 1, 0, none⟩ (.int .i64 (m : Int))) W') : GSt w0 nl ni ps m e W' :=
  (h.step m).below (by rw [setC_size]; exact hb)
theorem GSt.put (h : GSt w0 nl ni ps k e W) {e' : Ins} (j : Nat) (v : Value) (hz : InBox (W.setCell ⟨ni, j, none⟩ v) ni e') : GSt w0 nl ni ps k e' (W.setCell ⟨ni, j, none⟩ v) :=
  have hn := h.hn
  have hk : ∀ i, i ≠ ni → (W.setCell ⟨ni, j, none⟩ v).heap[i]? = W.heap[i]? := fun i hi => Below.heap_setCell _ _ _ _ hi
  ⟨h.hb.setCell (p := ⟨ni, j, none⟩) (by simp only; omega) _, (hk _ (by omega)).trans h.hr, (hk _ (by omega)).trans h.hl, fun i x hx => (World.cell?_of_block (a := ⟨w0.heap.size + 1, i, none⟩) (hk _ (by simp only; omega))).trans (h.hs i x hx), hz, (hk _ (by omega)).trans h.ha, (hk _ (by omega)).trans h.hx, hn⟩
theorem GSt.putA (h : GSt w0 nl ni ps k e W) (v : Int) : GSt w0 nl ni ps k ⟨e.op, v, e.b, e.c, e.n⟩ (W.setCell ⟨ni, 1, none⟩ (.int .i64 v)) := h.put 1 _ (h.hi.setA v)
theorem GSt.putB (h : GSt w0 nl ni ps k e W) (v : Int) : GSt w0 nl ni ps k ⟨e.op, e.a, v, e.c, e.n⟩ (W.setCell ⟨ni, 2, none⟩ (.int .i64 v)) := h.put 2 _ (h.hi.setB v)
theorem GSt.putC (h : GSt w0 nl ni ps k e W) (v : Int) : GSt w0 nl ni ps k ⟨e.op, e.a, e.b, v, e.n⟩ (W.setCell ⟨ni, 3, none⟩ (.int .i64 v)) := h.put 3 _ (h.hi.setC v)
theorem GSt.putN (h : GSt w0 nl ni ps k e W) (v : Int) : GSt w0 nl ni ps k ⟨e.op, e.a, e.b, e.c, v⟩ (W.setCell ⟨ni, 4, none⟩ (.int .u32 v)) := h.put 4 _ (h.hi.setN v)
end

set_option maxHeartbeats 1000000 in
theorem next_any {w0 : World} {nl ni k : Nat} {ps : List (List UInt8)} {e : Ins} {W : World} (h : GSt w0 nl ni ps k e W) (hk : k ≤ 10) (hp : ∀ p ∈ ps, p.length ≤ 1000000) :
    Calls Tryd.prog 84 #[.pointer (some ⟨ni + 1, 0, none⟩), .pointer (some ⟨nl, 0, none⟩)] W fun r W' => r = .returned (.int .u32 (wordAt ps (k + 1))) ∧ Below W.heap.size (W.setCell ⟨ni + 1, 0, none⟩ (.int .i64 ((k + 1 : Nat) : Int))) W' := by
  have hn := h.hn
  have g1 := h.ha.cell
  have f1 := h.ha.frozen
  have hG := h.step (k + 1)
  have g2 := hG.ha.cell
  have g3 := hG.hl.cell
  have g4 := hG.hs
  have hwr : IntKind.i64.wrap ((k : Int) + 1) = ((k + 1 : Nat) : Int) := by simp [IntKind.wrap, IntKind.signed, IntKind.bits]; omega
  have hsz : (W.setCell ⟨ni + 1, 0, none⟩ (.int .i64 ((k + 1 : Nat) : Int))).heap.size = W.heap.size := setC_size _ _ _
  obtain ⟨X, hX⟩ : ∃ X, W.setCell ⟨ni + 1, 0, none⟩ (.int .i64 ((k + 1 : Nat) : Int)) = X := ⟨_, rfl⟩
  rw [hX] at g2 g3 g4 hsz ⊢
  have hX' : W.setCell ⟨ni + 1, 0, none⟩ (.int .i64 (k + 1 : Int)) = X := by rw [← hX]; rfl
  have g2' : X.cell? ⟨ni + 1, 0, none⟩ = some (.int .i64 ((k : Int) + 1)) := g2
  clear hG h
  unfold wordAt
  by_cases hlt : k + 1 < ps.length
  · rw [if_pos hlt]
    obtain ⟨p, hp'⟩ := get_some hlt
    have hpl := hp p (List.mem_of_getElem? hp')
    have g5 := g4 (k + 1) p hp'
    rw [List.getD_eq_getElem?_getD, hp']
    have hnum := anumber_any ⟨p.toArray⟩ X (by simp [ByteArray.size]; omega)
    rw [show (⟨p.toArray⟩ : ByteArray).data.toList = p from rfl] at hnum
    have hnum' := Lib.hid hnum
    have t1 : decide (((k + 1 : Nat) : Int) < (ps.length : Int)) = true := by rw [decide_eq_true_iff]; omega
    have t2 : decide (((k : Int) + 1) < (ps.length : Int)) = true := by rw [decide_eq_true_iff]; omega
    have k0 : (0 : Int) ≤ (k : Int) + 1 := by omega
    have k1 : (k : Int) + 1 < (ps.length : Int) := by omega
    have kt : ((k : Int) + 1).toNat = k + 1 := by omega
    clear hp g4 hnum hp' hX
    go_enter Tryd.func84, Tryd.ntmps84
    go_wp2_with fail
    refine hnum'.out.mono ?_
    rintro e w1 ⟨rfl, hb⟩
    go_wp2_with fail
    go_ret
    exact ⟨rfl, by rw [← hsz]; exact hb⟩
  · rw [if_neg hlt]
    have t1 : decide (((k + 1 : Nat) : Int) < (ps.length : Int)) = false := by rw [decide_eq_false_iff_not]; omega
    have t2 : decide (((k : Int) + 1) < (ps.length : Int)) = false := by rw [decide_eq_false_iff_not]; omega
    clear hp g4 hX
    go_enter Tryd.func84, Tryd.ntmps84
    go_wp2_with fail
    go_ret
    exact ⟨rfl, Below.refl _ _⟩
theorem small_any {w0 : World} {nl ni k : Nat} {ps : List (List UInt8)} {e : Ins} {W : World} (h : GSt w0 nl ni ps k e W) (hk : k ≤ 10) (hp : ∀ p ∈ ps, p.length ≤ 1000000) :
    Calls Tryd.prog 86 #[.pointer (some ⟨ni + 1 + 1, 0, none⟩)] W fun r W' => r = .returned (.int .i64 (wordAt ps (k + 1))) ∧ Below W.heap.size (W.setCell ⟨ni + 1, 0, none⟩ (.int .i64 ((k + 1 : Nat) : Int))) W' := by
  have g1 := h.hx.cell
  have hnx := Lib.hid (next_any h hk hp)
  have hbd := wordAt_bd ps (k + 1)
  have hwr : IntKind.i64.wrap (wordAt ps (k + 1)) = wordAt ps (k + 1) := by simp [IntKind.wrap, IntKind.signed, IntKind.bits]; omega
  unfold nextV at g1
  clear h hp
  go_enter Tryd.func86, Tryd.ntmps86
  go_wp2_with fail
  refine hnx.out.mono ?_
  rintro e w1 ⟨rfl, hb⟩
  go_wp2_with fail
  go_ret
  exact ⟨rfl, hb⟩

theorem InBox.set5 {W : World} {B : Nat} {e : Ins} (h : InBox W B e) (e' : Ins) : InBox (((((W.setCell ⟨B, 0, none⟩ (.int .i64 e'.op)).setCell ⟨B, 1, none⟩ (.int .i64 e'.a)).setCell ⟨B, 2, none⟩ (.int .i64 e'.b)).setCell ⟨B, 3, none⟩ (.int .i64 e'.c)).setCell ⟨B, 4, none⟩ (.int .u32 e'.n)) B e' := ((((h.setO e'.op).setA e'.a).setB e'.b).setC e'.c).setN e'.n
theorem below_set5 {N : Nat} {W W' : World} (h : Below N W W') (B : Nat) (hB : N ≤ B) (v0 v1 v2 v3 v4 : Value) : Below N W (((((W'.setCell ⟨B, 0, none⟩ v0).setCell ⟨B, 1, none⟩ v1).setCell ⟨B, 2, none⟩ v2).setCell ⟨B, 3, none⟩ v3).setCell ⟨B, 4, none⟩ v4) :=
  below_set (below_set (below_set (below_set (below_set h B 0 hB v0) B 1 hB v1) B 2 hB v2) B 3 hB v3) B 4 hB v4
theorem res_guess (tmps : Array Value) (w : World) {b : Nat} {e : Ins} (ha : tmps[2]?.getD undef = .pointer (some ⟨b, 0, none⟩)) (hbox : InBox w b e) :
    (results Tryd.f42 tmps).run Tryd.prog w = .ok (insV e) w := by
  obtain ⟨h0, h1, h2, h3, h4⟩ := hbox.cells
  simp [results, ha, h0, h1, h2, h3, h4, go_sem, insV]

theorem gst_start {w w1 w2 : World} {ps : List (List UInt8)} {op : Int} (hc : ∀ (j : Nat) x, ps[j]? = some x → w1.cell? ⟨w.heap.size + 1, j, none⟩ = some (.string ⟨x.toArray⟩)) (hb1 : Below (w.alloc (.cells #[.int .i64 0, .int .i64 0, .int .i64 0, .int .i64 0, .int .u32 0] 24)).heap.size (w.alloc (.cells #[.int .i64 0, .int .i64 0, .int .i64 0, .int .i64 0, .int .u32 0] 24)) w1) (hlt : w.heap.size + 1 < w1.heap.size)
    (hb2 : Below (w1.alloc (.cells #[.slice (some ⟨w.heap.size + 1, 0, none⟩) ps.length ps.length] 60)).heap.size (w1.alloc (.cells #[.slice (some ⟨w.heap.size + 1, 0, none⟩) ps.length ps.length] 60)) w2) :
    GSt w w1.heap.size w2.heap.size ps 0 ⟨op, 0, 0, 0, 0⟩ (((w2.alloc (.cells #[.int .i64 op, .int .i64 0, .int .i64 0, .int .i64 0, .int .u32 0] 24)).alloc (.cells #[.int .i64 0] 3)).alloc (.cells #[nextV w1.heap.size w2.heap.size] 119)) := by
  have s1 : w1.heap.size < w2.heap.size := by have := hb2.size; rw [World.size_alloc] at this; omega
  have hB1 : Below w.heap.size w w1 := ((Below.refl _ w).alloc (Nat.le_refl _) _).trans (hb1.mono (by simp))
  have hB2 : Below w.heap.size w w2 := (hB1.alloc hB1.size _).trans (hb2.mono (by rw [World.size_alloc]; have := hB1.size; omega))
  have k1 : ∀ j, j < w1.heap.size → w2.heap[j]? = w1.heap[j]? := fun j hj => (hb2.block j (by rw [World.size_alloc]; omega)).trans (Below.heap_alloc _ _ _ hj)
  have k3 : ∀ (o1 o2 o3 : Obj) j, j < w2.heap.size → (((w2.alloc o1).alloc o2).alloc o3).heap[j]? = w2.heap[j]? := fun o1 o2 o3 j hj => by
    rw [Below.heap_alloc _ _ _ (by simp only [World.size_alloc]; omega), Below.heap_alloc _ _ _ (by simp only [World.size_alloc]; omega), Below.heap_alloc _ _ _ hj]
  have hr0 : InBox w1 w.heap.size Ins.zero := (hb1.block _ (by rw [World.size_alloc]; omega)).trans (heap_alloc_new w _)
  have hl0 : Boxed w2 w1.heap.size 60 (.slice (some ⟨w.heap.size + 1, 0, none⟩) ps.length ps.length) := (hb2.block _ (by rw [World.size_alloc]; omega)).trans (heap_alloc_new w1 _)
  refine ⟨((hB2.alloc hB2.size _).alloc (by rw [World.size_alloc]; have := hB2.size; omega) _).alloc (by simp only [World.size_alloc]; have := hB2.size; omega) _, ?_, ?_, ?_, ?_, ?_, ?_, hlt, s1⟩
  · exact (k3 _ _ _ _ (by omega)).trans ((k1 _ (by omega)).trans hr0)
  · exact (k3 _ _ _ _ (by omega)).trans hl0
  · intro j x hx
    exact (World.cell?_of_block (a := ⟨w.heap.size + 1, j, none⟩) ((k3 _ _ _ _ (by simp only; omega)).trans (k1 _ hlt))).trans (hc j x hx)
  · unfold InBox
    rw [Below.heap_alloc _ _ _ (by simp only [World.size_alloc]; omega), Below.heap_alloc _ _ _ (by simp only [World.size_alloc]; omega)]
    exact heap_alloc_new w2 _
  · unfold Boxed
    rw [Below.heap_alloc _ _ _ (by simp only [World.size_alloc]; omega)]
    have := heap_alloc_new (w2.alloc (.cells #[.int .i64 op, .int .i64 0, .int .i64 0, .int .i64 0, .int .u32 0] 24)) (.cells #[.int .i64 0] 3)
    rw [World.size_alloc] at this
    exact this
  · unfold Boxed
    have := heap_alloc_new ((w2.alloc (.cells #[.int .i64 op, .int .i64 0, .int .i64 0, .int .i64 0, .int .u32 0] 24)).alloc (.cells #[.int .i64 0] 3)) (.cells #[nextV w1.heap.size w2.heap.size] 119)
    rw [World.size_alloc, World.size_alloc] at this
    exact this

end Go.Proofs.YtkcdmonmgnmojaaDoor
