/- An instruction in a block of its own. -/
import Derived.Test.YtkcdmonmgnmojaaDoorAsmDef
import Derived.Laws.CopyRow
import Derived.Below
namespace Go.Proofs.YtkcdmonmgnmojaaDoor
open Go.RowKit

def InBox (W : World) (B : Nat) (e : Ins) : Prop := W.heap[B]? = some (.cells #[.int .i64 e.op, .int .i64 e.a, .int .i64 e.b, .int .i64 e.c, .int .u32 e.n] 24 (0, 0))
section
variable {W W' : World} {B N : Nat} {e : Ins}
theorem InBox.lt (h : InBox W B e) : B < W.heap.size := (Array.getElem?_eq_some_iff.1 h).1
theorem InBox.new (W : World) (e : Ins) : InBox (W.alloc (.cells #[.int .i64 e.op, .int .i64 e.a, .int .i64 e.b, .int .i64 e.c, .int .u32 e.n] 24)) W.heap.size e := heap_alloc_new W _
theorem InBox.cells (h : InBox W B e) : W.cell? ⟨B, 0, none⟩ = some (.int .i64 e.op) ∧ W.cell? ⟨B, 1, none⟩ = some (.int .i64 e.a) ∧ W.cell? ⟨B, 2, none⟩ = some (.int .i64 e.b) ∧ W.cell? ⟨B, 3, none⟩ = some (.int .i64 e.c) ∧ W.cell? ⟨B, 4, none⟩ = some (.int .u32 e.n) := by
  refine ⟨?_, ?_, ?_, ?_, ?_⟩ <;> simp [World.cell?, show W.heap[B]? = _ from h]
theorem InBox.frozen (h : InBox W B e) (j : Nat) : W.frozen? ⟨B, j, none⟩ = false := by simp [World.frozen?, show W.heap[B]? = _ from h]
theorem InBox.below (h : InBox W B e) (hb : Below N W W') (hB : B < N) : InBox W' B e := (hb.block B hB).trans h
theorem InBox.kept (h : InBox W B e) (hb : Below W.heap.size W W') : InBox W' B e := h.below hb h.lt
theorem InBox.set1 (h : InBox W B e) (j : Nat) (v : Value) : (W.setCell ⟨B, j, none⟩ v).heap[B]? = some (.cells ((#[.int .i64 e.op, .int .i64 e.a, .int .i64 e.b, .int .i64 e.c, .int .u32 e.n] : Array Value).setIfInBounds j v) 24 (0, 0)) := by
  have h0 : W.heap[B]? = some (.cells #[.int .i64 e.op, .int .i64 e.a, .int .i64 e.b, .int .i64 e.c, .int .u32 e.n] 24 (0, 0)) := h
  rw [setCell_eq_setRow W B j _ _ _ _ h0]
  exact setRow_heap _ B _ _ _ _ h0
theorem InBox.setO (h : InBox W B e) (v : Int) : InBox (W.setCell ⟨B, 0, none⟩ (.int .i64 v)) B ⟨v, e.a, e.b, e.c, e.n⟩ := h.set1 0 _
theorem InBox.setA (h : InBox W B e) (v : Int) : InBox (W.setCell ⟨B, 1, none⟩ (.int .i64 v)) B ⟨e.op, v, e.b, e.c, e.n⟩ := h.set1 1 _
theorem InBox.setB (h : InBox W B e) (v : Int) : InBox (W.setCell ⟨B, 2, none⟩ (.int .i64 v)) B ⟨e.op, e.a, v, e.c, e.n⟩ := h.set1 2 _
theorem InBox.setC (h : InBox W B e) (v : Int) : InBox (W.setCell ⟨B, 3, none⟩ (.int .i64 v)) B ⟨e.op, e.a, e.b, v, e.n⟩ := h.set1 3 _
theorem InBox.setN (h : InBox W B e) (v : Int) : InBox (W.setCell ⟨B, 4, none⟩ (.int .u32 v)) B ⟨e.op, e.a, e.b, e.c, v⟩ := h.set1 4 _
theorem below_set (h : Below N W W') (B j : Nat) (hB : N ≤ B) (v : Value) : Below N W (W'.setCell ⟨B, j, none⟩ v) := h.setCell (p := ⟨B, j, none⟩) hB v
end

end Go.Proofs.YtkcdmonmgnmojaaDoor
