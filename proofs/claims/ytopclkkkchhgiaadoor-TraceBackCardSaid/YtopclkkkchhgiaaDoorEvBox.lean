/- An event in a block of its own. -/
import Derived.Test.YtopclkkkchhgiaaDoorTrDef
import Derived.Laws.CopyRow
import Derived.Below
namespace Go.Proofs.YtopclkkkchhgiaaDoor
open Go.RowKit

def EvBox (W : World) (B : Nat) (e : Ev) : Prop := W.heap[B]? = some (.cells #[.int .i64 e.t, .int .i64 e.k, .int .i64 e.p, .int .i64 e.a, .int .i64 e.b] 23 (0, 0))
section
variable {W W' : World} {B N : Nat} {e : Ev}
theorem EvBox.lt (h : EvBox W B e) : B < W.heap.size := (Array.getElem?_eq_some_iff.1 h).1
theorem EvBox.new (W : World) (e : Ev) : EvBox (W.alloc (.cells #[.int .i64 e.t, .int .i64 e.k, .int .i64 e.p, .int .i64 e.a, .int .i64 e.b] 23)) W.heap.size e := heap_alloc_new W _
theorem EvBox.cells (h : EvBox W B e) : W.cell? ⟨B, 0, none⟩ = some (.int .i64 e.t) ∧ W.cell? ⟨B, 1, none⟩ = some (.int .i64 e.k) ∧ W.cell? ⟨B, 2, none⟩ = some (.int .i64 e.p) ∧ W.cell? ⟨B, 3, none⟩ = some (.int .i64 e.a) ∧ W.cell? ⟨B, 4, none⟩ = some (.int .i64 e.b) := by
  refine ⟨?_, ?_, ?_, ?_, ?_⟩ <;> simp [World.cell?, show W.heap[B]? = _ from h]
theorem EvBox.frozen (h : EvBox W B e) (j : Nat) : W.frozen? ⟨B, j, none⟩ = false := by simp [World.frozen?, show W.heap[B]? = _ from h]
theorem EvBox.below (h : EvBox W B e) (hb : Below N W W') (hB : B < N) : EvBox W' B e := (hb.block B hB).trans h
theorem EvBox.kept (h : EvBox W B e) (hb : Below W.heap.size W W') : EvBox W' B e := h.below hb h.lt
theorem EvBox.set5 (h : EvBox W B e) (e' : Ev) : EvBox (((((W.setCell ⟨B, 0, none⟩ (.int .i64 e'.t)).setCell ⟨B, 1, none⟩ (.int .i64 e'.k)).setCell ⟨B, 2, none⟩ (.int .i64 e'.p)).setCell ⟨B, 3, none⟩ (.int .i64 e'.a)).setCell ⟨B, 4, none⟩ (.int .i64 e'.b)) B e' := by
  have h0 : W.heap[B]? = some (.cells #[.int .i64 e.t, .int .i64 e.k, .int .i64 e.p, .int .i64 e.a, .int .i64 e.b] 23 (0, 0)) := h
  unfold EvBox
  rw [setCell_eq_setRow W B 0 _ _ _ _ h0]
  have h1 := setRow_heap W B _ ((#[.int .i64 e.t, .int .i64 e.k, .int .i64 e.p, .int .i64 e.a, .int .i64 e.b] : Array Value).setIfInBounds 0 (.int .i64 e'.t)) _ _ h0
  rw [setCell_eq_setRow _ B 1 _ _ _ _ h1]
  have h2 := setRow_heap _ B _ (((#[.int .i64 e.t, .int .i64 e.k, .int .i64 e.p, .int .i64 e.a, .int .i64 e.b] : Array Value).setIfInBounds 0 (.int .i64 e'.t)).setIfInBounds 1 (.int .i64 e'.k)) _ _ h1
  rw [setCell_eq_setRow _ B 2 _ _ _ _ h2]
  have h3 := setRow_heap _ B _ ((((#[.int .i64 e.t, .int .i64 e.k, .int .i64 e.p, .int .i64 e.a, .int .i64 e.b] : Array Value).setIfInBounds 0 (.int .i64 e'.t)).setIfInBounds 1 (.int .i64 e'.k)).setIfInBounds 2 (.int .i64 e'.p)) _ _ h2
  rw [setCell_eq_setRow _ B 3 _ _ _ _ h3]
  have h4 := setRow_heap _ B _ (((((#[.int .i64 e.t, .int .i64 e.k, .int .i64 e.p, .int .i64 e.a, .int .i64 e.b] : Array Value).setIfInBounds 0 (.int .i64 e'.t)).setIfInBounds 1 (.int .i64 e'.k)).setIfInBounds 2 (.int .i64 e'.p)).setIfInBounds 3 (.int .i64 e'.a)) _ _ h3
  rw [setCell_eq_setRow _ B 4 _ _ _ _ h4]
  exact setRow_heap _ B _ _ _ _ h4
theorem EvBox.set1 (h : EvBox W B e) (j : Nat) (v : Int) : (W.setCell ⟨B, j, none⟩ (.int .i64 v)).heap[B]? = some (.cells ((#[.int .i64 e.t, .int .i64 e.k, .int .i64 e.p, .int .i64 e.a, .int .i64 e.b] : Array Value).setIfInBounds j (.int .i64 v)) 23 (0, 0)) := by
  have h0 : W.heap[B]? = some (.cells #[.int .i64 e.t, .int .i64 e.k, .int .i64 e.p, .int .i64 e.a, .int .i64 e.b] 23 (0, 0)) := h
  rw [setCell_eq_setRow W B j _ _ _ _ h0]
  exact setRow_heap _ B _ _ _ _ h0
theorem EvBox.setP (h : EvBox W B e) (v : Int) : EvBox (W.setCell ⟨B, 2, none⟩ (.int .i64 v)) B ⟨e.t, e.k, v, e.a, e.b⟩ := h.set1 2 v
theorem EvBox.setK (h : EvBox W B e) (v : Int) : EvBox (W.setCell ⟨B, 1, none⟩ (.int .i64 v)) B ⟨e.t, v, e.p, e.a, e.b⟩ := h.set1 1 v
theorem below_set (h : Below N W W') (B j : Nat) (hB : N ≤ B) (v : Value) : Below N W (W'.setCell ⟨B, j, none⟩ v) := h.setCell (p := ⟨B, j, none⟩) hB v
theorem below_set5 (h : Below N W W') (B : Nat) (hB : N ≤ B) (v0 v1 v2 v3 v4 : Value) : Below N W (((((W'.setCell ⟨B, 0, none⟩ v0).setCell ⟨B, 1, none⟩ v1).setCell ⟨B, 2, none⟩ v2).setCell ⟨B, 3, none⟩ v3).setCell ⟨B, 4, none⟩ v4) :=
  below_set (below_set (below_set (below_set (below_set h B 0 hB v0) B 1 hB v1) B 2 hB v2) B 3 hB v3) B 4 hB v4
end

end Go.Proofs.YtopclkkkchhgiaaDoor
