/- isa.shapes: the table. -/
import Derived.Test.YtkcdmonmgnmojaaDoorAsm1
import Derived.Laws.Tables
namespace Go.Proofs.YtkcdmonmgnmojaaDoor
open Go.RowKit

def shCells (p : Sh × List UInt8 × List UInt8) : List Value := [.string ⟨p.1.w.toArray⟩, .int .i64 p.1.a, .int .i64 p.1.b, .int .i64 p.1.c, .int .i64 p.1.n, .string ⟨p.2.1.toArray⟩, .string ⟨p.2.2.toArray⟩]
def shapesV : Array Value := ((shs.zip shU).flatMap shCells).toArray
theorem below_setRow {N : Nat} {W W' : World} (h : Below N W W') (g : Nat) (cs : Array Value) (hg : N ≤ g) : Below N W (W'.setRow g cs) :=
  ⟨h.1, h.2, h.3, by rw [setRow_size]; exact h.size, fun i hi => (setRow_other _ _ _ _ (by omega)).trans (h.block i hi)⟩
theorem res_shapes (tmps : Array Value) (w : World) {b : Nat} (ha : tmps.getD 0 undef = .pointer (some ⟨b, 0, none⟩)) (hg : w.heap[b]? = some (.cells shapesV 109 (0, 0))) :
    (results Tryd.f77 tmps).run Tryd.prog w = .ok (.agg shapesV) w := by
  have h : Tryd.f77.results = #[.cell 0 109] := rfl
  have h2 := run_loadVar_row (P := Tryd.prog) w b 109 109 shapesV (0, 0) _ hg Tryd.underlying109 rfl (by kernel_rfl)
  unfold results
  rw [h]
  simp only [List.mapM_toArray, List.mapM_cons, List.mapM_nil, ha, asAddr, bind_pure_comp]
  simp [h2]

set_option maxRecDepth 100000 in
set_option maxHeartbeats 2000000 in
theorem shapes_any (w : World) : Calls Tryd.prog 77 #[] w fun e w' => e = .returned (.agg shapesV) ∧ Below w.heap.size w w' := by
  go_enter Tryd.func77, Tryd.ntmps77
  go_wp2_with (first
    | (go_at_call 102; refine (three_any _ _).mono ?_; rintro e w1 ⟨rfl, rfl⟩)
    | (go_at_call 103; refine (call_any ⟨#[116, 97, 107, 101]⟩ _).mono ?_; rintro e w1 ⟨rfl, rfl⟩; rename_i hK1; refine hK1 _ _ ?_; refine wpList_build rfl 108 _ rfl (by kernel_rfl) ?_; refine wpList_build rfl 109 _ rfl (by kernel_rfl) ?_; refine wpList_store_row rfl 109 _ _ rfl w.heap.size shapesV rfl (by kernel_rfl) 109 Tryd.zeroCells109 (by (repeat rw [Below.heap_alloc _ _ _ (by simp only [World.size_alloc]; omega)]); exact heap_alloc_new _ _) (by kernel_rfl) (by kernel_rfl) (by kernel_rfl) ?_)
    | (go_at_call 103; refine (call_any _ _).mono ?_; rintro e w1 ⟨rfl, rfl⟩))
  have hg : ∀ W : World, (∃ o, W.heap[w.heap.size]? = some (.cells o 109 (0, 0))) → (W.setRow w.heap.size shapesV).heap[w.heap.size]? = some (.cells shapesV 109 (0, 0)) := fun W ⟨o, ho⟩ => setRow_heap W _ _ _ _ _ ho
  refine bodyPost_ret (res_shapes _ _ rfl (hg _ ⟨Tryd.zeroCells109, ?_⟩)) rfl ?_
  · (repeat rw [Below.heap_alloc _ _ _ (by simp only [World.size_alloc]; omega)])
    exact heap_alloc_new _ _
  · refine ⟨rfl, ?_⟩
    refine below_setRow ?_ _ _ (Nat.le_refl _)
    repeat (first | exact (Below.refl _ w).alloc (Nat.le_refl _) _ | (refine Below.alloc ?_ (by simp only [World.size_alloc]; omega) _) | refine Below.drew ?_)

/-! ### its rows -/
def shE (op : Int) : Sh × List UInt8 × List UInt8 := (shs.zip shU).getD op.toNat (⟨[], 0, 0, 0, 0⟩, [], [])
theorem shE_sh {op : Int} (h : known op = true) : (shE op).1 = shOf op := by
  refine op_all (P := fun op => (shE op).1 = shOf op) ?_ op h
  intro k hk
  have hc : k = 0 ∨ k = 1 ∨ k = 2 ∨ k = 3 ∨ k = 4 ∨ k = 5 ∨ k = 6 ∨ k = 7 ∨ k = 8 ∨ k = 9 ∨ k = 10 ∨ k = 11 ∨ k = 12 ∨ k = 13 ∨ k = 14 ∨ k = 15 ∨ k = 16 ∨ k = 17 ∨ k = 18 ∨ k = 19 ∨ k = 20 ∨ k = 21 := by omega
  rcases hc with rfl | rfl | rfl | rfl | rfl | rfl | rfl | rfl | rfl | rfl | rfl | rfl | rfl | rfl | rfl | rfl | rfl | rfl | rfl | rfl | rfl | rfl <;> rfl
theorem shape_at (op : Int) (h : known op = true) (W : World) : (Instr.index 109 (.agg shapesV) (.int .i64 op)).run Tryd.prog W = .ok (.agg (shCells (shE op)).toArray) W := by
  refine op_all (P := fun op => (Instr.index 109 (.agg shapesV) (.int .i64 op)).run Tryd.prog W = .ok (.agg (shCells (shE op)).toArray) W) ?_ op h
  intro k hk
  have hc : k = 0 ∨ k = 1 ∨ k = 2 ∨ k = 3 ∨ k = 4 ∨ k = 5 ∨ k = 6 ∨ k = 7 ∨ k = 8 ∨ k = 9 ∨ k = 10 ∨ k = 11 ∨ k = 12 ∨ k = 13 ∨ k = 14 ∨ k = 15 ∨ k = 16 ∨ k = 17 ∨ k = 18 ∨ k = 19 ∨ k = 20 ∨ k = 21 := by omega
  rcases hc with rfl | rfl | rfl | rfl | rfl | rfl | rfl | rfl | rfl | rfl | rfl | rfl | rfl | rfl | rfl | rfl | rfl | rfl | rfl | rfl | rfl | rfl
  all_goals (show _ = _; kernel_rfl)


end Go.Proofs.YtkcdmonmgnmojaaDoor
