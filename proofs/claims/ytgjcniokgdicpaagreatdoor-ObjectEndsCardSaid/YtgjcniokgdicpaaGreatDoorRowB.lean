/- Rows of cells in blocks. -/
import Derived.Test.YtgjcniokgdicpaaGreatDoorWalk
import Derived.Test.YtgjcniokgdicpaaGreatDoorHeld
import Derived.Laws.Tables
import Derived.Below
import Derived.Lib.SliceRun
namespace Go.Proofs.YtgjcniokgdicpaaGreatDoor
open Go.RowKit
attribute [local go_sem] Oper.semAt_some

theorem step_store_row {P : Program} {w : World} {ops : Array Oper} {o : Oper} {a : Act} {K : Act → World → Prop} {Q : Exit → Act → World → Prop} {E : Prop} (hgd : o.guard = none) (ty : TypeId) (x y : Operand) (ho : o.op = .store ty x y)
    (g : Nat) (cells : Array Value) (hx : a.eval x = .pointer (some ⟨g, 0, none⟩)) (hy : a.eval y = .agg cells)
    (t : TypeId) (old : Array Value) (hg : w.heap[g]? = some (.cells old t (0, 0))) (hi : (P.info? ty).map (·.size) = some cells.size)
    (hold : old.size = cells.size) (h1 : cells.all (·.oneCell') = true)
    (h : K (a.put o.dst undef) (w.setRow g cells)) : if Region.wanted o (yielded ops a.tmps) = true then Oper.wp P o a w K Q else E := by
  have hw : Region.wanted o (yielded ops a.tmps) = true := by simp [Region.wanted, hgd]
  rw [if_pos hw]
  exact wp_store_row ty x y ho g cells hx hy t old hg hi hold h1 h
theorem below_setRow {N : Nat} {W W' : World} (h : Below N W W') (g : Nat) (cs : Array Value) (hg : N ≤ g) : Below N W (W'.setRow g cs) :=
  ⟨h.1, h.2, h.3, by rw [setRow_size]; exact h.size, fun i hi => (setRow_other _ _ _ _ (by omega)).trans (h.block i hi)⟩
/-- A row in a block. -/
def RowB (w : World) (n : Nat) (arr : Array Value) (t : TypeId) : Prop := w.heap[n]? = some (.cells arr t (0, 0))
theorem RowB.lt {w : World} {n : Nat} {arr : Array Value} {t : TypeId} (h : RowB w n arr t) : n < w.heap.size := (Array.getElem?_eq_some_iff.1 h).1
theorem RowB.new (w : World) (arr : Array Value) (t : TypeId) : RowB (w.alloc (.cells arr t)) w.heap.size arr t := heap_alloc_new w _
theorem RowB.kept {w w' : World} {n : Nat} {arr : Array Value} {t : TypeId} (h : RowB w n arr t) (hb : Below w.heap.size w w') : RowB w' n arr t := (hb.block n h.lt).trans h
theorem RowB.below {w w' : World} {n N : Nat} {arr : Array Value} {t : TypeId} (h : RowB w n arr t) (hb : Below N w w') (hn : n < N) : RowB w' n arr t := (hb.block n hn).trans h
theorem RowB.row {w : World} {n : Nat} {arr cells : Array Value} {t : TypeId} (h : RowB w n arr t) : RowB (w.setRow n cells) n cells t := setRow_heap w n arr cells t _ h
theorem RowB.far {w : World} {n g : Nat} {arr cells : Array Value} {t : TypeId} (h : RowB w n arr t) (hn : n ≠ g) : RowB (w.setRow g cells) n arr t := (setRow_other _ _ _ _ hn).trans h
theorem RowB.cell {w : World} {n : Nat} {arr : Array Value} {t : TypeId} (h : RowB w n arr t) (j : Nat) : w.cell? ⟨n, j, none⟩ = arr[j]? := by simp [World.cell?, show w.heap[n]? = _ from h]
theorem RowB.frozen {w : World} {n : Nat} {arr : Array Value} {t : TypeId} (h : RowB w n arr t) (j : Nat) : w.frozen? ⟨n, j, none⟩ = false := by simp [World.frozen?, show w.heap[n]? = _ from h]
theorem RowB.set {w : World} {n : Nat} {arr : Array Value} {t : TypeId} (h : RowB w n arr t) (j : Nat) (v : Value) : RowB (w.setCell ⟨n, j, none⟩ v) n (arr.setIfInBounds j v) t := by
  unfold RowB
  rw [setCell_eq_setRow w n j _ _ _ _ h]
  exact setRow_heap _ n _ _ _ _ h
theorem heap_set (W : World) (b j : Nat) (v : Value) (n : Nat) (h : n ≠ b) : (W.setCell ⟨b, j, none⟩ v).heap[n]? = W.heap[n]? := by
  show (W.heap.modify b _)[n]? = _
  rw [Array.getElem?_modify, if_neg (fun e => h e.symm)]
theorem size_set (W : World) (b j : Nat) (v : Value) : (W.setCell ⟨b, j, none⟩ v).heap.size = W.heap.size := by
  show (W.heap.modify b _).size = _
  rw [Array.size_modify]
theorem RowB.other {w : World} {n : Nat} {arr : Array Value} {t : TypeId} (h : RowB w n arr t) (b j : Nat) (v : Value) (hn : n ≠ b) : RowB (w.setCell ⟨b, j, none⟩ v) n arr t := (heap_set w b j v n hn).trans h
theorem below_set1 {N : Nat} {W W' : World} (h : Below N W W') (B j : Nat) (hB : N ≤ B) (v : Value) : Below N W (W'.setCell ⟨B, j, none⟩ v) := h.setCell (p := ⟨B, j, none⟩) hB v

end Go.Proofs.YtgjcniokgdicpaaGreatDoor
