/- Calls in the rows of a block: loads, stores, and what a swap makes of them. -/
import Derived.Test.YtkcdmonmgnmojaaDoorSo1
import Derived.Laws.CopyRow
import Derived.Laws.Tables
import Derived.Below
namespace Go.Proofs.YtkcdmonmgnmojaaDoor
open Go.RowKit

/-- A call as it lies in a row, and the place where it stood at first. -/
structure El where
  x : Cl
  A : Option Addr
  c : Nat
  t : Nat
def El.cells (e : El) : List Value := [.int .i64 e.x.p, .int .i64 e.x.o, .int .i64 e.x.q, .slice e.A e.x.r.length e.c, .int .i64 e.x.c, .int .i64 e.x.b, .int .i64 e.x.e]
def flat (L : List El) : List Value := L.flatMap El.cells
theorem flat_len (L : List El) : (flat L).length = L.length * 7 := by
  induction L with
  | nil => rfl
  | cons e L ih =>
    show (e.cells ++ flat L).length = _
    rw [List.length_append, ih, List.length_cons]
    show 7 + _ = _
    omega
theorem flat_get (L : List El) (rest : List Value) : ∀ (k : Nat) (e : El), L[k]? = some e → ∀ j, j < 7 → (flat L ++ rest)[k * 7 + j]? = e.cells[j]? := by
  induction L with
  | nil => intro k e h; simp at h
  | cons a L ih =>
    intro k e h j hj
    have hf : flat (a :: L) ++ rest = a.cells ++ (flat L ++ rest) := by
      show (a.cells ++ flat L) ++ rest = _
      rw [List.append_assoc]
    rw [hf]
    cases k with
    | zero =>
      injection h with h
      subst h
      rw [List.getElem?_append_left (by show 0 * 7 + j < 7; omega), Nat.zero_mul, Nat.zero_add]
    | succ k =>
      rw [List.getElem?_append_right (by show 7 ≤ _; omega)]
      have := ih k e h j hj
      rw [← this]
      congr 1
      show (k + 1) * 7 + j - 7 = _
      omega
/-- A row stored over another one. -/
theorem flat_put (rest : List Value) (e : El) : ∀ (L : List El) (k : Nat), k < L.length → (flat L ++ rest).take (k * 7) ++ e.cells ++ (flat L ++ rest).drop (k * 7 + 7) = flat (L.set k e) ++ rest
  | [], k, h => absurd h (Nat.not_lt_zero _)
  | a :: L, 0, _ => by
    have hf : flat (a :: L) ++ rest = a.cells ++ (flat L ++ rest) := by
      show (a.cells ++ flat L) ++ rest = _
      rw [List.append_assoc]
    have hg : flat ((a :: L).set 0 e) ++ rest = e.cells ++ (flat L ++ rest) := by
      show (e.cells ++ flat L) ++ rest = _
      rw [List.append_assoc]
    rw [hf, hg, Nat.zero_mul, List.take_zero, List.nil_append, Nat.zero_add]
    rw [List.drop_append_of_le_length (by show 7 ≤ 7; omega)]
    rfl
  | a :: L, k + 1, h => by
    have ih := flat_put rest e L k (by simpa using h)
    have hf : flat (a :: L) ++ rest = a.cells ++ (flat L ++ rest) := by
      show (a.cells ++ flat L) ++ rest = _
      rw [List.append_assoc]
    have hg : flat ((a :: L).set (k + 1) e) ++ rest = a.cells ++ (flat (L.set k e) ++ rest) := by
      show (a.cells ++ flat (L.set k e)) ++ rest = _
      rw [List.append_assoc]
    have ha : a.cells.length = 7 := rfl
    rw [hf, hg, ← ih]
    rw [List.take_append, List.drop_append, ha, List.take_of_length_le (by rw [ha]; omega), List.drop_eq_nil_of_le (by rw [ha]; omega), List.nil_append, show (k + 1) * 7 - 7 = k * 7 by omega, show (k + 1) * 7 + 7 - 7 = k * 7 + 7 by omega]
    simp only [List.append_assoc]

/-- The rows of a block. -/
def RowsG (w : World) (g : Nat) (L : List El) : Prop := ∃ rest, w.heap[g]? = some (.cells (flat L ++ rest).toArray 45 (0, 0))
section
variable {w w' : World} {g : Nat} {L : List El}
theorem RowsG.lt (h : RowsG w g L) : g < w.heap.size := by
  obtain ⟨rest, h⟩ := h
  exact (Array.getElem?_eq_some_iff.1 h).1
theorem RowsG.kept (h : RowsG w g L) (hb : Below w.heap.size w w') : RowsG w' g L := by
  have hlt := h.lt
  obtain ⟨rest, h⟩ := h
  exact ⟨rest, (hb.block g hlt).trans h⟩
theorem RowsG.cell (h : RowsG w g L) {k : Nat} {e : El} (hk : L[k]? = some e) (j : Nat) (hj : j < 7) : w.cell? ⟨g, k * 7 + j, none⟩ = e.cells[j]? := by
  obtain ⟨rest, h⟩ := h
  have : w.cell? ⟨g, k * 7 + j, none⟩ = (flat L ++ rest).toArray[k * 7 + j]? := by simp [World.cell?, h]
  rw [this, List.getElem?_toArray, flat_get L rest k e hk j hj]
theorem RowsG.cells (h : RowsG w g L) {k : Nat} {e : El} (hk : L[k]? = some e) : w.cell? ⟨g, k * 7, none⟩ = some (.int .i64 e.x.p) ∧ w.cell? ⟨g, k * 7 + 1, none⟩ = some (.int .i64 e.x.o) ∧ w.cell? ⟨g, k * 7 + 2, none⟩ = some (.int .i64 e.x.q) ∧ w.cell? ⟨g, k * 7 + 3, none⟩ = some (.slice e.A e.x.r.length e.c) ∧ w.cell? ⟨g, k * 7 + 4, none⟩ = some (.int .i64 e.x.c) ∧ w.cell? ⟨g, k * 7 + 5, none⟩ = some (.int .i64 e.x.b) ∧ w.cell? ⟨g, k * 7 + 6, none⟩ = some (.int .i64 e.x.e) :=
  ⟨h.cell hk 0 (by omega), h.cell hk 1 (by omega), h.cell hk 2 (by omega), h.cell hk 3 (by omega), h.cell hk 4 (by omega), h.cell hk 5 (by omega), h.cell hk 6 (by omega)⟩
/-- A row stored. -/
theorem RowsG.store (h : RowsG w g L) (k : Nat) (e : El) (hk : k < L.length) : ∃ arr, (storeVar 45 ⟨g, k * 7, none⟩ (.agg e.cells.toArray)).run Tryd.prog w = .ok () (w.setRow g arr) ∧ RowsG (w.setRow g arr) g (L.set k e) := by
  obtain ⟨rest, h⟩ := h
  have hs : (Tryd.prog.info? 45).map (·.size) = some 7 := by kernel_rfl
  have hl : k * 7 + 0 + e.cells.length ≤ (flat L ++ rest).toArray.size := by
    have h7 : e.cells.length = 7 := rfl
    have := flat_len L
    simp only [List.size_toArray, List.length_append]
    omega
  have h1 : ∀ v ∈ e.cells, v.oneCell' = true := fun v hv => by
    simp only [El.cells, List.mem_cons, List.not_mem_nil, or_false] at hv
    rcases hv with rfl | rfl | rfl | rfl | rfl | rfl | rfl <;> rfl
  have hst := run_storeCells_at Tryd.prog g (k * 7) 45 e.cells 0 _ w h hl h1
  refine ⟨(flat (L.set k e) ++ rest).toArray, ?_, rest, setRow_heap w g _ _ _ _ h⟩
  cases hq : Tryd.prog.info? 45 with
  | none => rw [hq] at hs; cases hs
  | some i =>
    rw [hq] at hs
    have h7 : i.size = 7 := by simpa using hs
    have hfp := flat_put rest e L k hk
    have h70 : e.cells.length = 7 := rfl
    have hst' : (storeCells ⟨g, k * 7, none⟩ e.cells 0).run Tryd.prog w = .ok () (w.setRow g (flat (L.set k e) ++ rest).toArray) := by
      rw [hst, ← hfp, h70, Nat.add_zero]
    have hc : (Value.agg e.cells.toArray).cells.toList = e.cells := rfl
    simp [storeVar, sizeOf, typeInfo, hq, h7, hc, hst', h70, Value.cells]
end

end Go.Proofs.YtkcdmonmgnmojaaDoor
