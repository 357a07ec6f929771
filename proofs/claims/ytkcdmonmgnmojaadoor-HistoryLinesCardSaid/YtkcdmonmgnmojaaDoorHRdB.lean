/- What the region of history.Read keeps. -/
import Derived.Test.YtkcdmonmgnmojaaDoorHRdA
namespace Go.Proofs.YtkcdmonmgnmojaaDoor
open Go.RowKit

theorem lits_new (W : World) (l : List ByteArray) (T : TypeId) : ∀ (j : Nat) z, l[j]? = some z → (W.alloc (.cells (l.map Value.string).toArray T)).cell? ⟨W.heap.size, j, none⟩ = some (.string z) := by
  intro j z hz
  have h1 := cells_new W (l.map Value.string).toArray T j
  rw [Addr.add_lit, Nat.zero_add] at h1
  rw [h1, List.getElem?_toArray, List.getElem?_map, hz]
  rfl
def HdSt (w2 : World) (n : Nat) (x0 x1 x2 x3 x5 : ByteArray) (w' : World) : Prop :=
  Below w2.heap.size w2 w' ∧ w'.cell? ⟨n, 0, none⟩ = some (.string x0) ∧ w'.cell? ⟨n, 1, none⟩ = some (.string x1) ∧ w'.cell? ⟨n, 2, none⟩ = some (.string x2) ∧ w'.cell? ⟨n, 3, none⟩ = some (.string x3) ∧ w'.cell? ⟨n, 5, none⟩ = some (.string x5)
section
variable {w2 w w' : World} {n nb : Nat} {x0 x1 x2 x3 x5 : ByteArray}
theorem HdSt.below (h : HdSt w2 n x0 x1 x2 x3 x5 w) (hb : Below w.heap.size w w') : HdSt w2 n x0 x1 x2 x3 x5 w' := by
  obtain ⟨h1, a0, a1, a2, a3, a5⟩ := h
  have hk : ∀ {i : Nat} {u : Value}, w.cell? ⟨n, i, none⟩ = some u → w'.cell? ⟨n, i, none⟩ = some u := fun {i u} hc => (hb.cell (p := ⟨n, i, none⟩) (cell_lt hc)).trans hc
  exact ⟨h1.trans (hb.mono h1.size), hk a0, hk a1, hk a2, hk a3, hk a5⟩
theorem HdSt.drew (h : HdSt w2 n x0 x1 x2 x3 x5 w) : HdSt w2 n x0 x1 x2 x3 x5 w.drew := h.below (Below.refl _ w).drew
theorem HdSt.alloc (h : HdSt w2 n x0 x1 x2 x3 x5 w) (o : Obj) : HdSt w2 n x0 x1 x2 x3 x5 (w.alloc o) := h.below ((Below.refl _ w).alloc (Nat.le_refl _) o)
theorem HdSt.lits (h : HdSt w2 n x0 x1 x2 x3 x5 w) {bw : Nat} {l : List ByteArray} (hw : ∀ (j : Nat) z, l[j]? = some z → w2.cell? ⟨bw, j, none⟩ = some (.string z)) : ∀ (j : Nat) z, l[j]? = some z → w.cell? ⟨bw, j, none⟩ = some (.string z) :=
  fun j z hz => (h.1.cell (p := ⟨bw, j, none⟩) (cell_lt (hw j z hz))).trans (hw j z hz)
def HdSt2 (w2 : World) (n : Nat) (x0 x1 x2 x3 x5 : ByteArray) (nb : Nat) (w' : World) : Prop := HdSt w2 n x0 x1 x2 x3 x5 w' ∧ ∃ x, ClBox w' nb x none 0
theorem HdSt2.below (h : HdSt2 w2 n x0 x1 x2 x3 x5 nb w) (hb : Below w.heap.size w w') : HdSt2 w2 n x0 x1 x2 x3 x5 nb w' :=
  ⟨h.1.below hb, h.2.elim fun x hx => ⟨x, hx.kept hb⟩⟩
theorem cell_set7 (W : World) (B : Nat) (v0 v1 v2 v3 v4 v5 v6 : Value) (m j : Nat) (h : m ≠ B) : (set7 W B v0 v1 v2 v3 v4 v5 v6).cell? ⟨m, j, none⟩ = W.cell? ⟨m, j, none⟩ := by
  unfold World.cell?
  rw [heap_set7 W B v0 v1 v2 v3 v4 v5 v6 m h]
theorem HdSt2.set (h : HdSt2 w2 n x0 x1 x2 x3 x5 nb w) (hn : w2.heap.size ≤ nb) {x : Cl} (hz : ClBox w nb x none 0) (hn2 : n < w2.heap.size) (y : Cl) (hy : y.r = []) :
    HdSt2 w2 n x0 x1 x2 x3 x5 nb (set7 w nb (.int .i64 y.p) (.int .i64 y.o) (.int .i64 y.q) (.slice none 0 0) (.int .i64 y.c) (.int .i64 y.b) (.int .i64 y.e)) := by
  obtain ⟨yp, yo, yq, yr, yc, yb, ye⟩ := y
  simp only at hy
  subst hy
  obtain ⟨⟨h1, a0, a1, a2, a3, a5⟩, _⟩ := h
  have hne : n ≠ nb := by omega
  refine ⟨⟨below_set7 h1 nb hn _ _ _ _ _ _ _, ?_, ?_, ?_, ?_, ?_⟩, ⟨yp, yo, yq, [], yc, yb, ye⟩, ?_⟩
  · rw [cell_set7 _ _ _ _ _ _ _ _ _ _ _ hne]; exact a0
  · rw [cell_set7 _ _ _ _ _ _ _ _ _ _ _ hne]; exact a1
  · rw [cell_set7 _ _ _ _ _ _ _ _ _ _ _ hne]; exact a2
  · rw [cell_set7 _ _ _ _ _ _ _ _ _ _ _ hne]; exact a3
  · rw [cell_set7 _ _ _ _ _ _ _ _ _ _ _ hne]; exact a5
  · exact hz.set7 ⟨yp, yo, yq, [], yc, yb, ye⟩ none 0
end

end Go.Proofs.YtkcdmonmgnmojaaDoor
