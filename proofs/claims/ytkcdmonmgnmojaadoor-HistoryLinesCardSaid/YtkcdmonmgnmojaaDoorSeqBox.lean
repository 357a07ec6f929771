/- Boxes and rows, carried through a range over a function. -/
import Derived.Test.YtkcdmonmgnmojaaDoorSeqSt
namespace Go.Proofs.YtkcdmonmgnmojaaDoor
open Go.RowKit

theorem Calm.owns {B base : Nat} (hB : B < base) (e : TypeId) (size : Nat) (v : Value) (n : Nat) (xs : List Value) : Calm B (fun W => W.ownsRow base e size v n xs) where
  alloc W o h := World.ownsRow.alloc h o
  set W v' h := h.kept (grownBy_setCell' W B v') (by
    rcases h.2 with ⟨rfl, _⟩ | ⟨g, cap, cur, rfl, hg, _⟩
    · exact .inl rfl
    · refine .inr fun e' => ?_
      have : g = B := by simpa [Value.ownBlock] using e'
      omega)
  drew W k h := h

/-- Behind an append to what a box holds, and the store into the box. -/
theorem app_box {W w1 : World} {N B size k m : Nat} {t e : TypeId} {v v' : Value} {xs ys : List Value} {tmp : Obj} (hbox : Boxed W B t v) (hrow : W.ownsRow N e size v k xs) (hN : N ≤ W.heap.size) (hBN : B < N)
    (hown' : w1.ownsRow N e size v' m ys) (hgrow : (W.alloc tmp).grownBy w1 v.ownBlock) :
    Boxed w1 B t v ∧ Boxed (w1.setCell ⟨B, 0, none⟩ v') B t v' ∧ (w1.setCell ⟨B, 0, none⟩ v').ownsRow N e size v' m ys ∧ KeepsOthers W (w1.setCell ⟨B, 0, none⟩ v') ∧ (∀ j, j < N → j ≠ B → (w1.setCell ⟨B, 0, none⟩ v').heap[j]? = W.heap[j]?) ∧ ∀ H, H ≤ B → Below H W (w1.setCell ⟨B, 0, none⟩ v') := by
  have hb : Below N W w1 := ((Below.refl N W).alloc hN tmp).trans (grown_below (hrow.alloc tmp) hgrow (Nat.le_refl _) (by simp; omega))
  have hv1 : Boxed w1 B t v := (hb.block B hBN).trans hbox
  refine ⟨hv1, hv1.set v', (Calm.owns hBN e size v' m ys).set _ _ hown', ?_, fun j hj hne => ?_, fun H hH => ?_⟩
  · refine ((KeepsOthers.alloc W tmp).trans (KeepsOthers.of_grownBy hgrow fun j o ej hj => ?_)).trans (KeepsOthers.setCell _ _ _)
    rcases (hrow.alloc tmp).2 with ⟨rfl, _⟩ | ⟨g, cap, cur, rfl, _, hgb, _⟩
    · simp [Value.ownBlock] at ej
    · obtain rfl : g = j := by simpa [Value.ownBlock] using ej
      rw [hgb] at hj; cases hj; rfl
  · exact ((grownBy_setCell' w1 B v').block j (by have := hb.size; omega) (fun e => hne (by cases e; rfl))).trans (hb.block j hj)
  · exact ((hb.mono (by omega)).setCell (p := ⟨B, 0, none⟩) hH _)

theorem box_new {w w' : World} {t : TypeId} {v : Value} {k : Nat} (h : w.alloc (.cells #[v] t) = w') (hk : w.heap.size = k) : Boxed w' k t v ∧ w'.heap.size = k + 1 := by
  subst h hk
  exact ⟨Boxed.new w t v, World.size_alloc _ _⟩
theorem box_al {w w' : World} {t : TypeId} {v : Value} {k : Nat} {o : Obj} (h : Boxed w k t v) (hw : w.alloc o = w') : Boxed w' k t v := by
  subst hw
  exact h.alloc o
theorem below_al {w0 w w' : World} {B : Nat} {o : Obj} (h : Below B w0 w) (hB : B ≤ w.heap.size) (hw : w.alloc o = w') : Below B w0 w' := by
  subst hw
  exact h.alloc hB o
theorem box_putO {W : World} {B l : Nat} {t : TypeId} {v : Value} {o : Obj} (o' : Obj) (h : Boxed W B t v) (hl : W.heap[l]? = some o) (ho : o.isCells = false) : Boxed (W.putObj l o') B t v := by
  have hne : B ≠ l := fun e => by
    subst e
    rw [show W.heap[B]? = _ from h] at hl
    cases hl
    cases ho
  exact (World.putObj_heap_other hne).trans h
theorem owns_below {w w' : World} {base B size n : Nat} {t : TypeId} {v : Value} {xs : List Value} (h : w.ownsRow base t size v n xs) (hb : Below B w w') (hB : w.heap.size ≤ B) : w'.ownsRow base t size v n xs := by
  refine ⟨h.1, ?_⟩
  rcases h.2 with h2 | ⟨g, cap, cur, hv, hg, hh, r⟩
  · exact .inl h2
  · exact .inr ⟨g, cap, cur, hv, hg, (hb.block g (by have := (Array.getElem?_eq_some_iff.1 hh).1; omega)).trans hh, r⟩
theorem owns_slice {w : World} {base size n : Nat} {t : TypeId} {v : Value} {xs : List Value} (h : w.ownsRow base t size v n xs) : ∃ A c, v = .slice A n c := by
  rcases h.2 with ⟨h2, h3⟩ | ⟨g, cap, cur, hv, _⟩
  · exact ⟨_, _, by rw [h2, h3]⟩
  · exact ⟨_, _, hv⟩
theorem keeps_below {L : Nat} {W W' : World} (h : Below W.heap.size W W') : KeepsFrom L W W' := ⟨h.size, fun k _ _ hk _ => (h.block k (Array.getElem?_eq_some_iff.1 hk).1).trans hk⟩
theorem below_putO {W : World} {H l : Nat} {o : Obj} (o' : Obj) (hl : H ≤ l) (h : W.heap[l]? = some o) : Below H W (W.putObj l o') :=
  (Below.refl H W).grown (grownBy_putObj' W l o') (by have := (Array.getElem?_eq_some_iff.1 h).1; omega) (fun k e => by cases e; omega)
theorem Calm.size (B N : Nat) : Calm B (fun W => N ≤ W.heap.size) := ⟨fun W o h => by rw [World.size_alloc]; omega, fun W v h => by have := (grownBy_setCell' W B v).size; omega, fun _ _ h => h⟩
theorem Calm.const (B : Nat) (p : Prop) : Calm B (fun _ => p) := ⟨fun _ _ h => h, fun _ _ h => h, fun _ _ h => h⟩

end Go.Proofs.YtkcdmonmgnmojaaDoor
