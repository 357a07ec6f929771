/- The order of calls, by beginnings, processes and first places; worlds that differ in one block. -/
import Derived.Test.YtkcdmonmgnmojaaDoorSo2
namespace Go.Proofs.YtkcdmonmgnmojaaDoor
open Go.RowKit

/-- Stands before: by its beginning, its process, and where it stood at first. -/
def ltE (e f : El) : Prop := e.x.b < f.x.b ∨ (e.x.b = f.x.b ∧ (e.x.p < f.x.p ∨ (e.x.p = f.x.p ∧ e.t < f.t)))
theorem ltE_irr (e : El) : ¬ ltE e e := by unfold ltE; omega
theorem ltE_tr (e f h : El) : ltE e f → ltE f h → ltE e h := by unfold ltE; omega
theorem cmpC_neg (x y : Cl) : cmpC x y < 0 ↔ (x.b < y.b ∨ (x.b = y.b ∧ x.p < y.p)) := by
  unfold cmpC cmpI
  by_cases h1 : x.b < y.b
  · rw [if_pos h1, if_pos (by omega)]; omega
  · by_cases h2 : y.b < x.b
    · rw [if_neg h1, if_pos h2, if_pos (by omega)]; omega
    · rw [if_neg h1, if_neg h2, if_neg (by omega)]
      by_cases h3 : x.p < y.p
      · rw [if_pos h3]; omega
      · by_cases h4 : y.p < x.p
        · rw [if_neg h3, if_pos h4]; omega
        · rw [if_neg h3, if_neg h4]; omega
theorem cmpC_range (x y : Cl) : -1 ≤ cmpC x y ∧ cmpC x y ≤ 1 := by
  unfold cmpC cmpI
  repeat' split
  all_goals omega
/-- What comes later at first stands before only if it is less. -/
theorem ltE_later {e f : El} (h : e.t < f.t) : ltE f e ↔ cmpC f.x e.x < 0 := by
  rw [cmpC_neg]
  unfold ltE
  omega
theorem ltE_else {e f : El} (h : e.t < f.t) (hc : ¬ cmpC f.x e.x < 0) : ltE e f := by
  rw [cmpC_neg] at hc
  unfold ltE
  omega

theorem so_wrap {x : Int} (h0 : 0 ≤ x) (h : x < 9223372036854775808) : IntKind.i64.wrap x = x := by
  simp [IntKind.wrap, IntKind.signed, IntKind.bits]
  omega

/-- All blocks but one are as they were. -/
structure KpG (g : Nat) (w w' : World) : Prop where
  size : w.heap.size ≤ w'.heap.size
  block : ∀ i, i < w.heap.size → i ≠ g → w'.heap[i]? = w.heap[i]?
  below : ∀ N, N ≤ g → N ≤ w.heap.size → Below N w w'
theorem KpG.refl (g : Nat) (w : World) : KpG g w w := ⟨Nat.le_refl _, fun _ _ _ => rfl, fun _ _ _ => Below.refl _ _⟩
theorem KpG.trans {g : Nat} {w w1 w2 : World} (h1 : KpG g w w1) (h2 : KpG g w1 w2) : KpG g w w2 :=
  ⟨Nat.le_trans h1.size h2.size, fun i hi hg => (h2.block i (Nat.lt_of_lt_of_le hi h1.size) hg).trans (h1.block i hi hg), fun N hN hs => (h1.below N hN hs).trans (h2.below N hN (Nat.le_trans hs h1.size))⟩
theorem KpG.of {g : Nat} {w w' : World} (h : Below w.heap.size w w') : KpG g w w' := ⟨h.size, fun i hi _ => h.block i hi, fun _ _ hs => h.mono hs⟩
theorem KpG.row {g : Nat} {w w' : World} (h : KpG g w w') (arr : Array Value) : KpG g w (w'.setRow g arr) :=
  ⟨by rw [setRow_size]; exact h.size, fun i hi hg => (setRow_other _ _ _ _ hg).trans (h.block i hi hg), fun N hN hs => by
    have hb := h.below N hN hs
    exact ⟨hb.1, hb.2, hb.3, by rw [setRow_size]; exact hb.size, fun i hi => (setRow_other _ _ _ _ (by omega)).trans (hb.block i hi)⟩⟩
/-- A store whose way through memory is known. -/
theorem step_store_at {P : Program} {w w2 : World} {ops : Array Oper} {o : Oper} {a : Act} {K : Act → World → Prop} {Q : Exit → Act → World → Prop} {E : Prop} (hgd : o.guard = none) (ty : TypeId) (x y : Operand) (ho : o.op = .store ty x y)
    (ad : Addr) (v : Value) (hx : a.eval x = .pointer (some ad)) (hy : a.eval y = v) (hst : (storeVar ty ad v).run P w = .ok () w2)
    (h : K (a.put o.dst undef) w2) : if Region.wanted o (yielded ops a.tmps) = true then Oper.wp P o a w K Q else E := by
  have hw : Region.wanted o (yielded ops a.tmps) = true := by simp [Region.wanted, hgd]
  rw [if_pos hw]
  unfold Oper.wp execOp
  simp only [ho, hx, hy, Instr.storeAt, Instr.sureAddr, Sem.run_bind, Sem.run_pure, Result.andThen_ok, hst]
  exact h
/-- An element moved one place to the left. -/
theorem swap_set {S1 S2 : List El} {y x : El} (P R : List El) : ((P ++ (S1 ++ [y]) ++ x :: S2 ++ R).set (P.length + S1.length + 1) y).set (P.length + S1.length) x = P ++ S1 ++ x :: (y :: S2) ++ R := by
  have e1 : P ++ (S1 ++ [y]) ++ x :: S2 ++ R = (P ++ S1) ++ y :: x :: (S2 ++ R) := by simp
  have e2 : P ++ S1 ++ x :: (y :: S2) ++ R = (P ++ S1) ++ x :: y :: (S2 ++ R) := by simp
  have hl : P.length + S1.length = (P ++ S1).length := by simp
  rw [e1, e2, hl, List.set_append_right _ _ (by omega), show (P ++ S1).length + 1 - (P ++ S1).length = 1 by omega, List.set_cons_succ, List.set_cons_zero, List.set_append_right _ _ (by omega), Nat.sub_self, List.set_cons_zero]

end Go.Proofs.YtkcdmonmgnmojaaDoor
