/- A slice of ints of one's own, sorted, then without doubles. -/
import Derived.Test.YtgmmblknaeepbaaZlF
namespace Go.Proofs.Ytgmmblknaeepbaa
open Go.RowKit

theorem own_ne_nil {base : Nat} {w : World} {A : Option Addr} {n c : Nat} {xs : List Int} (h : Own (ints .i64) 3 base w (.slice A n c) xs) (h0 : xs ≠ []) : Value.slice A n c ≠ .slice none 0 0 := fun e => by
  obtain ⟨A', c', hv, _, hn, _⟩ := h.sl
  rw [e] at hv
  injection hv with e1 e2 e3
  exact h0 (List.eq_nil_of_length_eq_zero e2.symm)
theorem own_row {base : Nat} {w : World} {v : Value} {xs : List Int} (h : Own (ints .i64) 3 base w v xs) : w.ownsRow base 3 1 v xs.length (xs.map (Value.int .i64)) := by
  have := h
  unfold Own at this
  rw [show (ints .i64).all xs = xs.map (Value.int .i64) from of1_all _ _ _, show (ints .i64).size = 1 from rfl] at this
  exact this
theorem row_own {base : Nat} {w : World} {v : Value} {xs : List Int} (h : w.ownsRow base 3 1 v xs.length (xs.map (Value.int .i64))) : Own (ints .i64) 3 base w v xs := by
  unfold Own
  rw [show (ints .i64).all xs = xs.map (Value.int .i64) from of1_all _ _ _]
  exact h
def leI (x y : Int) : Bool := decide (x ≤ y)
theorem sortI_any {base : Nat} {w : World} {v : Value} {xs : List Int} (h : Own (ints .i64) 3 base w v xs) (hn : xs.length ≤ 8796093022208) (hb : base ≤ w.heap.size) :
    Calls Try.prog 23 #[v] w fun e w' => e = .returned (.tuple #[]) ∧ Own (ints .i64) 3 base w' v (xs.mergeSort fun x y => decide (x ≤ y)) ∧ Below base w w' := by
  obtain ⟨A', c', rfl, _, _, _⟩ := h.sl
  by_cases h0 : xs = []
  · subst h0
    refine (Try.slices_Sort_int_none _ _ _).mono ?_
    rintro e w1 ⟨rfl, rfl⟩
    exact ⟨rfl, by rw [List.mergeSort_nil]; exact h, Below.refl _ _⟩
  · have hv := own_ne_nil h h0
    have hown' := own_row h
    obtain ⟨g, cap, hve, hg, hgl, hlc, hcm, hzl, hH⟩ := Lib.holds_of_ownsRow hown' hv
    injection hve with e1 _ e3
    subst e1 e3
    have hS := Try.slices_Sort_int g 0 c' xs w hH hgl (by omega)
    obtain ⟨cur, hcur, hcs⟩ : ∃ cur, w.heap[g]? = some (.cells cur 3 (0, 0)) ∧ cur.size = c' * 1 := by
      rcases hown'.2 with ⟨h, _⟩ | ⟨g', cap', cur, h, _, h3, _, _, h6, _⟩
      · exact absurd h hv
      · injection h with h1 _ h3'
        injection h1 with h1
        injection h1 with h1
        subst h1 h3'
        exact ⟨cur, h3, h6⟩
    refine hS.mono ?_
    rintro e w1 ⟨rfl, n, os, rfl⟩
    refine ⟨rfl, ?_, (Below.refl base w).grown (grownBy_sortedI (w := w) (g := g) (n := n) (os := os) _) hb (fun k hk => by injection hk with hk; omega)⟩
    have := ownsRow_sortedI (w := w) (base := base) (g := g) (cap := c') (n := n) (e := 3) (os := os) (cur := cur) (ss := xs) (ts := xs.mergeSort fun x y => decide (x ≤ y)) (List.length_mergeSort _) hg hcur (by simpa using hlc) hcm hcs
    refine row_own ?_
    rw [List.length_mergeSort]
    exact this
theorem compI_any {base : Nat} {w : World} {v : Value} {xs : List Int} (h : Own (ints .i64) 3 base w v xs) (hn : xs.length ≤ 8796093022208) :
    Calls Try.prog 24 #[v] w fun e w' => ∃ v', e = .returned v' ∧ Own (ints .i64) 3 base w' v' (Lib.compact xs) ∧ Below base w w' := by
  obtain ⟨A', c', rfl, _, _, _⟩ := h.sl
  by_cases h0 : xs = []
  · subst h0
    refine (Try.slices_Compact_int_empty _ _ _).mono ?_
    rintro e w1 ⟨rfl, rfl⟩
    exact ⟨_, rfl, by rw [show Lib.compact ([] : List Int) = [] from rfl]; exact h, Below.refl _ _⟩
  · have hv := own_ne_nil h h0
    have hown' := own_row h
    obtain ⟨g, cap, hve, hg, hgl, hlc, hcm, hzl, hH⟩ := Lib.holds_of_ownsRow hown' hv
    injection hve with e1 _ e3
    subst e1 e3
    have hC := Try.slices_Compact_int g 0 c' xs w hH (by omega) (by omega)
    have hcl := Lib.compact_length_le xs
    refine hC.mono ?_
    rintro e w2 ⟨rfl, q, rfl⟩
    refine ⟨_, rfl, ?_, Lib.below_putRow (Below.refl base w) (by omega)⟩
    have := Lib.ownsRow_putRow (q := q) (k := (Lib.compact xs).length) (ys := Lib.compact xs ++ List.replicate (xs.length - (Lib.compact xs).length) 0) hown' (by simp; omega) hcl
    rw [List.take_left' rfl] at this
    exact row_own this

end Go.Proofs.Ytgmmblknaeepbaa
