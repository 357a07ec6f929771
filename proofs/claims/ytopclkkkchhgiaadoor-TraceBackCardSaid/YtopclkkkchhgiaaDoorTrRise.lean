/- trace.Rises: whether time goes on. -/
import Derived.Test.YtopclkkkchhgiaaDoorTrOf
namespace Go.Proofs.YtopclkkkchhgiaaDoor
open Go.RowKit

def pairUp (l : List Ev) (i : Nat) : Bool := match l[i]?, l[i + 1]? with
  | some x, some y => decide (x.t ≤ y.t)
  | _, _ => true
def upTo (l : List Ev) (k : Nat) : Bool := (List.range k).all (pairUp l)
theorem upTo_no {l : List Ev} {i k : Nat} (hi : i < k) (h : pairUp l i = false) : upTo l k = false := by
  unfold upTo
  rw [List.all_eq_false]
  exact ⟨i, List.mem_range.2 hi, by rw [h]; simp⟩
theorem upTo_yes {l : List Ev} {k : Nat} (h : ∀ i, i < k → pairUp l i = true) : upTo l k = true := by
  unfold upTo
  rw [List.all_eq_true]
  exact fun i hi => h i (List.mem_range.1 hi)
theorem upTo_succ (l : List Ev) (k : Nat) : upTo l (k + 1) = (upTo l k && pairUp l k) := by
  unfold upTo
  rw [List.range_succ, List.all_append]
  simp
theorem pairUp_eq {l : List Ev} {i : Nat} {x y : Ev} (hx : l[i]? = some x) (hy : l[i + 1]? = some y) : pairUp l i = decide (x.t ≤ y.t) := by unfold pairUp; rw [hx, hy]

theorem cmp_any (x y : Ev) (w : World) : Calls Tryd.prog 43 #[evV x, evV y] w fun e w' => e = .returned (.int .i64 (Lib.compareInt x.t y.t)) ∧ Below w.heap.size w w' := by
  obtain ⟨t, k, p, a, b⟩ := x
  obtain ⟨t2, k2, p2, a2, b2⟩ := y
  unfold evV
  simp only
  go_enter Tryd.func43, Tryd.ntmps43
  go_wp2_with (go_at_call 44; refine (Tryd.cmp_Compare_int _ _ _).mono ?_; rintro e w1 ⟨rfl, rfl⟩)
  go_ret
  exact ⟨rfl, ((Below.refl _ w).alloc (Nat.le_refl _) _).alloc (by simp) _⟩

/-- What the region of the comparison keeps. -/
def CmpSt (w : World) (b off m j : Nat) (x y : Ev) (w' : World) : Prop := Below w.heap.size w w' ∧ w'.cell? ⟨b, off + m * 5, none⟩ = some (.int .i64 x.t) ∧ w'.cell? ⟨b, off + m * 5 + 1, none⟩ = some (.int .i64 x.k) ∧ w'.cell? ⟨b, off + m * 5 + 2, none⟩ = some (.int .i64 x.p) ∧ w'.cell? ⟨b, off + m * 5 + 3, none⟩ = some (.int .i64 x.a) ∧ w'.cell? ⟨b, off + m * 5 + 4, none⟩ = some (.int .i64 x.b) ∧ w'.cell? ⟨b, off + j * 5, none⟩ = some (.int .i64 y.t) ∧ w'.cell? ⟨b, off + j * 5 + 1, none⟩ = some (.int .i64 y.k) ∧ w'.cell? ⟨b, off + j * 5 + 2, none⟩ = some (.int .i64 y.p) ∧ w'.cell? ⟨b, off + j * 5 + 3, none⟩ = some (.int .i64 y.a) ∧ w'.cell? ⟨b, off + j * 5 + 4, none⟩ = some (.int .i64 y.b)
theorem CmpSt.below {w w1 w' : World} {b off m j : Nat} {x y : Ev} (h : CmpSt w b off m j x y w1) (hb : Below w1.heap.size w1 w') : CmpSt w b off m j x y w' := by
  obtain ⟨h1, a0, a1, a2, a3, a4, b0, b1, b2, b3, b4⟩ := h
  have hk : ∀ {i : Nat} {u : Value}, w1.cell? ⟨b, i, none⟩ = some u → w'.cell? ⟨b, i, none⟩ = some u := fun {i u} hc => (hb.cell (p := ⟨b, i, none⟩) (cell_lt hc)).trans hc
  exact ⟨h1.trans (hb.mono h1.size), hk a0, hk a1, hk a2, hk a3, hk a4, hk b0, hk b1, hk b2, hk b3, hk b4⟩

set_option maxRecDepth 100000 in
set_option maxHeartbeats 1000000 in
theorem sorted_any (A : Option Addr) (c : Nat) (l : List Ev) (w : World) (hn : l.length ≤ 3000) (hl : EvSl w w.heap.size A l) :
    Calls Tryd.prog 42 #[.slice A l.length c, .func (.func 43) #[] #[]] w fun e w' => e = .returned (.bool (upTo l (l.length - 1))) ∧ Below w.heap.size w w' := by
  go_enter Tryd.func42, Tryd.ntmps42
  have ew : IntKind.i64.wrap ((l.length : Int) - 1) = (l.length : Int) - 1 := by simp [IntKind.wrap, IntKind.signed, IntKind.bits]; omega
  go_wp2_with fail
  go_loopw [5] (fun j wr => ∃ z : Int, j = .int .i64 z ∧ -1 ≤ z ∧ z ≤ (l.length : Int) - 1 ∧ (∀ i : Nat, z ≤ (i : Int) → i + 1 < l.length → pairUp l i = true) ∧ Below w.heap.size w wr) (fun j _ => (intOf j).toNat)
  case atStart => exact ⟨_, rfl, by omega, by omega, fun i h1 h2 => by omega, Below.refl _ _⟩
  case round =>
    obtain ⟨z, rfl, hz1, hz2, hall, hb⟩ := hrel
    by_cases hlt : 0 < z
    · obtain ⟨m, rfl⟩ := Int.eq_ofNat_of_zero_le (show 0 ≤ z by omega)
      obtain ⟨j, hj⟩ : ∃ j, m = j + 1 := ⟨m - 1, by omega⟩
      obtain ⟨x, hx⟩ := get_some (show m < l.length by omega)
      obtain ⟨y, hy⟩ := get_some (show j < l.length by omega)
      have hB := hl.below hb (Nat.le_refl _)
      obtain ⟨_, b, off, rfl, hlb, h0, h1, h2, h3, h4⟩ := hB.get hx
      obtain ⟨_, b2, off2, hA, _, g0, g1, g2, g3, g4⟩ := hB.get hy
      injection hA with hA
      injection hA with hA1 hA2
      subst hA1 hA2
      have hpu := Lib.hid (show pairUp l j = decide (y.t ≤ x.t) from pairUp_eq hy (by rw [← hj]; exact hx))
      have e1 : IntKind.i64.wrap ((m : Int) - 1) = (j : Int) := by rw [hj]; simp [IntKind.wrap, IntKind.signed, IntKind.bits]; omega
      have b1 : (0 : Int) ≤ (m : Int) := by omega
      have b2 : (m : Int) < (l.length : Int) := by omega
      have b3 : (0 : Int) ≤ (j : Int) := by omega
      have b4 : (j : Int) < (l.length : Int) := by omega
      have t1 : decide (0 < m) = true := by rw [decide_eq_true_iff]; omega
      have t1' : decide ((0 : Int) < (m : Int)) = true := decide_eq_true hlt
      have hSd : CmpSt w b off m j x y wr.drew := (show CmpSt w b off m j x y wr from ⟨hb, h0, h1, h2, h3, h4, g0, g1, g2, g3, g4⟩).below (Below.refl _ wr).drew
      have hall' := Lib.hid hall
      have hj' := Lib.hid hj
      have hz2' := Lib.hid hz2
      have hlt' := Lib.hid hlt
      clear hall hj hx hy hB hz1 hz2 hlt
      rcases hc : decide (y.t ≤ x.t) with _ | _
      · have hlt2 : x.t < y.t := by have := of_decide_eq_false hc; omega
        have hcm : Lib.compareInt x.t y.t = -1 := by unfold Lib.compareInt; rw [if_pos hlt2]
        have hcp := fun W => cmp_any x y W
        rw [hcm] at hcp
        have hcp' := Lib.hid hcp
        have hf := Lib.hid (upTo_no (l := l) (i := j) (k := l.length - 1) (by have h1 := hj'.out; have h2 := hz2'.out; omega) (by rw [hpu.out, hc]))
        clear hcp hc hlt2 hcm
        go_wp2_with fail
        go_region_held3 (fun w' => Below w.heap.size w w' ∧ w'.cell? ⟨b, off + m * 5, none⟩ = some (.int .i64 x.t) ∧ w'.cell? ⟨b, off + m * 5 + 1, none⟩ = some (.int .i64 x.k) ∧ w'.cell? ⟨b, off + m * 5 + 2, none⟩ = some (.int .i64 x.p) ∧ w'.cell? ⟨b, off + m * 5 + 3, none⟩ = some (.int .i64 x.a) ∧ w'.cell? ⟨b, off + m * 5 + 4, none⟩ = some (.int .i64 x.b) ∧ w'.cell? ⟨b, off + j * 5, none⟩ = some (.int .i64 y.t) ∧ w'.cell? ⟨b, off + j * 5 + 1, none⟩ = some (.int .i64 y.k) ∧ w'.cell? ⟨b, off + j * 5 + 2, none⟩ = some (.int .i64 y.p) ∧ w'.cell? ⟨b, off + j * 5 + 3, none⟩ = some (.int .i64 y.a) ∧ w'.cell? ⟨b, off + j * 5 + 4, none⟩ = some (.int .i64 y.b))
          (first | exact hSd | assumption)
          (first
            | (go_at_call 43; refine (hcp'.out _).mono ?_; rintro e wx ⟨rfl, hbx⟩; have hSx := CmpSt.below (w := w) (b := b) (off := off) (m := m) (j := j) (x := x) (y := y) (by assumption) hbx))
        all_goals
          go_wp2_with fail
          go_ret
          exact ⟨ret_bool (by rw [hf.out]), hSx.1⟩
      · have hge : y.t ≤ x.t := of_decide_eq_true hc
        obtain ⟨cv, hcv, hcn⟩ : ∃ cv : Int, Lib.compareInt x.t y.t = cv ∧ decide (cv < 0) = false := by
          refine ⟨_, rfl, ?_⟩
          rw [decide_eq_false_iff_not]
          unfold Lib.compareInt
          rw [if_neg (by omega)]
          split <;> omega
        have hcp := fun W => cmp_any x y W
        rw [hcv] at hcp
        have hcp' := Lib.hid hcp
        have hc' := Lib.hid hc
        clear hcp hc hge hcv
        go_wp2_with fail
        go_region_held3 (fun w' => Below w.heap.size w w' ∧ w'.cell? ⟨b, off + m * 5, none⟩ = some (.int .i64 x.t) ∧ w'.cell? ⟨b, off + m * 5 + 1, none⟩ = some (.int .i64 x.k) ∧ w'.cell? ⟨b, off + m * 5 + 2, none⟩ = some (.int .i64 x.p) ∧ w'.cell? ⟨b, off + m * 5 + 3, none⟩ = some (.int .i64 x.a) ∧ w'.cell? ⟨b, off + m * 5 + 4, none⟩ = some (.int .i64 x.b) ∧ w'.cell? ⟨b, off + j * 5, none⟩ = some (.int .i64 y.t) ∧ w'.cell? ⟨b, off + j * 5 + 1, none⟩ = some (.int .i64 y.k) ∧ w'.cell? ⟨b, off + j * 5 + 2, none⟩ = some (.int .i64 y.p) ∧ w'.cell? ⟨b, off + j * 5 + 3, none⟩ = some (.int .i64 y.a) ∧ w'.cell? ⟨b, off + j * 5 + 4, none⟩ = some (.int .i64 y.b))
          (first | exact hSd | assumption)
          (first
            | (go_at_call 43; refine (hcp'.out _).mono ?_; rintro e wx ⟨rfl, hbx⟩; have hSx := CmpSt.below (w := w) (b := b) (off := off) (m := m) (j := j) (x := x) (y := y) (by assumption) hbx))
        all_goals
          go_wp2_with fail
          go_roundw
          case rel => exact ⟨(j : Int), by go_num, by omega, by have := hj'.out; have := hz2'.out; omega, fun i h1 h2 => by
            by_cases hi : i = j
            · subst hi; rw [hpu.out, hc'.out]
            · exact hall'.out i (by have := hj'.out; omega) h2, hSx.1⟩
          case measure => have := hj'.out; simp [intOf]; omega
    · have hf := Lib.hid (upTo_yes (l := l) (k := l.length - 1) (fun i hi => hall i (by omega) (by omega)))
      have t1 : decide (0 < z) = false := decide_eq_false hlt
      clear hall
      go_wp2_with fail
      go_ret
      exact ⟨ret_bool (by rw [hf.out]), hb⟩

theorem rises_any (A : Option Addr) (c : Nat) (l : List Ev) (w : World) (hn : l.length ≤ 3000) (hl : EvSl w w.heap.size A l) :
    Calls Tryd.prog 19 #[.slice A l.length c] w fun e w' => e = .returned (.bool (upTo l (l.length - 1))) ∧ Below w.heap.size w w' := by
  go_enter Tryd.func19, Tryd.ntmps19
  go_wp2_with (go_at_call 42; refine (sorted_any A c l _ hn hl).mono ?_; rintro e w1 ⟨rfl, hb⟩)
  go_ret
  exact ⟨rfl, hb⟩

end Go.Proofs.YtopclkkkchhgiaaDoor
