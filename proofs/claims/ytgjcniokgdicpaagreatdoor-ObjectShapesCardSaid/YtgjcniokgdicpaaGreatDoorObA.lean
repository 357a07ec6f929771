/- Layer 20, the chapter's example: a sequenced object of one word; what is asked of it ahead. -/
import Derived.Test.YtgjcniokgdicpaaGreatDoorWalk
import Derived.Test.YtgjcniokgdicpaaGreatDoorHeld
import Derived.Laws.Tables
import Derived.Below
import Derived.Lib.SliceRun
namespace Go.Proofs.YtgjcniokgdicpaaGreatDoor
open Go.RowKit
attribute [local go_sem] Oper.semAt_some

def oS (I R : Option Addr) : Array Value := #[.int .i64 3, .int .i64 1, .int .i64 0, .int .i64 1, .int .u32 0, .slice I 1 1, .int .i64 0, .slice R 1 1]
def coreA (I R : Option Addr) (ph a : Int) (mp : Value) (st : Int) : Array Value := #[.int .i64 3, .int .i64 1, .int .i64 0, .int .i64 1, .int .u32 0, .slice I 1 1, .int .i64 0, .slice R 1 1, .int .i64 1, .int .i64 0, .int .i64 ph, .int .i64 0, .int .i64 0, .int .u32 a, .int .u32 0, .int .u64 0, .slice none 0 0, mp, .int .i64 0, .int .i64 2, .int .i64 0, .int .i64 st, .bool false]
section
variable (I R : Option Addr)
theorem words_c (w : World) : Calls Tryz.prog 155 #[.agg (oS I R), .int .i64 3, .int .i64 1] w fun e w' => e = .returned (.bool true) ∧ Below w.heap.size w w' := by
  unfold oS
  go_enter Tryz.func155, Tryz.ntmps155
  go_wp2_with fail
  go_ret
  exact ⟨rfl, (Below.refl _ w).alloc (Nat.le_refl _) _⟩
theorem caps_c (w : World) : Calls Tryz.prog 156 #[.agg (oS I R)] w fun e w' => e = .returned (.bool true) ∧ Below w.heap.size w w' := by
  unfold oS
  go_enter Tryz.func156, Tryz.ntmps156
  go_wp2_with fail
  go_ret
  exact ⟨rfl, (Below.refl _ w).alloc (Nat.le_refl _) _⟩
theorem seqsize_c (w : World) : Calls Tryz.prog 123 #[.agg (oS I R)] w fun e w' => e = .returned (.int .i64 2) ∧ Below w.heap.size w w' := by
  unfold oS
  go_enter Tryz.func123, Tryz.ntmps123
  go_wp2_with fail
  go_ret
  exact ⟨rfl, (Below.refl _ w).alloc (Nat.le_refl _) _⟩
/-- An object in a block. -/
def ObB (w : World) (n : Nat) : Prop := w.heap[n]? = some (.cells (oS I R) 36 (0, 0))
variable {I R}
theorem ObB.cells {w : World} {n : Nat} (h : ObB I R w n) : w.cell? ⟨n, 0, none⟩ = some (.int .i64 3) ∧ w.cell? ⟨n, 1, none⟩ = some (.int .i64 1) ∧ w.cell? ⟨n, 2, none⟩ = some (.int .i64 0) ∧ w.cell? ⟨n, 3, none⟩ = some (.int .i64 1) ∧ w.cell? ⟨n, 4, none⟩ = some (.int .u32 0) ∧ w.cell? ⟨n, 5, none⟩ = some (.slice I 1 1) ∧ w.cell? ⟨n, 6, none⟩ = some (.int .i64 0) ∧ w.cell? ⟨n, 7, none⟩ = some (.slice R 1 1) := by
  refine ⟨?_, ?_, ?_, ?_, ?_, ?_, ?_, ?_⟩ <;> simp [World.cell?, show w.heap[n]? = _ from h, oS]
theorem ObB.kept {w w' : World} {n : Nat} (h : ObB I R w n) (hb : Below w.heap.size w w') : ObB I R w' n := (hb.block n (Array.getElem?_eq_some_iff.1 h).1).trans h
theorem ObB.new (w : World) : ObB I R (w.alloc (.cells (oS I R) 36)) w.heap.size := heap_alloc_new w _
variable (I R)
set_option maxRecDepth 100000 in
theorem seqRight_c (w : World) : Calls Tryz.prog 108 #[.agg (oS I R)] w fun e w' => e = .returned (.bool true) ∧ Below w.heap.size w w' := by
  have hw := words_c I R
  have hc := caps_c I R
  have hn := ObB.new (I := I) (R := R) w
  have hB := (Below.refl w.heap.size w).alloc (Nat.le_refl _) (.cells (oS I R) 36)
  obtain ⟨n, hn'⟩ : ∃ n, w.heap.size = n := ⟨_, rfl⟩
  rw [hn'] at hn
  unfold oS at hw hc hB
  have hw' := Lib.hid hw
  have hc' := Lib.hid hc
  have hn2 := Lib.hid hn
  have HB := Lib.hid hB
  clear hw hc hn hB
  unfold oS
  go_enter Tryz.func108, Tryz.ntmps108
  go_wp2_with fail
  refine (hw'.out _).mono ?_
  rintro e w1 ⟨rfl, hb1⟩
  have ho1 := ObB.kept hn2.out hb1
  obtain ⟨d0, d1, d2, d3, d4, d5, d6, d7⟩ := ho1.cells
  have hB1 := HB.out.trans (hb1.mono HB.out.size)
  go_wp2_with fail
  refine (hc'.out _).mono ?_
  rintro e w2 ⟨rfl, hb2⟩
  clear d0 d1 d2 d3 d4 d5 d6 d7
  obtain ⟨d0, d1, d2, d3, d4, d5, d6, d7⟩ := (ho1.kept hb2).cells
  go_wp2_with fail
  go_ret
  exact ⟨rfl, hB1.trans (hb2.mono hB1.size)⟩
set_option maxRecDepth 100000 in
theorem seqSize_c (w : World) : Calls Tryz.prog 50 #[.agg (oS I R)] w fun e w' => e = .returned (.int .i64 2) ∧ Below w.heap.size w w' := by
  have hw := seqRight_c I R
  have hc := seqsize_c I R
  have hn := ObB.new (I := I) (R := R) w
  have hB := (Below.refl w.heap.size w).alloc (Nat.le_refl _) (.cells (oS I R) 36)
  obtain ⟨n, hn'⟩ : ∃ n, w.heap.size = n := ⟨_, rfl⟩
  rw [hn'] at hn
  unfold oS at hw hc hB
  have hw' := Lib.hid hw
  have hc' := Lib.hid hc
  have hn2 := Lib.hid hn
  have HB := Lib.hid hB
  clear hw hc hn hB
  unfold oS
  go_enter Tryz.func50, Tryz.ntmps50
  go_wp2_with fail
  refine (hw'.out _).mono ?_
  rintro e w1 ⟨rfl, hb1⟩
  have ho1 := ObB.kept hn2.out hb1
  obtain ⟨d0, d1, d2, d3, d4, d5, d6, d7⟩ := ho1.cells
  have hB1 := HB.out.trans (hb1.mono HB.out.size)
  go_wp2_with fail
  refine (hc'.out _).mono ?_
  rintro e w2 ⟨rfl, hb2⟩
  go_wp2_with fail
  go_ret
  exact ⟨rfl, hB1.trans (hb2.mono hB1.size)⟩
end
set_option maxRecDepth 100000 in
theorem clone_nil (w : World) : Calls Tryz.prog 154 #[.slice none 0 0] w fun e w' => e = .returned (.slice none 0 0) ∧ w' = w := by
  have hn := fun W => Lib.run_eql_slice_nil (P := Tryz.prog) W 33 32 none 0 0 0 0 Tryz.underlying33
  go_enter Tryz.func154, Tryz.ntmps154
  go_wp2_with fail
  go_ret
  exact ⟨rfl, rfl⟩
set_option maxRecDepth 100000 in
theorem region_c (w : World) (a b : Int) (ha : 0 ≤ a) (hb : 0 ≤ b) : Calls Tryz.prog 185 #[.agg #[.int .i64 a, .int .i64 b]] w fun e w' => e = .returned (.bool true) ∧ Below w.heap.size w w' := by
  have t1 : decide (0 ≤ a) = true := decide_eq_true ha
  have t2 : decide (0 ≤ b) = true := decide_eq_true hb
  go_enter Tryz.func185, Tryz.ntmps185
  go_wp2_with fail
  go_ret
  exact ⟨rfl, (Below.refl _ w).alloc (Nat.le_refl _) _⟩
set_option maxRecDepth 100000 in
theorem inside_c (w : World) : Calls Tryz.prog 140 #[.int .i64 2, .agg #[.int .i64 0, .int .i64 2]] w fun e w' => e = .returned (.bool true) ∧ Below w.heap.size w w' := by
  have hr := Lib.hid fun W => region_c W 0 2 (by omega) (by omega)
  have hB := (Below.refl w.heap.size w).alloc (Nat.le_refl _) (.cells #[.int .i64 0, .int .i64 2] 108)
  have hn : (w.alloc (.cells #[.int .i64 0, .int .i64 2] 108)).heap[w.heap.size]? = some (.cells #[.int .i64 0, .int .i64 2] 108 (0, 0)) := heap_alloc_new w _
  obtain ⟨n, hn'⟩ : ∃ n, w.heap.size = n := ⟨_, rfl⟩
  rw [hn'] at hn
  have hn2 := Lib.hid hn
  have HB := Lib.hid hB
  clear hn hB
  go_enter Tryz.func140, Tryz.ntmps140
  go_wp2_with fail
  refine (hr.out _).mono ?_
  rintro e w1 ⟨rfl, hb1⟩
  have hk := (hb1.block n (Array.getElem?_eq_some_iff.1 hn2.out).1).trans hn2.out
  have d0 : w1.cell? ⟨n, 0, none⟩ = some (.int .i64 0) := by simp [World.cell?, hk]
  have d1 : w1.cell? ⟨n, 1, none⟩ = some (.int .i64 2) := by simp [World.cell?, hk]
  go_wp2_with fail
  go_ret
  exact ⟨rfl, HB.out.trans (hb1.mono HB.out.size)⟩

end Go.Proofs.YtgjcniokgdicpaaGreatDoor
