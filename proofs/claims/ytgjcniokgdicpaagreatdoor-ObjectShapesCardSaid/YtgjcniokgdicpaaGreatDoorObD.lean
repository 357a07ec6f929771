/- Layer 20, the chapter's example: the operation, and its memory. -/
import Derived.Test.YtgjcniokgdicpaaGreatDoorObC
namespace Go.Proofs.YtgjcniokgdicpaaGreatDoor
open Go.RowKit
attribute [local go_sem] Oper.semAt_some

def opA (sb : Nat) : Array Value := #[.int .i64 3, .pointer none, .pointer none, .pointer (some ⟨sb, 0, none⟩), .pointer none, .pointer none, .pointer none]
section
variable (I R : Option Addr)
set_option maxRecDepth 100000 in
set_option maxHeartbeats 4000000 in
theorem obegin_c (w : World) : Calls Tryz.prog 15 #[.agg (oS I R), .int .i64 0, .int .i64 1, .int .i64 0, .slice none 0 0] w fun e w' => ∃ xb sb, e = .returned (.tuple #[.pointer (some ⟨xb, 0, none⟩), .int .i64 0]) ∧ w.heap.size ≤ xb ∧ xb < sb ∧ RowB w' xb (opA sb) 78 ∧ RowB w' sb (coreA I R 0 0 (.pointer none) 0) 120 ∧ Below w.heap.size w w' := by
  have hsb := fun W => sbegin_c I R W
  have hn := RowB.new w (oS I R) 36
  have hB := (Below.refl w.heap.size w).alloc (Nat.le_refl _) (.cells (oS I R) 36)
  have hx := RowB.new (w.alloc (.cells (oS I R) 36)) #[.int .i64 3, .pointer none, .pointer none, .pointer none, .pointer none, .pointer none, .pointer none] 78
  have hb1 := (Below.refl _ (w.alloc (.cells (oS I R) 36))).alloc (Nat.le_refl _) (.cells #[.int .i64 3, .pointer none, .pointer none, .pointer none, .pointer none, .pointer none, .pointer none] 78)
  have hn1 := hn.kept hb1
  have hB1 := hB.trans (hb1.mono hB.size)
  rw [World.size_alloc] at hx
  obtain ⟨n, hn'⟩ : ∃ n, w.heap.size = n := ⟨_, rfl⟩
  rw [hn'] at hn1 hx hB1 ⊢
  obtain ⟨C0, hC0⟩ : ∃ x, coreA I R 0 0 (.pointer none) 0 = x := ⟨_, rfl⟩
  rw [hC0] at hsb ⊢
  unfold oS at hsb hn1 hx hB1
  have HSB := Lib.hid hsb
  have HN := Lib.hid hn1
  have HX := Lib.hid hx
  have HB := Lib.hid hB1
  clear hsb hn hB hx hb1 hn1 hB1 hC0
  unfold oS
  go_enter Tryz.func15, Tryz.ntmps15
  go_wp2_with fail
  refine (HSB.out _).mono ?_
  rintro e w1 ⟨sb, rfl, hsb, hr, hb⟩
  have hx1 := HX.out.kept hb
  have hB2 := HB.out.trans (hb.mono (by have := HB.out.size; omega))
  have hs := HX.out.lt
  have hne : n + 1 ≠ sb := by omega
  have c3 := (hx1.cell 3).trans rfl
  have f3 := hx1.frozen 3
  have hx2 := hx1.set 3 (.pointer (some ⟨sb, 0, none⟩))
  have hr2 := hr.other (n + 1) 3 (.pointer (some ⟨sb, 0, none⟩)) (by omega)
  have hB3 := below_set1 hB2 (n + 1) 3 (by omega) (.pointer (some ⟨sb, 0, none⟩))
  clear HSB HN HX HB hb hx1 hB2 hr
  go_wp2_with fail
  go_ret2
  exact ⟨n + 1, sb, rfl, by omega, by omega, hx2, hr2, hB3⟩
end

theorem mk2 (w : World) : (Instr.makeSlice 33 (.int .i64 2) (.int .i64 2)).run Tryz.prog w = .ok (.slice (some ⟨w.heap.size, 0, none⟩) 2 2) (w.alloc (.cells #[.int .u32 0, .int .u32 0] 32)) := by kernel_rfl
set_option maxRecDepth 100000 in
theorem new_c (w : World) : Calls Tryz.prog 60 #[.int .i64 2] w fun e w' => e = .returned (.tuple #[.pointer (some ⟨w.heap.size + 1, 0, none⟩), .int .i64 0]) ∧ w' = (w.alloc (.cells #[.int .u32 0, .int .u32 0] 32)).alloc (.cells #[.slice (some ⟨w.heap.size, 0, none⟩) 2 2, .int .i64 0] 125) := by
  have hmk := mk2
  go_enter Tryz.func60, Tryz.ntmps60
  go_wp2_with fail
  go_ret2
  exact ⟨rfl, rfl⟩

/-- A memory of two words. -/
def MemB (w : World) (mb lb : Nat) (x y : Int) (k : Int) : Prop := RowB w mb #[.slice (some ⟨lb, 0, none⟩) 2 2, .int .i64 k] 125 ∧ RowB w lb #[.int .u32 x, .int .u32 y] 32 ∧ lb ≠ mb
theorem MemB.kept {w w' : World} {mb lb : Nat} {x y k : Int} (h : MemB w mb lb x y k) (hb : Below w.heap.size w w') : MemB w' mb lb x y k := ⟨h.1.kept hb, h.2.1.kept hb, h.2.2⟩
set_option maxRecDepth 100000 in
set_option maxHeartbeats 1000000 in
theorem fillm_c (a mb lb N : Nat) (w : World) (hm : MemB w mb lb 0 0 0) (ha : RowB w a #[.int .u32 2, .int .u32 9] 32) (_h1 : a ≠ lb) (_h2 : a ≠ mb) (hN : N ≤ lb) (hN2 : N ≤ w.heap.size) : Calls Tryz.prog 61 #[.pointer (some ⟨mb, 0, none⟩), .int .i64 0, .slice (some ⟨a, 0, none⟩) 2 2] w fun e w' => e = .returned (.int .i64 0) ∧ MemB w' mb lb 2 9 0 ∧ Below N w w' := by
  have hin := fun W => inside_c W
  have HI := Lib.hid hin
  have c0 := (hm.1.cell 0).trans rfl
  have c1 := (hm.1.cell 1).trans rfl
  have hl := hm.2.2
  have HM := Lib.hid hm
  have HA := Lib.hid ha
  clear hin hm ha
  go_enter Tryz.func61, Tryz.ntmps61
  go_wp2_with fail
  refine (HI.out _).mono ?_
  rintro e w1 ⟨rfl, hb⟩
  have hm1 := HM.out.kept hb
  have ha1 := HA.out.kept hb
  clear c0 c1
  have c0 := (hm1.1.cell 0).trans rfl
  have hcp : (Builtin.copy_ #[33, 33] 3 #[.slice (some ⟨lb, 0, none⟩) 2 2, .slice (some ⟨a, 0, none⟩) 2 2]).run Tryz.prog w1 = .ok (.int .i64 2) (w1.setRow lb #[.int .u32 2, .int .u32 9]) :=
    run_copy_row (P := Tryz.prog) w1 33 33 3 32 lb 0 2 2 ⟨a, 0, none⟩ 2 2 _ _ [.int .u32 2, .int .u32 9] Tryz.underlying33 (by kernel_rfl) hm1.2.1 rfl (fun j v hv => by
      match j, hv with
      | 0, hv => injection hv with hv; subst hv; exact (ha1.cell 0).trans rfl
      | 1, hv => injection hv with hv; subst hv; exact (ha1.cell 1).trans rfl
      | j + 2, hv => cases hv) (by decide) (by simp [Value.oneCell'])
  have hB := (hb.mono hN2).trans (below_setRow (Below.refl N w1) lb #[.int .u32 2, .int .u32 9] hN)
  have hres : MemB (w1.setRow lb #[.int .u32 2, .int .u32 9]) mb lb 2 9 0 := ⟨hm1.1.far (fun e => hl e.symm), hm1.2.1.row, hl⟩
  clear hb hm1 ha1 HM HA HI
  go_wp2_with fail
  go_ret
  exact ⟨rfl, hres, hB⟩
set_option maxRecDepth 100000 in
set_option maxHeartbeats 1000000 in
theorem memory_c (a : Nat) (w : World) (ha : RowB w a #[.int .u32 2, .int .u32 9] 32) : Calls Tryz.prog 18 #[.slice (some ⟨a, 0, none⟩) 2 2] w fun e w' => ∃ mb lb, e = .returned (.pointer (some ⟨mb, 0, none⟩)) ∧ w.heap.size ≤ lb ∧ w.heap.size ≤ mb ∧ MemB w' mb lb 2 9 0 ∧ Below w.heap.size w w' := by
  have hnw := new_c w
  have HN := Lib.hid hnw
  have hb1 := (Below.refl _ w).alloc (Nat.le_refl _) (.cells #[.int .u32 0, .int .u32 0] 32)
  have hb2 := (Below.refl _ (w.alloc (.cells #[.int .u32 0, .int .u32 0] 32))).alloc (Nat.le_refl _) (.cells #[.slice (some ⟨w.heap.size, 0, none⟩) 2 2, .int .i64 0] 125)
  have hl := (RowB.new w #[.int .u32 0, .int .u32 0] 32).kept hb2
  have hm := RowB.new (w.alloc (.cells #[.int .u32 0, .int .u32 0] 32)) #[.slice (some ⟨w.heap.size, 0, none⟩) 2 2, .int .i64 0] 125
  have ha2 := (ha.kept hb1).kept hb2
  have hal := ha.lt
  have hB := hb1.trans (hb2.mono hb1.size)
  rw [World.size_alloc] at hm
  have hf := fillm_c a (w.heap.size + 1) w.heap.size w.heap.size _ ⟨hm, hl, by omega⟩ ha2 (by omega) (by omega) (Nat.le_refl _) (by simp; omega)
  have HF := Lib.hid hf
  have HB := Lib.hid hB
  clear hnw hb1 hb2 hl hm ha2 hf hB ha
  go_enter Tryz.func18, Tryz.ntmps18
  go_wp2_with fail
  refine HN.out.mono ?_
  rintro e w1 ⟨rfl, rfl⟩
  go_wp2_with fail
  refine HF.out.mono ?_
  rintro e w2 ⟨rfl, hm2, hb3⟩
  go_wp2_with fail
  go_ret
  exact ⟨_, _, rfl, Nat.le_refl _, by omega, hm2, HB.out.trans hb3⟩

/-! ### a step -/
set_option maxRecDepth 100000 in
set_option maxHeartbeats 1000000 in
theorem word_c (mb lb : Nat) (w : World) (hm : MemB w mb lb 2 9 0) : Calls Tryz.prog 142 #[.pointer (some ⟨mb, 0, none⟩), .int .i64 0] w fun e w' => e = .returned (.tuple #[.pointer (some ⟨lb, 0, none⟩), .int .i64 0]) ∧ w' = w.setCell ⟨mb, 1, none⟩ (.int .i64 1) := by
  have c0 := (hm.1.cell 0).trans rfl
  have c1 := (hm.1.cell 1).trans rfl
  have cf := hm.1.frozen 1
  clear hm
  go_enter Tryz.func142, Tryz.ntmps142
  go_wp2_with fail
  go_ret2
  exact ⟨rfl, rfl⟩
set_option maxRecDepth 100000 in
set_option maxHeartbeats 1000000 in
theorem mread_c (mb lb : Nat) (w : World) (hm : MemB w mb lb 2 9 0) : Calls Tryz.prog 187 #[.pointer (some ⟨mb, 0, none⟩), .int .i64 0] w fun e w' => e = .returned (.tuple #[.int .u32 2, .int .i64 0]) ∧ w' = w.setCell ⟨mb, 1, none⟩ (.int .i64 1) := by
  have hw := word_c mb lb w hm
  have l0 := (((hm.2.1.other mb 1 (.int .i64 1) hm.2.2).cell 0).trans rfl : (w.setCell ⟨mb, 1, none⟩ (.int .i64 1)).cell? ⟨lb, 0, none⟩ = some (.int .u32 2))
  have HW := Lib.hid hw
  clear hw hm
  go_enter Tryz.func187, Tryz.ntmps187
  go_wp2_with fail
  refine HW.out.mono ?_
  rintro e w1 ⟨rfl, rfl⟩
  go_wp2_with fail
  go_ret2
  exact ⟨rfl, rfl⟩

end Go.Proofs.YtgjcniokgdicpaaGreatDoor
