/- asm.guess: the instruction that a line may be of, kind for kind. -/
import Derived.Test.YtkcdmonmgnmojaaDoorAsmG
namespace Go.Proofs.YtkcdmonmgnmojaaDoor
open Go.RowKit

set_option maxRecDepth 100000 in
set_option maxHeartbeats 4000000 in
theorem guess_load (op : Int) (p0 : List UInt8) (ps : List (List UInt8)) (s : ByteArray) (w : World) (hM : Mx w) (hs : s.size ≤ 1000000) (hps : pcs 32 s.data.toList = ps) (hp0 : ps[0]? = some p0) (hpl : ∀ p ∈ ps, p.length ≤ 1000000) (hn : ps.length ≤ 1000001) (hk : kindOf p0 = op) (ho : 11 ≤ op ∧ op ≤ 20 ∧ op ≠ 13 ∧ op ≠ 14 ∧ op ≠ 15 ∧ op ≠ 16) :
    Calls Tryd.prog 42 #[.string s] w fun r W' => r = .returned (insV ⟨op, wordAt ps 1, wordAt ps 2, 0, wordAt ps 3⟩) ∧ Below w.heap.size w W' := by
  have x16 : (op == 16) = false := by rw [beq_eq_false_iff_ne]; omega
  have x14 : (op == 14) = false := by rw [beq_eq_false_iff_ne]; omega
  have x1 : (op == 1) = false := by rw [beq_eq_false_iff_ne]; omega
  have x15 : (op == 15) = false := by rw [beq_eq_false_iff_ne]; omega
  have x2 : (op == 2) = false := by rw [beq_eq_false_iff_ne]; omega
  have x13 : (op == 13) = false := by rw [beq_eq_false_iff_ne]; omega
  have y3 : (decide (3 ≤ op) && decide (op ≤ 10)) = false := by simp; omega
  have y3a : decide (3 ≤ op) = true := decide_eq_true (by omega)
  have y3b : decide (op ≤ 10) = false := decide_eq_false (by omega)
  have y5 : (op != 0) = true := by simp; omega
  have y6 : (op != 21) = true := by simp; omega
  have hsp := fun W hM => split_any s 32 W hM hs
  rw [hps] at hsp
  have hki := fun W => kind_any ⟨p0.toArray⟩ W
  rw [show (⟨p0.toArray⟩ : ByteArray).data.toList = p0 from rfl, hk] at hki
  have hl0 : 0 < ps.length := get_lt hp0
  have hl1 : (0 : Int) < (ps.length : Int) := by omega
  have hsp' := Lib.hid hsp
  have hki' := Lib.hid hki
  have hMz' := Lib.hid (hM.below ((Below.refl _ w).alloc (Nat.le_refl _) (.cells #[.int .i64 0, .int .i64 0, .int .i64 0, .int .i64 0, .int .u32 0] 24)))
  have hpl' := Lib.hid hpl
  clear hsp hki hps hk hpl hM
  go_enter Tryd.func42, Tryd.ntmps42
  go_wp2_with fail
  refine (hsp'.out _ hMz'.out).mono ?_
  rintro e w1 ⟨rfl, hc1, hb1⟩
  simp only [World.size_alloc] at hc1
  have c0 := hc1 0 p0 hp0
  have hlt1 : w.heap.size + 1 < w1.heap.size := cell_lt c0
  have hne1 : w.heap.size + 1 ≠ w1.heap.size := by omega
  have hc1' := Lib.hid hc1
  clear hc1
  go_wp2_with fail
  refine (hki'.out _).mono ?_
  rintro e w2 ⟨rfl, hb2⟩
  have hG0 := gst_start (op := op) hc1'.out hb1 hlt1 hb2
  have hs2 : w1.heap.size < w2.heap.size := hG0.hn.2
  have hne2 : w1.heap.size ≠ w2.heap.size := by omega
  have hne3 : w.heap.size ≠ w2.heap.size := by omega
  have hne4 : w.heap.size ≠ w2.heap.size + 1 := by omega
  have hlt3 : w.heap.size < w2.heap.size := by omega
  have hlt4 : w.heap.size < w2.heap.size + 1 := by omega
  have hlt5 : w.heap.size < w2.heap.size + 1 + 1 := by omega
  have hne5 : w.heap.size ≠ w2.heap.size + 1 + 1 := by omega
  have hrw : InBox w2 w.heap.size Ins.zero := ((hb2.block _ (by rw [World.size_alloc]; omega)).trans ((Below.heap_alloc _ _ _ (by omega)).trans ((hb1.block _ (by rw [World.size_alloc]; omega)).trans (heap_alloc_new w _))))
  obtain ⟨y0, y1, y2, y3, y4⟩ := hrw.cells
  have z0 := hrw.frozen 0
  have z1 := hrw.frozen 1
  have z2 := hrw.frozen 2
  have z3 := hrw.frozen 3
  have z4 := hrw.frozen 4
  have hst := fun W p => run_store Tryd.prog W p (.func (.func 84) #[] #[.pointer (some ⟨w2.heap.size + 1, 0, none⟩), .pointer (some ⟨w1.heap.size, 0, none⟩)]) .plain rfl
  have hB1 : Below w.heap.size w w1 := ((Below.refl _ w).alloc (Nat.le_refl _) _).trans (hb1.mono (by simp))
  have hB2 : Below w.heap.size w w2 := (hB1.alloc hB1.size _).trans (hb2.mono (by rw [World.size_alloc]; have := hB1.size; omega))
  have hB2' := Lib.hid hB2
  have hrw' := Lib.hid hrw
  clear c0 hc1' hb1 hb2 hB1 hB2 hrw
  go_wp2_with (first
    | (go_at_call 84; refine (next_any (by assumption) (by omega) hpl'.out).mono ?_; rintro e wx ⟨rfl, hbx⟩; have hGx := GSt.next (by assumption) hbx; have hSx := hGx.hx.cell; obtain ⟨d0, d1, d2, d3, d4⟩ := hGx.hi.cells; have q0 := hGx.hi.frozen 0; have q1 := hGx.hi.frozen 1; have q2 := hGx.hi.frozen 2; have q3 := hGx.hi.frozen 3; have q4 := hGx.hi.frozen 4; obtain ⟨y0, y1, y2, y3, y4⟩ := hGx.hr.cells; have z0 := hGx.hr.frozen 0; have z1 := hGx.hr.frozen 1; have z2 := hGx.hr.frozen 2; have z3 := hGx.hr.frozen 3; have z4 := hGx.hr.frozen 4; unfold nextV at hSx)
    | (go_at_call 86; refine (small_any (by assumption) (by omega) hpl'.out).mono ?_; rintro e wx ⟨rfl, hbx⟩; have hGx := GSt.next (by assumption) hbx; have hSx := hGx.hx.cell; obtain ⟨d0, d1, d2, d3, d4⟩ := hGx.hi.cells; have q0 := hGx.hi.frozen 0; have q1 := hGx.hi.frozen 1; have q2 := hGx.hi.frozen 2; have q3 := hGx.hi.frozen 3; have q4 := hGx.hi.frozen 4; obtain ⟨y0, y1, y2, y3, y4⟩ := hGx.hr.cells; have z0 := hGx.hr.frozen 0; have z1 := hGx.hr.frozen 1; have z2 := hGx.hr.frozen 2; have z3 := hGx.hr.frozen 3; have z4 := hGx.hr.frozen 4; unfold nextV at hSx))
  have hGd := hG0.drew
  have hSd := hGd.hx.cell
  unfold nextV at hSd
  go_region_held3 (fun w' => w'.cell? ⟨w2.heap.size + 1 + 1, 0, none⟩ = some (.func (.func 84) #[] #[.pointer (some ⟨w2.heap.size + 1, 0, none⟩), .pointer (some ⟨w1.heap.size, 0, none⟩)]))
    (first | with_reducible exact hSd | with_reducible assumption | (rw [World.cell?_setCell_far _ _ _ _ (by simp <;> omega)]; with_reducible assumption) | (rw [World.cell?_setCell_far _ _ _ _ (by simp <;> omega), World.cell?_setCell_far _ _ _ _ (by simp <;> omega)]; with_reducible assumption) | (rw [World.cell?_setCell_far _ _ _ _ (by simp <;> omega), World.cell?_setCell_far _ _ _ _ (by simp <;> omega), World.cell?_setCell_far _ _ _ _ (by simp <;> omega)]; with_reducible assumption) | (rw [World.cell?_setCell_far _ _ _ _ (by simp <;> omega), World.cell?_setCell_far _ _ _ _ (by simp <;> omega), World.cell?_setCell_far _ _ _ _ (by simp <;> omega), World.cell?_setCell_far _ _ _ _ (by simp <;> omega)]; with_reducible assumption))
    (first
      | (go_at_call 84; refine (next_any (by assumption) (by omega) hpl'.out).mono ?_; rintro e wx ⟨rfl, hbx⟩; have hGx := GSt.next (by assumption) hbx; have hSx := hGx.hx.cell; obtain ⟨d0, d1, d2, d3, d4⟩ := hGx.hi.cells; have q0 := hGx.hi.frozen 0; have q1 := hGx.hi.frozen 1; have q2 := hGx.hi.frozen 2; have q3 := hGx.hi.frozen 3; have q4 := hGx.hi.frozen 4; obtain ⟨y0, y1, y2, y3, y4⟩ := hGx.hr.cells; have z0 := hGx.hr.frozen 0; have z1 := hGx.hr.frozen 1; have z2 := hGx.hr.frozen 2; have z3 := hGx.hr.frozen 3; have z4 := hGx.hr.frozen 4; unfold nextV at hSx)
      | (go_at_call 86; refine (small_any (by assumption) (by omega) hpl'.out).mono ?_; rintro e wx ⟨rfl, hbx⟩; have hGx := GSt.next (by assumption) hbx; have hSx := hGx.hx.cell; obtain ⟨d0, d1, d2, d3, d4⟩ := hGx.hi.cells; have q0 := hGx.hi.frozen 0; have q1 := hGx.hi.frozen 1; have q2 := hGx.hi.frozen 2; have q3 := hGx.hi.frozen 3; have q4 := hGx.hi.frozen 4; obtain ⟨y0, y1, y2, y3, y4⟩ := hGx.hr.cells; have z0 := hGx.hr.frozen 0; have z1 := hGx.hr.frozen 1; have z2 := hGx.hr.frozen 2; have z3 := hGx.hr.frozen 3; have z4 := hGx.hr.frozen 4; unfold nextV at hSx))
  all_goals
    have hF := (((hGx.putA (wordAt ps 1)).putB (wordAt ps 2)).putN (wordAt ps 3))
    obtain ⟨d0, d1, d2, d3, d4⟩ := hF.hi.cells
    obtain ⟨y0, y1, y2, y3, y4⟩ := hF.hr.cells
    have z0 := hF.hr.frozen 0
    have z1 := hF.hr.frozen 1
    have z2 := hF.hr.frozen 2
    have z3 := hF.hr.frozen 3
    have z4 := hF.hr.frozen 4
    go_wp2_with fail
    refine bodyPost_ret (res_guess _ _ rfl (hF.hr.set5 ⟨op, wordAt ps 1, wordAt ps 2, 0, wordAt ps 3⟩)) rfl ?_
    exact ⟨rfl, below_set5 hF.hb _ (Nat.le_refl _) _ _ _ _ _⟩

end Go.Proofs.YtkcdmonmgnmojaaDoor
