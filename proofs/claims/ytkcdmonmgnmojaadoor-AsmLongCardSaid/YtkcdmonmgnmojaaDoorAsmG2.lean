/- asm.guess: the instruction that a line may be of, kind for kind. -/
import Derived.Test.YtkcdmonmgnmojaaDoorAsmG
namespace Go.Proofs.YtkcdmonmgnmojaaDoor
open Go.RowKit

set_option maxRecDepth 100000 in
set_option maxHeartbeats 4000000 in
theorem guess_back (op : Int) (p0 : List UInt8) (ps : List (List UInt8)) (s : ByteArray) (w : World) (hM : Mx w) (hs : s.size ≤ 1000000) (hps : pcs 32 s.data.toList = ps) (hp0 : ps[0]? = some p0) (hpl : ∀ p ∈ ps, p.length ≤ 1000000) (hn : ps.length ≤ 1000001) (hk : kindOf p0 = op) (ho : op = 16) :
    Calls Tryd.prog 42 #[.string s] w fun r W' => r = .returned (insV ⟨16, 0, 0, wordAt ps 2, wordAt ps 1⟩) ∧ Below w.heap.size w W' := by
  subst ho
  have hsp := fun W hM => split_any s 32 W hM hs
  rw [hps] at hsp
  have hki := fun W => kind_any ⟨p0.toArray⟩ W
  rw [show (⟨p0.toArray⟩ : ByteArray).data.toList = p0 from rfl, hk] at hki
  have hl0 : 0 < ps.length := get_lt hp0
  have hl1 : (0 : Int) < (ps.length : Int) := by omega
  have hsp' := Lib.hid hsp
  have hki' := Lib.hid hki
  have hMz' := Lib.hid (hM.below ((Below.refl _ w).alloc (Nat.le_refl _) (.cells #[.int .i64 0, .int .i64 0, .int .i64 0, .int .i64 0, .int .u32 0] 24)))
  have hpl' := Lib.hid hpl
  clear hsp hki hps hk hpl hM
  go_enter Tryd.func42, Tryd.ntmps42
  go_wp2_with fail
  refine (hsp'.out _ hMz'.out).mono ?_
  rintro e w1 ⟨rfl, hc1, hb1⟩
  simp only [World.size_alloc] at hc1
  have c0 := hc1 0 p0 hp0
  have hlt1 : w.heap.size + 1 < w1.heap.size := cell_lt c0
  have hne1 : w.heap.size + 1 ≠ w1.heap.size := by omega
  have hc1' := Lib.hid hc1
  clear hc1
  go_wp2_with fail
  refine (hki'.out _).mono ?_
  rintro e w2 ⟨rfl, hb2⟩
  have hG0 := gst_start (op := 16) hc1'.out hb1 hlt1 hb2
  have hs2 : w1.heap.size < w2.heap.size := hG0.hn.2
  have hne2 : w1.heap.size ≠ w2.heap.size := by omega
  have hne3 : w.heap.size ≠ w2.heap.size := by omega
  have hne4 : w.heap.size ≠ w2.heap.size + 1 := by omega
  have hlt3 : w.heap.size < w2.heap.size := by omega
  have hlt4 : w.heap.size < w2.heap.size + 1 := by omega
  have hlt5 : w.heap.size < w2.heap.size + 1 + 1 := by omega
  have hne5 : w.heap.size ≠ w2.heap.size + 1 + 1 := by omega
  have hrw : InBox w2 w.heap.size Ins.zero := ((hb2.block _ (by rw [World.size_alloc]; omega)).trans ((Below.heap_alloc _ _ _ (by omega)).trans ((hb1.block _ (by rw [World.size_alloc]; omega)).trans (heap_alloc_new w _))))
  obtain ⟨y0, y1, y2, y3, y4⟩ := hrw.cells
  have z0 := hrw.frozen 0
  have z1 := hrw.frozen 1
  have z2 := hrw.frozen 2
  have z3 := hrw.frozen 3
  have z4 := hrw.frozen 4
  have hst := fun W p => run_store Tryd.prog W p (.func (.func 84) #[] #[.pointer (some ⟨w2.heap.size + 1, 0, none⟩), .pointer (some ⟨w1.heap.size, 0, none⟩)]) .plain rfl
  have hB1 : Below w.heap.size w w1 := ((Below.refl _ w).alloc (Nat.le_refl _) _).trans (hb1.mono (by simp))
  have hB2 : Below w.heap.size w w2 := (hB1.alloc hB1.size _).trans (hb2.mono (by rw [World.size_alloc]; have := hB1.size; omega))
  have hB2' := Lib.hid hB2
  have hrw' := Lib.hid hrw
  clear c0 hc1' hb1 hb2 hB1 hB2 hrw
  go_wp2_with (first
    | (go_at_call 84; refine (next_any (by assumption) (by omega) hpl'.out).mono ?_; rintro e wx ⟨rfl, hbx⟩; have hGx := GSt.next (by assumption) hbx; have hSx := hGx.hx.cell; obtain ⟨d0, d1, d2, d3, d4⟩ := hGx.hi.cells; have q0 := hGx.hi.frozen 0; have q1 := hGx.hi.frozen 1; have q2 := hGx.hi.frozen 2; have q3 := hGx.hi.frozen 3; have q4 := hGx.hi.frozen 4; obtain ⟨y0, y1, y2, y3, y4⟩ := hGx.hr.cells; have z0 := hGx.hr.frozen 0; have z1 := hGx.hr.frozen 1; have z2 := hGx.hr.frozen 2; have z3 := hGx.hr.frozen 3; have z4 := hGx.hr.frozen 4; unfold nextV at hSx)
    | (go_at_call 86; refine (small_any (by assumption) (by omega) hpl'.out).mono ?_; rintro e wx ⟨rfl, hbx⟩; have hGx := GSt.next (by assumption) hbx; have hSx := hGx.hx.cell; obtain ⟨d0, d1, d2, d3, d4⟩ := hGx.hi.cells; have q0 := hGx.hi.frozen 0; have q1 := hGx.hi.frozen 1; have q2 := hGx.hi.frozen 2; have q3 := hGx.hi.frozen 3; have q4 := hGx.hi.frozen 4; obtain ⟨y0, y1, y2, y3, y4⟩ := hGx.hr.cells; have z0 := hGx.hr.frozen 0; have z1 := hGx.hr.frozen 1; have z2 := hGx.hr.frozen 2; have z3 := hGx.hr.frozen 3; have z4 := hGx.hr.frozen 4; unfold nextV at hSx))
  have hF := ((hGx.putN (wordAt ps 1)).putC (wordAt ps 2))
  refine bodyPost_ret (res_guess _ _ rfl (hF.hr.set5 ⟨16, 0, 0, wordAt ps 2, wordAt ps 1⟩)) rfl ?_
  exact ⟨rfl, below_set5 hF.hb _ (Nat.le_refl _) _ _ _ _ _⟩

set_option maxRecDepth 100000 in
set_option maxHeartbeats 4000000 in
theorem guess_jump (op : Int) (p0 : List UInt8) (ps : List (List UInt8)) (s : ByteArray) (w : World) (hM : Mx w) (hs : s.size ≤ 1000000) (hps : pcs 32 s.data.toList = ps) (hp0 : ps[0]? = some p0) (hpl : ∀ p ∈ ps, p.length ≤ 1000000) (hn : ps.length ≤ 1000001) (hk : kindOf p0 = op) (ho : op = 14) :
    Calls Tryd.prog 42 #[.string s] w fun r W' => r = .returned (insV ⟨14, 0, 0, 0, wordAt ps 1⟩) ∧ Below w.heap.size w W' := by
  subst ho
  have hsp := fun W hM => split_any s 32 W hM hs
  rw [hps] at hsp
  have hki := fun W => kind_any ⟨p0.toArray⟩ W
  rw [show (⟨p0.toArray⟩ : ByteArray).data.toList = p0 from rfl, hk] at hki
  have hl0 : 0 < ps.length := get_lt hp0
  have hl1 : (0 : Int) < (ps.length : Int) := by omega
  have hsp' := Lib.hid hsp
  have hki' := Lib.hid hki
  have hMz' := Lib.hid (hM.below ((Below.refl _ w).alloc (Nat.le_refl _) (.cells #[.int .i64 0, .int .i64 0, .int .i64 0, .int .i64 0, .int .u32 0] 24)))
  have hpl' := Lib.hid hpl
  clear hsp hki hps hk hpl hM
  go_enter Tryd.func42, Tryd.ntmps42
  go_wp2_with fail
  refine (hsp'.out _ hMz'.out).mono ?_
  rintro e w1 ⟨rfl, hc1, hb1⟩
  simp only [World.size_alloc] at hc1
  have c0 := hc1 0 p0 hp0
  have hlt1 : w.heap.size + 1 < w1.heap.size := cell_lt c0
  have hne1 : w.heap.size + 1 ≠ w1.heap.size := by omega
  have hc1' := Lib.hid hc1
  clear hc1
  go_wp2_with fail
  refine (hki'.out _).mono ?_
  rintro e w2 ⟨rfl, hb2⟩
  have hG0 := gst_start (op := 14) hc1'.out hb1 hlt1 hb2
  have hs2 : w1.heap.size < w2.heap.size := hG0.hn.2
  have hne2 : w1.heap.size ≠ w2.heap.size := by omega
  have hne3 : w.heap.size ≠ w2.heap.size := by omega
  have hne4 : w.heap.size ≠ w2.heap.size + 1 := by omega
  have hlt3 : w.heap.size < w2.heap.size := by omega
  have hlt4 : w.heap.size < w2.heap.size + 1 := by omega
  have hlt5 : w.heap.size < w2.heap.size + 1 + 1 := by omega
  have hne5 : w.heap.size ≠ w2.heap.size + 1 + 1 := by omega
  have hrw : InBox w2 w.heap.size Ins.zero := ((hb2.block _ (by rw [World.size_alloc]; omega)).trans ((Below.heap_alloc _ _ _ (by omega)).trans ((hb1.block _ (by rw [World.size_alloc]; omega)).trans (heap_alloc_new w _))))
  obtain ⟨y0, y1, y2, y3, y4⟩ := hrw.cells
  have z0 := hrw.frozen 0
  have z1 := hrw.frozen 1
  have z2 := hrw.frozen 2
  have z3 := hrw.frozen 3
  have z4 := hrw.frozen 4
  have hst := fun W p => run_store Tryd.prog W p (.func (.func 84) #[] #[.pointer (some ⟨w2.heap.size + 1, 0, none⟩), .pointer (some ⟨w1.heap.size, 0, none⟩)]) .plain rfl
  have hB1 : Below w.heap.size w w1 := ((Below.refl _ w).alloc (Nat.le_refl _) _).trans (hb1.mono (by simp))
  have hB2 : Below w.heap.size w w2 := (hB1.alloc hB1.size _).trans (hb2.mono (by rw [World.size_alloc]; have := hB1.size; omega))
  have hB2' := Lib.hid hB2
  have hrw' := Lib.hid hrw
  clear c0 hc1' hb1 hb2 hB1 hB2 hrw
  go_wp2_with (first
    | (go_at_call 84; refine (next_any (by assumption) (by omega) hpl'.out).mono ?_; rintro e wx ⟨rfl, hbx⟩; have hGx := GSt.next (by assumption) hbx; have hSx := hGx.hx.cell; obtain ⟨d0, d1, d2, d3, d4⟩ := hGx.hi.cells; have q0 := hGx.hi.frozen 0; have q1 := hGx.hi.frozen 1; have q2 := hGx.hi.frozen 2; have q3 := hGx.hi.frozen 3; have q4 := hGx.hi.frozen 4; obtain ⟨y0, y1, y2, y3, y4⟩ := hGx.hr.cells; have z0 := hGx.hr.frozen 0; have z1 := hGx.hr.frozen 1; have z2 := hGx.hr.frozen 2; have z3 := hGx.hr.frozen 3; have z4 := hGx.hr.frozen 4; unfold nextV at hSx)
    | (go_at_call 86; refine (small_any (by assumption) (by omega) hpl'.out).mono ?_; rintro e wx ⟨rfl, hbx⟩; have hGx := GSt.next (by assumption) hbx; have hSx := hGx.hx.cell; obtain ⟨d0, d1, d2, d3, d4⟩ := hGx.hi.cells; have q0 := hGx.hi.frozen 0; have q1 := hGx.hi.frozen 1; have q2 := hGx.hi.frozen 2; have q3 := hGx.hi.frozen 3; have q4 := hGx.hi.frozen 4; obtain ⟨y0, y1, y2, y3, y4⟩ := hGx.hr.cells; have z0 := hGx.hr.frozen 0; have z1 := hGx.hr.frozen 1; have z2 := hGx.hr.frozen 2; have z3 := hGx.hr.frozen 3; have z4 := hGx.hr.frozen 4; unfold nextV at hSx))
  have hF := (hGx.putN (wordAt ps 1))
  refine bodyPost_ret (res_guess _ _ rfl (hF.hr.set5 ⟨14, 0, 0, 0, wordAt ps 1⟩)) rfl ?_
  exact ⟨rfl, below_set5 hF.hb _ (Nat.le_refl _) _ _ _ _ _⟩

set_option maxRecDepth 100000 in
set_option maxHeartbeats 4000000 in
theorem guess_move (op : Int) (p0 : List UInt8) (ps : List (List UInt8)) (s : ByteArray) (w : World) (hM : Mx w) (hs : s.size ≤ 1000000) (hps : pcs 32 s.data.toList = ps) (hp0 : ps[0]? = some p0) (hpl : ∀ p ∈ ps, p.length ≤ 1000000) (hn : ps.length ≤ 1000001) (hk : kindOf p0 = op) (ho : op = 2) :
    Calls Tryd.prog 42 #[.string s] w fun r W' => r = .returned (insV ⟨2, wordAt ps 1, wordAt ps 2, 0, 0⟩) ∧ Below w.heap.size w W' := by
  subst ho
  have hsp := fun W hM => split_any s 32 W hM hs
  rw [hps] at hsp
  have hki := fun W => kind_any ⟨p0.toArray⟩ W
  rw [show (⟨p0.toArray⟩ : ByteArray).data.toList = p0 from rfl, hk] at hki
  have hl0 : 0 < ps.length := get_lt hp0
  have hl1 : (0 : Int) < (ps.length : Int) := by omega
  have hsp' := Lib.hid hsp
  have hki' := Lib.hid hki
  have hMz' := Lib.hid (hM.below ((Below.refl _ w).alloc (Nat.le_refl _) (.cells #[.int .i64 0, .int .i64 0, .int .i64 0, .int .i64 0, .int .u32 0] 24)))
  have hpl' := Lib.hid hpl
  clear hsp hki hps hk hpl hM
  go_enter Tryd.func42, Tryd.ntmps42
  go_wp2_with fail
  refine (hsp'.out _ hMz'.out).mono ?_
  rintro e w1 ⟨rfl, hc1, hb1⟩
  simp only [World.size_alloc] at hc1
  have c0 := hc1 0 p0 hp0
  have hlt1 : w.heap.size + 1 < w1.heap.size := cell_lt c0
  have hne1 : w.heap.size + 1 ≠ w1.heap.size := by omega
  have hc1' := Lib.hid hc1
  clear hc1
  go_wp2_with fail
  refine (hki'.out _).mono ?_
  rintro e w2 ⟨rfl, hb2⟩
  have hG0 := gst_start (op := 2) hc1'.out hb1 hlt1 hb2
  have hs2 : w1.heap.size < w2.heap.size := hG0.hn.2
  have hne2 : w1.heap.size ≠ w2.heap.size := by omega
  have hne3 : w.heap.size ≠ w2.heap.size := by omega
  have hne4 : w.heap.size ≠ w2.heap.size + 1 := by omega
  have hlt3 : w.heap.size < w2.heap.size := by omega
  have hlt4 : w.heap.size < w2.heap.size + 1 := by omega
  have hlt5 : w.heap.size < w2.heap.size + 1 + 1 := by omega
  have hne5 : w.heap.size ≠ w2.heap.size + 1 + 1 := by omega
  have hrw : InBox w2 w.heap.size Ins.zero := ((hb2.block _ (by rw [World.size_alloc]; omega)).trans ((Below.heap_alloc _ _ _ (by omega)).trans ((hb1.block _ (by rw [World.size_alloc]; omega)).trans (heap_alloc_new w _))))
  obtain ⟨y0, y1, y2, y3, y4⟩ := hrw.cells
  have z0 := hrw.frozen 0
  have z1 := hrw.frozen 1
  have z2 := hrw.frozen 2
  have z3 := hrw.frozen 3
  have z4 := hrw.frozen 4
  have hst := fun W p => run_store Tryd.prog W p (.func (.func 84) #[] #[.pointer (some ⟨w2.heap.size + 1, 0, none⟩), .pointer (some ⟨w1.heap.size, 0, none⟩)]) .plain rfl
  have hB1 : Below w.heap.size w w1 := ((Below.refl _ w).alloc (Nat.le_refl _) _).trans (hb1.mono (by simp))
  have hB2 : Below w.heap.size w w2 := (hB1.alloc hB1.size _).trans (hb2.mono (by rw [World.size_alloc]; have := hB1.size; omega))
  have hB2' := Lib.hid hB2
  have hrw' := Lib.hid hrw
  clear c0 hc1' hb1 hb2 hB1 hB2 hrw
  go_wp2_with (first
    | (go_at_call 84; refine (next_any (by assumption) (by omega) hpl'.out).mono ?_; rintro e wx ⟨rfl, hbx⟩; have hGx := GSt.next (by assumption) hbx; have hSx := hGx.hx.cell; obtain ⟨d0, d1, d2, d3, d4⟩ := hGx.hi.cells; have q0 := hGx.hi.frozen 0; have q1 := hGx.hi.frozen 1; have q2 := hGx.hi.frozen 2; have q3 := hGx.hi.frozen 3; have q4 := hGx.hi.frozen 4; obtain ⟨y0, y1, y2, y3, y4⟩ := hGx.hr.cells; have z0 := hGx.hr.frozen 0; have z1 := hGx.hr.frozen 1; have z2 := hGx.hr.frozen 2; have z3 := hGx.hr.frozen 3; have z4 := hGx.hr.frozen 4; unfold nextV at hSx)
    | (go_at_call 86; refine (small_any (by assumption) (by omega) hpl'.out).mono ?_; rintro e wx ⟨rfl, hbx⟩; have hGx := GSt.next (by assumption) hbx; have hSx := hGx.hx.cell; obtain ⟨d0, d1, d2, d3, d4⟩ := hGx.hi.cells; have q0 := hGx.hi.frozen 0; have q1 := hGx.hi.frozen 1; have q2 := hGx.hi.frozen 2; have q3 := hGx.hi.frozen 3; have q4 := hGx.hi.frozen 4; obtain ⟨y0, y1, y2, y3, y4⟩ := hGx.hr.cells; have z0 := hGx.hr.frozen 0; have z1 := hGx.hr.frozen 1; have z2 := hGx.hr.frozen 2; have z3 := hGx.hr.frozen 3; have z4 := hGx.hr.frozen 4; unfold nextV at hSx))
  have hF := ((hGx.putA (wordAt ps 1)).putB (wordAt ps 2))
  refine bodyPost_ret (res_guess _ _ rfl (hF.hr.set5 ⟨2, wordAt ps 1, wordAt ps 2, 0, 0⟩)) rfl ?_
  exact ⟨rfl, below_set5 hF.hb _ (Nat.le_refl _) _ _ _ _ _⟩

set_option maxRecDepth 100000 in
set_option maxHeartbeats 4000000 in
theorem guess_three (op : Int) (p0 : List UInt8) (ps : List (List UInt8)) (s : ByteArray) (w : World) (hM : Mx w) (hs : s.size ≤ 1000000) (hps : pcs 32 s.data.toList = ps) (hp0 : ps[0]? = some p0) (hpl : ∀ p ∈ ps, p.length ≤ 1000000) (hn : ps.length ≤ 1000001) (hk : kindOf p0 = op) (ho : 3 ≤ op ∧ op ≤ 10) :
    Calls Tryd.prog 42 #[.string s] w fun r W' => r = .returned (insV ⟨op, wordAt ps 1, wordAt ps 2, wordAt ps 3, 0⟩) ∧ Below w.heap.size w W' := by
  have x16 : (op == 16) = false := by rw [beq_eq_false_iff_ne]; omega
  have x14 : (op == 14) = false := by rw [beq_eq_false_iff_ne]; omega
  have x1 : (op == 1) = false := by rw [beq_eq_false_iff_ne]; omega
  have x15 : (op == 15) = false := by rw [beq_eq_false_iff_ne]; omega
  have x2 : (op == 2) = false := by rw [beq_eq_false_iff_ne]; omega
  have y3 : decide (3 ≤ op) = true := decide_eq_true ho.1
  have y4 : decide (op ≤ 10) = true := decide_eq_true ho.2
  have hsp := fun W hM => split_any s 32 W hM hs
  rw [hps] at hsp
  have hki := fun W => kind_any ⟨p0.toArray⟩ W
  rw [show (⟨p0.toArray⟩ : ByteArray).data.toList = p0 from rfl, hk] at hki
  have hl0 : 0 < ps.length := get_lt hp0
  have hl1 : (0 : Int) < (ps.length : Int) := by omega
  have hsp' := Lib.hid hsp
  have hki' := Lib.hid hki
  have hMz' := Lib.hid (hM.below ((Below.refl _ w).alloc (Nat.le_refl _) (.cells #[.int .i64 0, .int .i64 0, .int .i64 0, .int .i64 0, .int .u32 0] 24)))
  have hpl' := Lib.hid hpl
  clear hsp hki hps hk hpl hM
  go_enter Tryd.func42, Tryd.ntmps42
  go_wp2_with fail
  refine (hsp'.out _ hMz'.out).mono ?_
  rintro e w1 ⟨rfl, hc1, hb1⟩
  simp only [World.size_alloc] at hc1
  have c0 := hc1 0 p0 hp0
  have hlt1 : w.heap.size + 1 < w1.heap.size := cell_lt c0
  have hne1 : w.heap.size + 1 ≠ w1.heap.size := by omega
  have hc1' := Lib.hid hc1
  clear hc1
  go_wp2_with fail
  refine (hki'.out _).mono ?_
  rintro e w2 ⟨rfl, hb2⟩
  have hG0 := gst_start (op := op) hc1'.out hb1 hlt1 hb2
  have hs2 : w1.heap.size < w2.heap.size := hG0.hn.2
  have hne2 : w1.heap.size ≠ w2.heap.size := by omega
  have hne3 : w.heap.size ≠ w2.heap.size := by omega
  have hne4 : w.heap.size ≠ w2.heap.size + 1 := by omega
  have hlt3 : w.heap.size < w2.heap.size := by omega
  have hlt4 : w.heap.size < w2.heap.size + 1 := by omega
  have hlt5 : w.heap.size < w2.heap.size + 1 + 1 := by omega
  have hne5 : w.heap.size ≠ w2.heap.size + 1 + 1 := by omega
  have hrw : InBox w2 w.heap.size Ins.zero := ((hb2.block _ (by rw [World.size_alloc]; omega)).trans ((Below.heap_alloc _ _ _ (by omega)).trans ((hb1.block _ (by rw [World.size_alloc]; omega)).trans (heap_alloc_new w _))))
  obtain ⟨y0, y1, y2, y3, y4⟩ := hrw.cells
  have z0 := hrw.frozen 0
  have z1 := hrw.frozen 1
  have z2 := hrw.frozen 2
  have z3 := hrw.frozen 3
  have z4 := hrw.frozen 4
  have hst := fun W p => run_store Tryd.prog W p (.func (.func 84) #[] #[.pointer (some ⟨w2.heap.size + 1, 0, none⟩), .pointer (some ⟨w1.heap.size, 0, none⟩)]) .plain rfl
  have hB1 : Below w.heap.size w w1 := ((Below.refl _ w).alloc (Nat.le_refl _) _).trans (hb1.mono (by simp))
  have hB2 : Below w.heap.size w w2 := (hB1.alloc hB1.size _).trans (hb2.mono (by rw [World.size_alloc]; have := hB1.size; omega))
  have hB2' := Lib.hid hB2
  have hrw' := Lib.hid hrw
  clear c0 hc1' hb1 hb2 hB1 hB2 hrw
  go_wp2_with (first
    | (go_at_call 84; refine (next_any (by assumption) (by omega) hpl'.out).mono ?_; rintro e wx ⟨rfl, hbx⟩; have hGx := GSt.next (by assumption) hbx; have hSx := hGx.hx.cell; obtain ⟨d0, d1, d2, d3, d4⟩ := hGx.hi.cells; have q0 := hGx.hi.frozen 0; have q1 := hGx.hi.frozen 1; have q2 := hGx.hi.frozen 2; have q3 := hGx.hi.frozen 3; have q4 := hGx.hi.frozen 4; obtain ⟨y0, y1, y2, y3, y4⟩ := hGx.hr.cells; have z0 := hGx.hr.frozen 0; have z1 := hGx.hr.frozen 1; have z2 := hGx.hr.frozen 2; have z3 := hGx.hr.frozen 3; have z4 := hGx.hr.frozen 4; unfold nextV at hSx)
    | (go_at_call 86; refine (small_any (by assumption) (by omega) hpl'.out).mono ?_; rintro e wx ⟨rfl, hbx⟩; have hGx := GSt.next (by assumption) hbx; have hSx := hGx.hx.cell; obtain ⟨d0, d1, d2, d3, d4⟩ := hGx.hi.cells; have q0 := hGx.hi.frozen 0; have q1 := hGx.hi.frozen 1; have q2 := hGx.hi.frozen 2; have q3 := hGx.hi.frozen 3; have q4 := hGx.hi.frozen 4; obtain ⟨y0, y1, y2, y3, y4⟩ := hGx.hr.cells; have z0 := hGx.hr.frozen 0; have z1 := hGx.hr.frozen 1; have z2 := hGx.hr.frozen 2; have z3 := hGx.hr.frozen 3; have z4 := hGx.hr.frozen 4; unfold nextV at hSx))
  have hF := (((hGx.putA (wordAt ps 1)).putB (wordAt ps 2)).putC (wordAt ps 3))
  refine bodyPost_ret (res_guess _ _ rfl (hF.hr.set5 ⟨op, wordAt ps 1, wordAt ps 2, wordAt ps 3, 0⟩)) rfl ?_
  exact ⟨rfl, below_set5 hF.hb _ (Nat.le_refl _) _ _ _ _ _⟩

set_option maxRecDepth 100000 in
set_option maxHeartbeats 4000000 in
theorem guess_nop (op : Int) (p0 : List UInt8) (ps : List (List UInt8)) (s : ByteArray) (w : World) (hM : Mx w) (hs : s.size ≤ 1000000) (hps : pcs 32 s.data.toList = ps) (hp0 : ps[0]? = some p0) (hpl : ∀ p ∈ ps, p.length ≤ 1000000) (hn : ps.length ≤ 1000001) (hk : kindOf p0 = op) (ho : op = 0) :
    Calls Tryd.prog 42 #[.string s] w fun r W' => r = .returned (insV ⟨0, 0, 0, 0, 0⟩) ∧ Below w.heap.size w W' := by
  subst ho
  have hsp := fun W hM => split_any s 32 W hM hs
  rw [hps] at hsp
  have hki := fun W => kind_any ⟨p0.toArray⟩ W
  rw [show (⟨p0.toArray⟩ : ByteArray).data.toList = p0 from rfl, hk] at hki
  have hl0 : 0 < ps.length := get_lt hp0
  have hl1 : (0 : Int) < (ps.length : Int) := by omega
  have hsp' := Lib.hid hsp
  have hki' := Lib.hid hki
  have hMz' := Lib.hid (hM.below ((Below.refl _ w).alloc (Nat.le_refl _) (.cells #[.int .i64 0, .int .i64 0, .int .i64 0, .int .i64 0, .int .u32 0] 24)))
  have hpl' := Lib.hid hpl
  clear hsp hki hps hk hpl hM
  go_enter Tryd.func42, Tryd.ntmps42
  go_wp2_with fail
  refine (hsp'.out _ hMz'.out).mono ?_
  rintro e w1 ⟨rfl, hc1, hb1⟩
  simp only [World.size_alloc] at hc1
  have c0 := hc1 0 p0 hp0
  have hlt1 : w.heap.size + 1 < w1.heap.size := cell_lt c0
  have hne1 : w.heap.size + 1 ≠ w1.heap.size := by omega
  have hc1' := Lib.hid hc1
  clear hc1
  go_wp2_with fail
  refine (hki'.out _).mono ?_
  rintro e w2 ⟨rfl, hb2⟩
  have hG0 := gst_start (op := 0) hc1'.out hb1 hlt1 hb2
  have hs2 : w1.heap.size < w2.heap.size := hG0.hn.2
  have hne2 : w1.heap.size ≠ w2.heap.size := by omega
  have hne3 : w.heap.size ≠ w2.heap.size := by omega
  have hne4 : w.heap.size ≠ w2.heap.size + 1 := by omega
  have hlt3 : w.heap.size < w2.heap.size := by omega
  have hlt4 : w.heap.size < w2.heap.size + 1 := by omega
  have hlt5 : w.heap.size < w2.heap.size + 1 + 1 := by omega
  have hne5 : w.heap.size ≠ w2.heap.size + 1 + 1 := by omega
  have hrw : InBox w2 w.heap.size Ins.zero := ((hb2.block _ (by rw [World.size_alloc]; omega)).trans ((Below.heap_alloc _ _ _ (by omega)).trans ((hb1.block _ (by rw [World.size_alloc]; omega)).trans (heap_alloc_new w _))))
  obtain ⟨y0, y1, y2, y3, y4⟩ := hrw.cells
  have z0 := hrw.frozen 0
  have z1 := hrw.frozen 1
  have z2 := hrw.frozen 2
  have z3 := hrw.frozen 3
  have z4 := hrw.frozen 4
  have hst := fun W p => run_store Tryd.prog W p (.func (.func 84) #[] #[.pointer (some ⟨w2.heap.size + 1, 0, none⟩), .pointer (some ⟨w1.heap.size, 0, none⟩)]) .plain rfl
  have hB1 : Below w.heap.size w w1 := ((Below.refl _ w).alloc (Nat.le_refl _) _).trans (hb1.mono (by simp))
  have hB2 : Below w.heap.size w w2 := (hB1.alloc hB1.size _).trans (hb2.mono (by rw [World.size_alloc]; have := hB1.size; omega))
  have hB2' := Lib.hid hB2
  have hrw' := Lib.hid hrw
  clear c0 hc1' hb1 hb2 hB1 hB2 hrw
  go_wp2_with (first
    | (go_at_call 84; refine (next_any (by assumption) (by omega) hpl'.out).mono ?_; rintro e wx ⟨rfl, hbx⟩; have hGx := GSt.next (by assumption) hbx; have hSx := hGx.hx.cell; obtain ⟨d0, d1, d2, d3, d4⟩ := hGx.hi.cells; have q0 := hGx.hi.frozen 0; have q1 := hGx.hi.frozen 1; have q2 := hGx.hi.frozen 2; have q3 := hGx.hi.frozen 3; have q4 := hGx.hi.frozen 4; obtain ⟨y0, y1, y2, y3, y4⟩ := hGx.hr.cells; have z0 := hGx.hr.frozen 0; have z1 := hGx.hr.frozen 1; have z2 := hGx.hr.frozen 2; have z3 := hGx.hr.frozen 3; have z4 := hGx.hr.frozen 4; unfold nextV at hSx)
    | (go_at_call 86; refine (small_any (by assumption) (by omega) hpl'.out).mono ?_; rintro e wx ⟨rfl, hbx⟩; have hGx := GSt.next (by assumption) hbx; have hSx := hGx.hx.cell; obtain ⟨d0, d1, d2, d3, d4⟩ := hGx.hi.cells; have q0 := hGx.hi.frozen 0; have q1 := hGx.hi.frozen 1; have q2 := hGx.hi.frozen 2; have q3 := hGx.hi.frozen 3; have q4 := hGx.hi.frozen 4; obtain ⟨y0, y1, y2, y3, y4⟩ := hGx.hr.cells; have z0 := hGx.hr.frozen 0; have z1 := hGx.hr.frozen 1; have z2 := hGx.hr.frozen 2; have z3 := hGx.hr.frozen 3; have z4 := hGx.hr.frozen 4; unfold nextV at hSx))
  have hF := hG0
  have hb5 := below_set5 hB2'.out w.heap.size (Nat.le_refl _) (.int .i64 0) (.int .i64 0) (.int .i64 0) (.int .i64 0) (.int .u32 0)
  have hb6 := ((hb5.alloc (by simp only [setC_size]; omega) (.cells #[.int .i64 0, .int .i64 0, .int .i64 0, .int .i64 0, .int .u32 0] 24)).alloc (by simp only [World.size_alloc, setC_size]; omega) (.cells #[.int .i64 0] 3)).alloc (by simp only [World.size_alloc, setC_size]; omega) (.cells #[.func (.func 84) #[] #[.pointer (some ⟨w2.heap.size + 1, 0, none⟩), .pointer (some ⟨w1.heap.size, 0, none⟩)]] 119)
  refine bodyPost_ret (res_guess _ _ rfl ((((hrw'.out.set5 ⟨0, 0, 0, 0, 0⟩).kept ((Below.refl _ _).alloc (Nat.le_refl _) _)).kept ((Below.refl _ _).alloc (Nat.le_refl _) _)).kept ((Below.refl _ _).alloc (Nat.le_refl _) _))) rfl ?_
  exact ⟨rfl, hb6⟩

set_option maxRecDepth 100000 in
set_option maxHeartbeats 4000000 in
theorem guess_done (op : Int) (p0 : List UInt8) (ps : List (List UInt8)) (s : ByteArray) (w : World) (hM : Mx w) (hs : s.size ≤ 1000000) (hps : pcs 32 s.data.toList = ps) (hp0 : ps[0]? = some p0) (hpl : ∀ p ∈ ps, p.length ≤ 1000000) (hn : ps.length ≤ 1000001) (hk : kindOf p0 = op) (ho : op = 21) :
    Calls Tryd.prog 42 #[.string s] w fun r W' => r = .returned (insV ⟨21, 0, 0, 0, 0⟩) ∧ Below w.heap.size w W' := by
  subst ho
  have hsp := fun W hM => split_any s 32 W hM hs
  rw [hps] at hsp
  have hki := fun W => kind_any ⟨p0.toArray⟩ W
  rw [show (⟨p0.toArray⟩ : ByteArray).data.toList = p0 from rfl, hk] at hki
  have hl0 : 0 < ps.length := get_lt hp0
  have hl1 : (0 : Int) < (ps.length : Int) := by omega
  have hsp' := Lib.hid hsp
  have hki' := Lib.hid hki
  have hMz' := Lib.hid (hM.below ((Below.refl _ w).alloc (Nat.le_refl _) (.cells #[.int .i64 0, .int .i64 0, .int .i64 0, .int .i64 0, .int .u32 0] 24)))
  have hpl' := Lib.hid hpl
  clear hsp hki hps hk hpl hM
  go_enter Tryd.func42, Tryd.ntmps42
  go_wp2_with fail
  refine (hsp'.out _ hMz'.out).mono ?_
  rintro e w1 ⟨rfl, hc1, hb1⟩
  simp only [World.size_alloc] at hc1
  have c0 := hc1 0 p0 hp0
  have hlt1 : w.heap.size + 1 < w1.heap.size := cell_lt c0
  have hne1 : w.heap.size + 1 ≠ w1.heap.size := by omega
  have hc1' := Lib.hid hc1
  clear hc1
  go_wp2_with fail
  refine (hki'.out _).mono ?_
  rintro e w2 ⟨rfl, hb2⟩
  have hG0 := gst_start (op := 21) hc1'.out hb1 hlt1 hb2
  have hs2 : w1.heap.size < w2.heap.size := hG0.hn.2
  have hne2 : w1.heap.size ≠ w2.heap.size := by omega
  have hne3 : w.heap.size ≠ w2.heap.size := by omega
  have hne4 : w.heap.size ≠ w2.heap.size + 1 := by omega
  have hlt3 : w.heap.size < w2.heap.size := by omega
  have hlt4 : w.heap.size < w2.heap.size + 1 := by omega
  have hlt5 : w.heap.size < w2.heap.size + 1 + 1 := by omega
  have hne5 : w.heap.size ≠ w2.heap.size + 1 + 1 := by omega
  have hrw : InBox w2 w.heap.size Ins.zero := ((hb2.block _ (by rw [World.size_alloc]; omega)).trans ((Below.heap_alloc _ _ _ (by omega)).trans ((hb1.block _ (by rw [World.size_alloc]; omega)).trans (heap_alloc_new w _))))
  obtain ⟨y0, y1, y2, y3, y4⟩ := hrw.cells
  have z0 := hrw.frozen 0
  have z1 := hrw.frozen 1
  have z2 := hrw.frozen 2
  have z3 := hrw.frozen 3
  have z4 := hrw.frozen 4
  have hst := fun W p => run_store Tryd.prog W p (.func (.func 84) #[] #[.pointer (some ⟨w2.heap.size + 1, 0, none⟩), .pointer (some ⟨w1.heap.size, 0, none⟩)]) .plain rfl
  have hB1 : Below w.heap.size w w1 := ((Below.refl _ w).alloc (Nat.le_refl _) _).trans (hb1.mono (by simp))
  have hB2 : Below w.heap.size w w2 := (hB1.alloc hB1.size _).trans (hb2.mono (by rw [World.size_alloc]; have := hB1.size; omega))
  have hB2' := Lib.hid hB2
  have hrw' := Lib.hid hrw
  clear c0 hc1' hb1 hb2 hB1 hB2 hrw
  go_wp2_with (first
    | (go_at_call 84; refine (next_any (by assumption) (by omega) hpl'.out).mono ?_; rintro e wx ⟨rfl, hbx⟩; have hGx := GSt.next (by assumption) hbx; have hSx := hGx.hx.cell; obtain ⟨d0, d1, d2, d3, d4⟩ := hGx.hi.cells; have q0 := hGx.hi.frozen 0; have q1 := hGx.hi.frozen 1; have q2 := hGx.hi.frozen 2; have q3 := hGx.hi.frozen 3; have q4 := hGx.hi.frozen 4; obtain ⟨y0, y1, y2, y3, y4⟩ := hGx.hr.cells; have z0 := hGx.hr.frozen 0; have z1 := hGx.hr.frozen 1; have z2 := hGx.hr.frozen 2; have z3 := hGx.hr.frozen 3; have z4 := hGx.hr.frozen 4; unfold nextV at hSx)
    | (go_at_call 86; refine (small_any (by assumption) (by omega) hpl'.out).mono ?_; rintro e wx ⟨rfl, hbx⟩; have hGx := GSt.next (by assumption) hbx; have hSx := hGx.hx.cell; obtain ⟨d0, d1, d2, d3, d4⟩ := hGx.hi.cells; have q0 := hGx.hi.frozen 0; have q1 := hGx.hi.frozen 1; have q2 := hGx.hi.frozen 2; have q3 := hGx.hi.frozen 3; have q4 := hGx.hi.frozen 4; obtain ⟨y0, y1, y2, y3, y4⟩ := hGx.hr.cells; have z0 := hGx.hr.frozen 0; have z1 := hGx.hr.frozen 1; have z2 := hGx.hr.frozen 2; have z3 := hGx.hr.frozen 3; have z4 := hGx.hr.frozen 4; unfold nextV at hSx))
  have hF := hG0
  have hb5 := below_set5 hB2'.out w.heap.size (Nat.le_refl _) (.int .i64 21) (.int .i64 0) (.int .i64 0) (.int .i64 0) (.int .u32 0)
  have hb6 := ((hb5.alloc (by simp only [setC_size]; omega) (.cells #[.int .i64 21, .int .i64 0, .int .i64 0, .int .i64 0, .int .u32 0] 24)).alloc (by simp only [World.size_alloc, setC_size]; omega) (.cells #[.int .i64 0] 3)).alloc (by simp only [World.size_alloc, setC_size]; omega) (.cells #[.func (.func 84) #[] #[.pointer (some ⟨w2.heap.size + 1, 0, none⟩), .pointer (some ⟨w1.heap.size, 0, none⟩)]] 119)
  refine bodyPost_ret (res_guess _ _ rfl ((((hrw'.out.set5 ⟨21, 0, 0, 0, 0⟩).kept ((Below.refl _ _).alloc (Nat.le_refl _) _)).kept ((Below.refl _ _).alloc (Nat.le_refl _) _)).kept ((Below.refl _ _).alloc (Nat.le_refl _) _))) rfl ?_
  exact ⟨rfl, hb6⟩

end Go.Proofs.YtkcdmonmgnmojaaDoor
