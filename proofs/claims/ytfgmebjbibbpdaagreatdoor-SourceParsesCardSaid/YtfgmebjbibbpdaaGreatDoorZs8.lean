/- Texts joined: asm.guess: the instruction that a line may be of, kind for kind. asm.guess: the instruction that a line may be of, kind for kind. asm.guess: the instruction that a line may be of, kind for kind. asm.guess: the instruction that a line may be of. asm.Read: the instruction of a line. Sources: a reader reads a line. strings.Lines: the iterator, which keeps what is left in a captured cell. Sources: a reader reads a line, whatever it is. -/
import Derived.Test.YtfgmebjbibbpdaaGreatDoorZs7
import Derived.Test.YtfgmebjbibbpdaaGreatDoorZs2
import Derived.Test.YtfgmebjbibbpdaaGreatDoorZs3
import Derived.Test.YtfgmebjbibbpdaaGreatDoorZs1
import Derived.Test.YtfgmebjbibbpdaaGreatDoorShelf
import Derived.Shelf.Abstract
import Derived.Shelf.RegionOpen
import Derived.OwnWalkIn
import Derived.TacticsInMore
import Derived.LoopNIn
import Derived.LoopIn
import Derived.Deep.QuietTactic
import Derived.BigQuiet
import Derived.Lib.IndexLaws
namespace Go.Proofs.YtfgmebjbibbpdaaGreatDoor
open Go.RowKit

set_option maxRecDepth 100000 in
set_option maxHeartbeats 4000000 in
theorem guess_set (op : Int) (p0 : List UInt8) (ps : List (List UInt8)) (s : ByteArray) (w : World) (hM : Mx w) (hs : s.size ≤ 1000000) (hps : pcs 32 s.data.toList = ps) (hp0 : ps[0]? = some p0) (hpl : ∀ p ∈ ps, p.length ≤ 1000000) (hn : ps.length ≤ 1000001) (hk : kindOf p0 = op) (ho : op = 1) :
    Calls Tryz.prog 69 #[.string s] w fun r W' => r = .returned (insV ⟨1, wordAt ps 1, 0, 0, wordAt ps 2⟩) ∧ Below w.heap.size w W' := by
  subst ho
  have hsp := fun W hM => split_any s 32 W hM hs
  rw [hps] at hsp
  have hki := fun W => kind_any ⟨p0.toArray⟩ W
  rw [show (⟨p0.toArray⟩ : ByteArray).data.toList = p0 from rfl, hk] at hki
  have hl0 : 0 < ps.length := get_lt hp0
  have hl1 : (0 : Int) < (ps.length : Int) := by omega
  have hsp' := Lib.hid hsp
  have hki' := Lib.hid hki
  have hMz' := Lib.hid (hM.below ((Below.refl _ w).alloc (Nat.le_refl _) (.cells #[.int .i64 0, .int .i64 0, .int .i64 0, .int .i64 0, .int .u32 0] 73)))
  have hpl' := Lib.hid hpl
  clear hsp hki hps hk hpl hM
  go_enter Tryz.func69, Tryz.ntmps69
  go_wp2_with fail
  refine (hsp'.out _ hMz'.out).mono ?_
  rintro e w1 ⟨rfl, hc1, hb1⟩
  simp only [World.size_alloc] at hc1
  have c0 := hc1 0 p0 hp0
  have hlt1 : w.heap.size + 1 < w1.heap.size := cell_lt c0
  have hne1 : w.heap.size + 1 ≠ w1.heap.size := by omega
  have hc1' := Lib.hid hc1
  clear hc1
  go_wp2_with fail
  refine (hki'.out _).mono ?_
  rintro e w2 ⟨rfl, hb2⟩
  have hG0 := gst_start (op := 1) hc1'.out hb1 hlt1 hb2
  have hs2 : w1.heap.size < w2.heap.size := hG0.hn.2
  have hne2 : w1.heap.size ≠ w2.heap.size := by omega
  have hne3 : w.heap.size ≠ w2.heap.size := by omega
  have hne4 : w.heap.size ≠ w2.heap.size + 1 := by omega
  have hlt3 : w.heap.size < w2.heap.size := by omega
  have hlt4 : w.heap.size < w2.heap.size + 1 := by omega
  have hlt5 : w.heap.size < w2.heap.size + 1 + 1 := by omega
  have hne5 : w.heap.size ≠ w2.heap.size + 1 + 1 := by omega
  have hrw : InBox w2 w.heap.size Ins.zero := ((hb2.block _ (by rw [World.size_alloc]; omega)).trans ((Below.heap_alloc _ _ _ (by omega)).trans ((hb1.block _ (by rw [World.size_alloc]; omega)).trans (heap_alloc_new w _))))
  obtain ⟨y0, y1, y2, y3, y4⟩ := hrw.cells
  have z0 := hrw.frozen 0
  have z1 := hrw.frozen 1
  have z2 := hrw.frozen 2
  have z3 := hrw.frozen 3
  have z4 := hrw.frozen 4
  have hst := fun W p => run_store Tryz.prog W p (.func (.func 86) #[] #[.pointer (some ⟨w2.heap.size + 1, 0, none⟩), .pointer (some ⟨w1.heap.size, 0, none⟩)]) .plain rfl
  have hB1 : Below w.heap.size w w1 := ((Below.refl _ w).alloc (Nat.le_refl _) _).trans (hb1.mono (by simp))
  have hB2 : Below w.heap.size w w2 := (hB1.alloc hB1.size _).trans (hb2.mono (by rw [World.size_alloc]; have := hB1.size; omega))
  have hB2' := Lib.hid hB2
  have hrw' := Lib.hid hrw
  clear c0 hc1' hb1 hb2 hB1 hB2 hrw
  go_wp2_with (first
    | (go_at_call 86; refine (next_any (by assumption) (by omega) hpl'.out).mono ?_; rintro e wx ⟨rfl, hbx⟩; have hGx := GSt.next (by assumption) hbx; have hSx := hGx.hx.cell; obtain ⟨d0, d1, d2, d3, d4⟩ := hGx.hi.cells; have q0 := hGx.hi.frozen 0; have q1 := hGx.hi.frozen 1; have q2 := hGx.hi.frozen 2; have q3 := hGx.hi.frozen 3; have q4 := hGx.hi.frozen 4; obtain ⟨y0, y1, y2, y3, y4⟩ := hGx.hr.cells; have z0 := hGx.hr.frozen 0; have z1 := hGx.hr.frozen 1; have z2 := hGx.hr.frozen 2; have z3 := hGx.hr.frozen 3; have z4 := hGx.hr.frozen 4; unfold nextV at hSx)
    | (go_at_call 88; refine (small_any (by assumption) (by omega) hpl'.out).mono ?_; rintro e wx ⟨rfl, hbx⟩; have hGx := GSt.next (by assumption) hbx; have hSx := hGx.hx.cell; obtain ⟨d0, d1, d2, d3, d4⟩ := hGx.hi.cells; have q0 := hGx.hi.frozen 0; have q1 := hGx.hi.frozen 1; have q2 := hGx.hi.frozen 2; have q3 := hGx.hi.frozen 3; have q4 := hGx.hi.frozen 4; obtain ⟨y0, y1, y2, y3, y4⟩ := hGx.hr.cells; have z0 := hGx.hr.frozen 0; have z1 := hGx.hr.frozen 1; have z2 := hGx.hr.frozen 2; have z3 := hGx.hr.frozen 3; have z4 := hGx.hr.frozen 4; unfold nextV at hSx))
  have hGd := hG0.drew
  have hSd := hGd.hx.cell
  unfold nextV at hSd
  go_region_held3 (fun w' => w'.cell? ⟨w2.heap.size + 1 + 1, 0, none⟩ = some (.func (.func 86) #[] #[.pointer (some ⟨w2.heap.size + 1, 0, none⟩), .pointer (some ⟨w1.heap.size, 0, none⟩)]))
    (first | with_reducible exact hSd | with_reducible assumption | (rw [World.cell?_setCell_far _ _ _ _ (by simp <;> omega)]; with_reducible assumption) | (rw [World.cell?_setCell_far _ _ _ _ (by simp <;> omega), World.cell?_setCell_far _ _ _ _ (by simp <;> omega)]; with_reducible assumption) | (rw [World.cell?_setCell_far _ _ _ _ (by simp <;> omega), World.cell?_setCell_far _ _ _ _ (by simp <;> omega), World.cell?_setCell_far _ _ _ _ (by simp <;> omega)]; with_reducible assumption) | (rw [World.cell?_setCell_far _ _ _ _ (by simp <;> omega), World.cell?_setCell_far _ _ _ _ (by simp <;> omega), World.cell?_setCell_far _ _ _ _ (by simp <;> omega), World.cell?_setCell_far _ _ _ _ (by simp <;> omega)]; with_reducible assumption))
    (first
      | (go_at_call 86; refine (next_any (by assumption) (by omega) hpl'.out).mono ?_; rintro e wx ⟨rfl, hbx⟩; have hGx := GSt.next (by assumption) hbx; have hSx := hGx.hx.cell; obtain ⟨d0, d1, d2, d3, d4⟩ := hGx.hi.cells; have q0 := hGx.hi.frozen 0; have q1 := hGx.hi.frozen 1; have q2 := hGx.hi.frozen 2; have q3 := hGx.hi.frozen 3; have q4 := hGx.hi.frozen 4; obtain ⟨y0, y1, y2, y3, y4⟩ := hGx.hr.cells; have z0 := hGx.hr.frozen 0; have z1 := hGx.hr.frozen 1; have z2 := hGx.hr.frozen 2; have z3 := hGx.hr.frozen 3; have z4 := hGx.hr.frozen 4; unfold nextV at hSx)
      | (go_at_call 88; refine (small_any (by assumption) (by omega) hpl'.out).mono ?_; rintro e wx ⟨rfl, hbx⟩; have hGx := GSt.next (by assumption) hbx; have hSx := hGx.hx.cell; obtain ⟨d0, d1, d2, d3, d4⟩ := hGx.hi.cells; have q0 := hGx.hi.frozen 0; have q1 := hGx.hi.frozen 1; have q2 := hGx.hi.frozen 2; have q3 := hGx.hi.frozen 3; have q4 := hGx.hi.frozen 4; obtain ⟨y0, y1, y2, y3, y4⟩ := hGx.hr.cells; have z0 := hGx.hr.frozen 0; have z1 := hGx.hr.frozen 1; have z2 := hGx.hr.frozen 2; have z3 := hGx.hr.frozen 3; have z4 := hGx.hr.frozen 4; unfold nextV at hSx))
  all_goals
    have hF := ((hGx.putA (wordAt ps 1)).putN (wordAt ps 2))
    obtain ⟨d0, d1, d2, d3, d4⟩ := hF.hi.cells
    obtain ⟨y0, y1, y2, y3, y4⟩ := hF.hr.cells
    have z0 := hF.hr.frozen 0
    have z1 := hF.hr.frozen 1
    have z2 := hF.hr.frozen 2
    have z3 := hF.hr.frozen 3
    have z4 := hF.hr.frozen 4
    go_wp2_with fail
    refine bodyPost_ret (res_guess _ _ rfl (hF.hr.set5 ⟨1, wordAt ps 1, 0, 0, wordAt ps 2⟩)) rfl ?_
    exact ⟨rfl, below_set5 hF.hb _ (Nat.le_refl _) _ _ _ _ _⟩

set_option maxRecDepth 100000 in
set_option maxHeartbeats 4000000 in
theorem guess_zero (op : Int) (p0 : List UInt8) (ps : List (List UInt8)) (s : ByteArray) (w : World) (hM : Mx w) (hs : s.size ≤ 1000000) (hps : pcs 32 s.data.toList = ps) (hp0 : ps[0]? = some p0) (hpl : ∀ p ∈ ps, p.length ≤ 1000000) (hn : ps.length ≤ 1000001) (hk : kindOf p0 = op) (ho : op = 15) :
    Calls Tryz.prog 69 #[.string s] w fun r W' => r = .returned (insV ⟨15, wordAt ps 1, 0, 0, wordAt ps 2⟩) ∧ Below w.heap.size w W' := by
  subst ho
  have hsp := fun W hM => split_any s 32 W hM hs
  rw [hps] at hsp
  have hki := fun W => kind_any ⟨p0.toArray⟩ W
  rw [show (⟨p0.toArray⟩ : ByteArray).data.toList = p0 from rfl, hk] at hki
  have hl0 : 0 < ps.length := get_lt hp0
  have hl1 : (0 : Int) < (ps.length : Int) := by omega
  have hsp' := Lib.hid hsp
  have hki' := Lib.hid hki
  have hMz' := Lib.hid (hM.below ((Below.refl _ w).alloc (Nat.le_refl _) (.cells #[.int .i64 0, .int .i64 0, .int .i64 0, .int .i64 0, .int .u32 0] 73)))
  have hpl' := Lib.hid hpl
  clear hsp hki hps hk hpl hM
  go_enter Tryz.func69, Tryz.ntmps69
  go_wp2_with fail
  refine (hsp'.out _ hMz'.out).mono ?_
  rintro e w1 ⟨rfl, hc1, hb1⟩
  simp only [World.size_alloc] at hc1
  have c0 := hc1 0 p0 hp0
  have hlt1 : w.heap.size + 1 < w1.heap.size := cell_lt c0
  have hne1 : w.heap.size + 1 ≠ w1.heap.size := by omega
  have hc1' := Lib.hid hc1
  clear hc1
  go_wp2_with fail
  refine (hki'.out _).mono ?_
  rintro e w2 ⟨rfl, hb2⟩
  have hG0 := gst_start (op := 15) hc1'.out hb1 hlt1 hb2
  have hs2 : w1.heap.size < w2.heap.size := hG0.hn.2
  have hne2 : w1.heap.size ≠ w2.heap.size := by omega
  have hne3 : w.heap.size ≠ w2.heap.size := by omega
  have hne4 : w.heap.size ≠ w2.heap.size + 1 := by omega
  have hlt3 : w.heap.size < w2.heap.size := by omega
  have hlt4 : w.heap.size < w2.heap.size + 1 := by omega
  have hlt5 : w.heap.size < w2.heap.size + 1 + 1 := by omega
  have hne5 : w.heap.size ≠ w2.heap.size + 1 + 1 := by omega
  have hrw : InBox w2 w.heap.size Ins.zero := ((hb2.block _ (by rw [World.size_alloc]; omega)).trans ((Below.heap_alloc _ _ _ (by omega)).trans ((hb1.block _ (by rw [World.size_alloc]; omega)).trans (heap_alloc_new w _))))
  obtain ⟨y0, y1, y2, y3, y4⟩ := hrw.cells
  have z0 := hrw.frozen 0
  have z1 := hrw.frozen 1
  have z2 := hrw.frozen 2
  have z3 := hrw.frozen 3
  have z4 := hrw.frozen 4
  have hst := fun W p => run_store Tryz.prog W p (.func (.func 86) #[] #[.pointer (some ⟨w2.heap.size + 1, 0, none⟩), .pointer (some ⟨w1.heap.size, 0, none⟩)]) .plain rfl
  have hB1 : Below w.heap.size w w1 := ((Below.refl _ w).alloc (Nat.le_refl _) _).trans (hb1.mono (by simp))
  have hB2 : Below w.heap.size w w2 := (hB1.alloc hB1.size _).trans (hb2.mono (by rw [World.size_alloc]; have := hB1.size; omega))
  have hB2' := Lib.hid hB2
  have hrw' := Lib.hid hrw
  clear c0 hc1' hb1 hb2 hB1 hB2 hrw
  go_wp2_with (first
    | (go_at_call 86; refine (next_any (by assumption) (by omega) hpl'.out).mono ?_; rintro e wx ⟨rfl, hbx⟩; have hGx := GSt.next (by assumption) hbx; have hSx := hGx.hx.cell; obtain ⟨d0, d1, d2, d3, d4⟩ := hGx.hi.cells; have q0 := hGx.hi.frozen 0; have q1 := hGx.hi.frozen 1; have q2 := hGx.hi.frozen 2; have q3 := hGx.hi.frozen 3; have q4 := hGx.hi.frozen 4; obtain ⟨y0, y1, y2, y3, y4⟩ := hGx.hr.cells; have z0 := hGx.hr.frozen 0; have z1 := hGx.hr.frozen 1; have z2 := hGx.hr.frozen 2; have z3 := hGx.hr.frozen 3; have z4 := hGx.hr.frozen 4; unfold nextV at hSx)
    | (go_at_call 88; refine (small_any (by assumption) (by omega) hpl'.out).mono ?_; rintro e wx ⟨rfl, hbx⟩; have hGx := GSt.next (by assumption) hbx; have hSx := hGx.hx.cell; obtain ⟨d0, d1, d2, d3, d4⟩ := hGx.hi.cells; have q0 := hGx.hi.frozen 0; have q1 := hGx.hi.frozen 1; have q2 := hGx.hi.frozen 2; have q3 := hGx.hi.frozen 3; have q4 := hGx.hi.frozen 4; obtain ⟨y0, y1, y2, y3, y4⟩ := hGx.hr.cells; have z0 := hGx.hr.frozen 0; have z1 := hGx.hr.frozen 1; have z2 := hGx.hr.frozen 2; have z3 := hGx.hr.frozen 3; have z4 := hGx.hr.frozen 4; unfold nextV at hSx))
  have hGd := hG0.drew
  have hSd := hGd.hx.cell
  unfold nextV at hSd
  go_region_held3 (fun w' => w'.cell? ⟨w2.heap.size + 1 + 1, 0, none⟩ = some (.func (.func 86) #[] #[.pointer (some ⟨w2.heap.size + 1, 0, none⟩), .pointer (some ⟨w1.heap.size, 0, none⟩)]))
    (first | with_reducible exact hSd | with_reducible assumption | (rw [World.cell?_setCell_far _ _ _ _ (by simp <;> omega)]; with_reducible assumption) | (rw [World.cell?_setCell_far _ _ _ _ (by simp <;> omega), World.cell?_setCell_far _ _ _ _ (by simp <;> omega)]; with_reducible assumption) | (rw [World.cell?_setCell_far _ _ _ _ (by simp <;> omega), World.cell?_setCell_far _ _ _ _ (by simp <;> omega), World.cell?_setCell_far _ _ _ _ (by simp <;> omega)]; with_reducible assumption) | (rw [World.cell?_setCell_far _ _ _ _ (by simp <;> omega), World.cell?_setCell_far _ _ _ _ (by simp <;> omega), World.cell?_setCell_far _ _ _ _ (by simp <;> omega), World.cell?_setCell_far _ _ _ _ (by simp <;> omega)]; with_reducible assumption))
    (first
      | (go_at_call 86; refine (next_any (by assumption) (by omega) hpl'.out).mono ?_; rintro e wx ⟨rfl, hbx⟩; have hGx := GSt.next (by assumption) hbx; have hSx := hGx.hx.cell; obtain ⟨d0, d1, d2, d3, d4⟩ := hGx.hi.cells; have q0 := hGx.hi.frozen 0; have q1 := hGx.hi.frozen 1; have q2 := hGx.hi.frozen 2; have q3 := hGx.hi.frozen 3; have q4 := hGx.hi.frozen 4; obtain ⟨y0, y1, y2, y3, y4⟩ := hGx.hr.cells; have z0 := hGx.hr.frozen 0; have z1 := hGx.hr.frozen 1; have z2 := hGx.hr.frozen 2; have z3 := hGx.hr.frozen 3; have z4 := hGx.hr.frozen 4; unfold nextV at hSx)
      | (go_at_call 88; refine (small_any (by assumption) (by omega) hpl'.out).mono ?_; rintro e wx ⟨rfl, hbx⟩; have hGx := GSt.next (by assumption) hbx; have hSx := hGx.hx.cell; obtain ⟨d0, d1, d2, d3, d4⟩ := hGx.hi.cells; have q0 := hGx.hi.frozen 0; have q1 := hGx.hi.frozen 1; have q2 := hGx.hi.frozen 2; have q3 := hGx.hi.frozen 3; have q4 := hGx.hi.frozen 4; obtain ⟨y0, y1, y2, y3, y4⟩ := hGx.hr.cells; have z0 := hGx.hr.frozen 0; have z1 := hGx.hr.frozen 1; have z2 := hGx.hr.frozen 2; have z3 := hGx.hr.frozen 3; have z4 := hGx.hr.frozen 4; unfold nextV at hSx))
  all_goals
    have hF := ((hGx.putA (wordAt ps 1)).putN (wordAt ps 2))
    obtain ⟨d0, d1, d2, d3, d4⟩ := hF.hi.cells
    obtain ⟨y0, y1, y2, y3, y4⟩ := hF.hr.cells
    have z0 := hF.hr.frozen 0
    have z1 := hF.hr.frozen 1
    have z2 := hF.hr.frozen 2
    have z3 := hF.hr.frozen 3
    have z4 := hF.hr.frozen 4
    go_wp2_with fail
    refine bodyPost_ret (res_guess _ _ rfl (hF.hr.set5 ⟨15, wordAt ps 1, 0, 0, wordAt ps 2⟩)) rfl ?_
    exact ⟨rfl, below_set5 hF.hb _ (Nat.le_refl _) _ _ _ _ _⟩

end Go.Proofs.YtfgmebjbibbpdaaGreatDoor

namespace Go.Proofs.YtfgmebjbibbpdaaGreatDoor
open Go.RowKit

set_option maxRecDepth 100000 in
set_option maxHeartbeats 4000000 in
theorem guess_cas (op : Int) (p0 : List UInt8) (ps : List (List UInt8)) (s : ByteArray) (w : World) (hM : Mx w) (hs : s.size ≤ 1000000) (hps : pcs 32 s.data.toList = ps) (hp0 : ps[0]? = some p0) (hpl : ∀ p ∈ ps, p.length ≤ 1000000) (hn : ps.length ≤ 1000001) (hk : kindOf p0 = op) (ho : op = 13) :
    Calls Tryz.prog 69 #[.string s] w fun r W' => r = .returned (insV ⟨13, wordAt ps 1, wordAt ps 2, wordAt ps 3, wordAt ps 4⟩) ∧ Below w.heap.size w W' := by
  subst ho
  have hsp := fun W hM => split_any s 32 W hM hs
  rw [hps] at hsp
  have hki := fun W => kind_any ⟨p0.toArray⟩ W
  rw [show (⟨p0.toArray⟩ : ByteArray).data.toList = p0 from rfl, hk] at hki
  have hl0 : 0 < ps.length := get_lt hp0
  have hl1 : (0 : Int) < (ps.length : Int) := by omega
  have hsp' := Lib.hid hsp
  have hki' := Lib.hid hki
  have hMz' := Lib.hid (hM.below ((Below.refl _ w).alloc (Nat.le_refl _) (.cells #[.int .i64 0, .int .i64 0, .int .i64 0, .int .i64 0, .int .u32 0] 73)))
  have hpl' := Lib.hid hpl
  clear hsp hki hps hk hpl hM
  go_enter Tryz.func69, Tryz.ntmps69
  go_wp2_with fail
  refine (hsp'.out _ hMz'.out).mono ?_
  rintro e w1 ⟨rfl, hc1, hb1⟩
  simp only [World.size_alloc] at hc1
  have c0 := hc1 0 p0 hp0
  have hlt1 : w.heap.size + 1 < w1.heap.size := cell_lt c0
  have hne1 : w.heap.size + 1 ≠ w1.heap.size := by omega
  have hc1' := Lib.hid hc1
  clear hc1
  go_wp2_with fail
  refine (hki'.out _).mono ?_
  rintro e w2 ⟨rfl, hb2⟩
  have hG0 := gst_start (op := 13) hc1'.out hb1 hlt1 hb2
  have hs2 : w1.heap.size < w2.heap.size := hG0.hn.2
  have hne2 : w1.heap.size ≠ w2.heap.size := by omega
  have hne3 : w.heap.size ≠ w2.heap.size := by omega
  have hne4 : w.heap.size ≠ w2.heap.size + 1 := by omega
  have hlt3 : w.heap.size < w2.heap.size := by omega
  have hlt4 : w.heap.size < w2.heap.size + 1 := by omega
  have hlt5 : w.heap.size < w2.heap.size + 1 + 1 := by omega
  have hne5 : w.heap.size ≠ w2.heap.size + 1 + 1 := by omega
  have hrw : InBox w2 w.heap.size Ins.zero := ((hb2.block _ (by rw [World.size_alloc]; omega)).trans ((Below.heap_alloc _ _ _ (by omega)).trans ((hb1.block _ (by rw [World.size_alloc]; omega)).trans (heap_alloc_new w _))))
  obtain ⟨y0, y1, y2, y3, y4⟩ := hrw.cells
  have z0 := hrw.frozen 0
  have z1 := hrw.frozen 1
  have z2 := hrw.frozen 2
  have z3 := hrw.frozen 3
  have z4 := hrw.frozen 4
  have hst := fun W p => run_store Tryz.prog W p (.func (.func 86) #[] #[.pointer (some ⟨w2.heap.size + 1, 0, none⟩), .pointer (some ⟨w1.heap.size, 0, none⟩)]) .plain rfl
  have hB1 : Below w.heap.size w w1 := ((Below.refl _ w).alloc (Nat.le_refl _) _).trans (hb1.mono (by simp))
  have hB2 : Below w.heap.size w w2 := (hB1.alloc hB1.size _).trans (hb2.mono (by rw [World.size_alloc]; have := hB1.size; omega))
  have hB2' := Lib.hid hB2
  have hrw' := Lib.hid hrw
  clear c0 hc1' hb1 hb2 hB1 hB2 hrw
  go_wp2_with (first
    | (go_at_call 86; refine (next_any (by assumption) (by omega) hpl'.out).mono ?_; rintro e wx ⟨rfl, hbx⟩; have hGx := GSt.next (by assumption) hbx; have hSx := hGx.hx.cell; obtain ⟨d0, d1, d2, d3, d4⟩ := hGx.hi.cells; have q0 := hGx.hi.frozen 0; have q1 := hGx.hi.frozen 1; have q2 := hGx.hi.frozen 2; have q3 := hGx.hi.frozen 3; have q4 := hGx.hi.frozen 4; obtain ⟨y0, y1, y2, y3, y4⟩ := hGx.hr.cells; have z0 := hGx.hr.frozen 0; have z1 := hGx.hr.frozen 1; have z2 := hGx.hr.frozen 2; have z3 := hGx.hr.frozen 3; have z4 := hGx.hr.frozen 4; unfold nextV at hSx)
    | (go_at_call 88; refine (small_any (by assumption) (by omega) hpl'.out).mono ?_; rintro e wx ⟨rfl, hbx⟩; have hGx := GSt.next (by assumption) hbx; have hSx := hGx.hx.cell; obtain ⟨d0, d1, d2, d3, d4⟩ := hGx.hi.cells; have q0 := hGx.hi.frozen 0; have q1 := hGx.hi.frozen 1; have q2 := hGx.hi.frozen 2; have q3 := hGx.hi.frozen 3; have q4 := hGx.hi.frozen 4; obtain ⟨y0, y1, y2, y3, y4⟩ := hGx.hr.cells; have z0 := hGx.hr.frozen 0; have z1 := hGx.hr.frozen 1; have z2 := hGx.hr.frozen 2; have z3 := hGx.hr.frozen 3; have z4 := hGx.hr.frozen 4; unfold nextV at hSx))
  have hGd := hG0.drew
  have hSd := hGd.hx.cell
  unfold nextV at hSd
  go_region_held3 (fun w' => w'.cell? ⟨w2.heap.size + 1 + 1, 0, none⟩ = some (.func (.func 86) #[] #[.pointer (some ⟨w2.heap.size + 1, 0, none⟩), .pointer (some ⟨w1.heap.size, 0, none⟩)]))
    (first | with_reducible exact hSd | with_reducible assumption | (rw [World.cell?_setCell_far _ _ _ _ (by simp <;> omega)]; with_reducible assumption) | (rw [World.cell?_setCell_far _ _ _ _ (by simp <;> omega), World.cell?_setCell_far _ _ _ _ (by simp <;> omega)]; with_reducible assumption) | (rw [World.cell?_setCell_far _ _ _ _ (by simp <;> omega), World.cell?_setCell_far _ _ _ _ (by simp <;> omega), World.cell?_setCell_far _ _ _ _ (by simp <;> omega)]; with_reducible assumption) | (rw [World.cell?_setCell_far _ _ _ _ (by simp <;> omega), World.cell?_setCell_far _ _ _ _ (by simp <;> omega), World.cell?_setCell_far _ _ _ _ (by simp <;> omega), World.cell?_setCell_far _ _ _ _ (by simp <;> omega)]; with_reducible assumption))
    (first
      | (go_at_call 86; refine (next_any (by assumption) (by omega) hpl'.out).mono ?_; rintro e wx ⟨rfl, hbx⟩; have hGx := GSt.next (by assumption) hbx; have hSx := hGx.hx.cell; obtain ⟨d0, d1, d2, d3, d4⟩ := hGx.hi.cells; have q0 := hGx.hi.frozen 0; have q1 := hGx.hi.frozen 1; have q2 := hGx.hi.frozen 2; have q3 := hGx.hi.frozen 3; have q4 := hGx.hi.frozen 4; obtain ⟨y0, y1, y2, y3, y4⟩ := hGx.hr.cells; have z0 := hGx.hr.frozen 0; have z1 := hGx.hr.frozen 1; have z2 := hGx.hr.frozen 2; have z3 := hGx.hr.frozen 3; have z4 := hGx.hr.frozen 4; unfold nextV at hSx)
      | (go_at_call 88; refine (small_any (by assumption) (by omega) hpl'.out).mono ?_; rintro e wx ⟨rfl, hbx⟩; have hGx := GSt.next (by assumption) hbx; have hSx := hGx.hx.cell; obtain ⟨d0, d1, d2, d3, d4⟩ := hGx.hi.cells; have q0 := hGx.hi.frozen 0; have q1 := hGx.hi.frozen 1; have q2 := hGx.hi.frozen 2; have q3 := hGx.hi.frozen 3; have q4 := hGx.hi.frozen 4; obtain ⟨y0, y1, y2, y3, y4⟩ := hGx.hr.cells; have z0 := hGx.hr.frozen 0; have z1 := hGx.hr.frozen 1; have z2 := hGx.hr.frozen 2; have z3 := hGx.hr.frozen 3; have z4 := hGx.hr.frozen 4; unfold nextV at hSx))
  all_goals
    have hF := ((((hGx.putA (wordAt ps 1)).putB (wordAt ps 2)).putC (wordAt ps 3)).putN (wordAt ps 4))
    obtain ⟨d0, d1, d2, d3, d4⟩ := hF.hi.cells
    obtain ⟨y0, y1, y2, y3, y4⟩ := hF.hr.cells
    have z0 := hF.hr.frozen 0
    have z1 := hF.hr.frozen 1
    have z2 := hF.hr.frozen 2
    have z3 := hF.hr.frozen 3
    have z4 := hF.hr.frozen 4
    go_wp2_with fail
    refine bodyPost_ret (res_guess _ _ rfl (hF.hr.set5 ⟨13, wordAt ps 1, wordAt ps 2, wordAt ps 3, wordAt ps 4⟩)) rfl ?_
    exact ⟨rfl, below_set5 hF.hb _ (Nat.le_refl _) _ _ _ _ _⟩

end Go.Proofs.YtfgmebjbibbpdaaGreatDoor

namespace Go.Proofs.YtfgmebjbibbpdaaGreatDoor
open Go.RowKit

set_option maxRecDepth 100000 in
set_option maxHeartbeats 4000000 in
theorem guess_load (op : Int) (p0 : List UInt8) (ps : List (List UInt8)) (s : ByteArray) (w : World) (hM : Mx w) (hs : s.size ≤ 1000000) (hps : pcs 32 s.data.toList = ps) (hp0 : ps[0]? = some p0) (hpl : ∀ p ∈ ps, p.length ≤ 1000000) (hn : ps.length ≤ 1000001) (hk : kindOf p0 = op) (ho : 11 ≤ op ∧ op ≤ 20 ∧ op ≠ 13 ∧ op ≠ 14 ∧ op ≠ 15 ∧ op ≠ 16) :
    Calls Tryz.prog 69 #[.string s] w fun r W' => r = .returned (insV ⟨op, wordAt ps 1, wordAt ps 2, 0, wordAt ps 3⟩) ∧ Below w.heap.size w W' := by
  have x16 : (op == 16) = false := by rw [beq_eq_false_iff_ne]; omega
  have x14 : (op == 14) = false := by rw [beq_eq_false_iff_ne]; omega
  have x1 : (op == 1) = false := by rw [beq_eq_false_iff_ne]; omega
  have x15 : (op == 15) = false := by rw [beq_eq_false_iff_ne]; omega
  have x2 : (op == 2) = false := by rw [beq_eq_false_iff_ne]; omega
  have x13 : (op == 13) = false := by rw [beq_eq_false_iff_ne]; omega
  have y3 : (decide (3 ≤ op) && decide (op ≤ 10)) = false := by simp; omega
  have y3a : decide (3 ≤ op) = true := decide_eq_true (by omega)
  have y3b : decide (op ≤ 10) = false := decide_eq_false (by omega)
  have y5 : (op != 0) = true := by simp; omega
  have y6 : (op != 21) = true := by simp; omega
  have hsp := fun W hM => split_any s 32 W hM hs
  rw [hps] at hsp
  have hki := fun W => kind_any ⟨p0.toArray⟩ W
  rw [show (⟨p0.toArray⟩ : ByteArray).data.toList = p0 from rfl, hk] at hki
  have hl0 : 0 < ps.length := get_lt hp0
  have hl1 : (0 : Int) < (ps.length : Int) := by omega
  have hsp' := Lib.hid hsp
  have hki' := Lib.hid hki
  have hMz' := Lib.hid (hM.below ((Below.refl _ w).alloc (Nat.le_refl _) (.cells #[.int .i64 0, .int .i64 0, .int .i64 0, .int .i64 0, .int .u32 0] 73)))
  have hpl' := Lib.hid hpl
  clear hsp hki hps hk hpl hM
  go_enter Tryz.func69, Tryz.ntmps69
  go_wp2_with fail
  refine (hsp'.out _ hMz'.out).mono ?_
  rintro e w1 ⟨rfl, hc1, hb1⟩
  simp only [World.size_alloc] at hc1
  have c0 := hc1 0 p0 hp0
  have hlt1 : w.heap.size + 1 < w1.heap.size := cell_lt c0
  have hne1 : w.heap.size + 1 ≠ w1.heap.size := by omega
  have hc1' := Lib.hid hc1
  clear hc1
  go_wp2_with fail
  refine (hki'.out _).mono ?_
  rintro e w2 ⟨rfl, hb2⟩
  have hG0 := gst_start (op := op) hc1'.out hb1 hlt1 hb2
  have hs2 : w1.heap.size < w2.heap.size := hG0.hn.2
  have hne2 : w1.heap.size ≠ w2.heap.size := by omega
  have hne3 : w.heap.size ≠ w2.heap.size := by omega
  have hne4 : w.heap.size ≠ w2.heap.size + 1 := by omega
  have hlt3 : w.heap.size < w2.heap.size := by omega
  have hlt4 : w.heap.size < w2.heap.size + 1 := by omega
  have hlt5 : w.heap.size < w2.heap.size + 1 + 1 := by omega
  have hne5 : w.heap.size ≠ w2.heap.size + 1 + 1 := by omega
  have hrw : InBox w2 w.heap.size Ins.zero := ((hb2.block _ (by rw [World.size_alloc]; omega)).trans ((Below.heap_alloc _ _ _ (by omega)).trans ((hb1.block _ (by rw [World.size_alloc]; omega)).trans (heap_alloc_new w _))))
  obtain ⟨y0, y1, y2, y3, y4⟩ := hrw.cells
  have z0 := hrw.frozen 0
  have z1 := hrw.frozen 1
  have z2 := hrw.frozen 2
  have z3 := hrw.frozen 3
  have z4 := hrw.frozen 4
  have hst := fun W p => run_store Tryz.prog W p (.func (.func 86) #[] #[.pointer (some ⟨w2.heap.size + 1, 0, none⟩), .pointer (some ⟨w1.heap.size, 0, none⟩)]) .plain rfl
  have hB1 : Below w.heap.size w w1 := ((Below.refl _ w).alloc (Nat.le_refl _) _).trans (hb1.mono (by simp))
  have hB2 : Below w.heap.size w w2 := (hB1.alloc hB1.size _).trans (hb2.mono (by rw [World.size_alloc]; have := hB1.size; omega))
  have hB2' := Lib.hid hB2
  have hrw' := Lib.hid hrw
  clear c0 hc1' hb1 hb2 hB1 hB2 hrw
  go_wp2_with (first
    | (go_at_call 86; refine (next_any (by assumption) (by omega) hpl'.out).mono ?_; rintro e wx ⟨rfl, hbx⟩; have hGx := GSt.next (by assumption) hbx; have hSx := hGx.hx.cell; obtain ⟨d0, d1, d2, d3, d4⟩ := hGx.hi.cells; have q0 := hGx.hi.frozen 0; have q1 := hGx.hi.frozen 1; have q2 := hGx.hi.frozen 2; have q3 := hGx.hi.frozen 3; have q4 := hGx.hi.frozen 4; obtain ⟨y0, y1, y2, y3, y4⟩ := hGx.hr.cells; have z0 := hGx.hr.frozen 0; have z1 := hGx.hr.frozen 1; have z2 := hGx.hr.frozen 2; have z3 := hGx.hr.frozen 3; have z4 := hGx.hr.frozen 4; unfold nextV at hSx)
    | (go_at_call 88; refine (small_any (by assumption) (by omega) hpl'.out).mono ?_; rintro e wx ⟨rfl, hbx⟩; have hGx := GSt.next (by assumption) hbx; have hSx := hGx.hx.cell; obtain ⟨d0, d1, d2, d3, d4⟩ := hGx.hi.cells; have q0 := hGx.hi.frozen 0; have q1 := hGx.hi.frozen 1; have q2 := hGx.hi.frozen 2; have q3 := hGx.hi.frozen 3; have q4 := hGx.hi.frozen 4; obtain ⟨y0, y1, y2, y3, y4⟩ := hGx.hr.cells; have z0 := hGx.hr.frozen 0; have z1 := hGx.hr.frozen 1; have z2 := hGx.hr.frozen 2; have z3 := hGx.hr.frozen 3; have z4 := hGx.hr.frozen 4; unfold nextV at hSx))
  have hGd := hG0.drew
  have hSd := hGd.hx.cell
  unfold nextV at hSd
  go_region_held3 (fun w' => w'.cell? ⟨w2.heap.size + 1 + 1, 0, none⟩ = some (.func (.func 86) #[] #[.pointer (some ⟨w2.heap.size + 1, 0, none⟩), .pointer (some ⟨w1.heap.size, 0, none⟩)]))
    (first | with_reducible exact hSd | with_reducible assumption | (rw [World.cell?_setCell_far _ _ _ _ (by simp <;> omega)]; with_reducible assumption) | (rw [World.cell?_setCell_far _ _ _ _ (by simp <;> omega), World.cell?_setCell_far _ _ _ _ (by simp <;> omega)]; with_reducible assumption) | (rw [World.cell?_setCell_far _ _ _ _ (by simp <;> omega), World.cell?_setCell_far _ _ _ _ (by simp <;> omega), World.cell?_setCell_far _ _ _ _ (by simp <;> omega)]; with_reducible assumption) | (rw [World.cell?_setCell_far _ _ _ _ (by simp <;> omega), World.cell?_setCell_far _ _ _ _ (by simp <;> omega), World.cell?_setCell_far _ _ _ _ (by simp <;> omega), World.cell?_setCell_far _ _ _ _ (by simp <;> omega)]; with_reducible assumption))
    (first
      | (go_at_call 86; refine (next_any (by assumption) (by omega) hpl'.out).mono ?_; rintro e wx ⟨rfl, hbx⟩; have hGx := GSt.next (by assumption) hbx; have hSx := hGx.hx.cell; obtain ⟨d0, d1, d2, d3, d4⟩ := hGx.hi.cells; have q0 := hGx.hi.frozen 0; have q1 := hGx.hi.frozen 1; have q2 := hGx.hi.frozen 2; have q3 := hGx.hi.frozen 3; have q4 := hGx.hi.frozen 4; obtain ⟨y0, y1, y2, y3, y4⟩ := hGx.hr.cells; have z0 := hGx.hr.frozen 0; have z1 := hGx.hr.frozen 1; have z2 := hGx.hr.frozen 2; have z3 := hGx.hr.frozen 3; have z4 := hGx.hr.frozen 4; unfold nextV at hSx)
      | (go_at_call 88; refine (small_any (by assumption) (by omega) hpl'.out).mono ?_; rintro e wx ⟨rfl, hbx⟩; have hGx := GSt.next (by assumption) hbx; have hSx := hGx.hx.cell; obtain ⟨d0, d1, d2, d3, d4⟩ := hGx.hi.cells; have q0 := hGx.hi.frozen 0; have q1 := hGx.hi.frozen 1; have q2 := hGx.hi.frozen 2; have q3 := hGx.hi.frozen 3; have q4 := hGx.hi.frozen 4; obtain ⟨y0, y1, y2, y3, y4⟩ := hGx.hr.cells; have z0 := hGx.hr.frozen 0; have z1 := hGx.hr.frozen 1; have z2 := hGx.hr.frozen 2; have z3 := hGx.hr.frozen 3; have z4 := hGx.hr.frozen 4; unfold nextV at hSx))
  all_goals
    have hF := (((hGx.putA (wordAt ps 1)).putB (wordAt ps 2)).putN (wordAt ps 3))
    obtain ⟨d0, d1, d2, d3, d4⟩ := hF.hi.cells
    obtain ⟨y0, y1, y2, y3, y4⟩ := hF.hr.cells
    have z0 := hF.hr.frozen 0
    have z1 := hF.hr.frozen 1
    have z2 := hF.hr.frozen 2
    have z3 := hF.hr.frozen 3
    have z4 := hF.hr.frozen 4
    go_wp2_with fail
    refine bodyPost_ret (res_guess _ _ rfl (hF.hr.set5 ⟨op, wordAt ps 1, wordAt ps 2, 0, wordAt ps 3⟩)) rfl ?_
    exact ⟨rfl, below_set5 hF.hb _ (Nat.le_refl _) _ _ _ _ _⟩

end Go.Proofs.YtfgmebjbibbpdaaGreatDoor

namespace Go.Proofs.YtfgmebjbibbpdaaGreatDoor
open Go.RowKit

theorem kind_rng (p : List UInt8) : 0 ≤ kindOf p ∧ kindOf p < 22 := by
  unfold kindOf
  refine ⟨Int.natCast_nonneg _, ?_⟩
  cases h : shs.findIdx? fun x => x.w == p with
  | none => decide
  | some k =>
    have := (List.findIdx?_eq_some_iff_getElem.1 h).1
    have h22 : shs.length = 22 := rfl
    show ((k : Nat) : Int) < 22
    omega
theorem pcs_le (c : UInt8) (l : List UInt8) : ∀ x ∈ pcs c l, x.length ≤ l.length := by
  induction l with
  | nil => intro x hx; simp [pcs] at hx; simp [hx]
  | cons a l ih =>
    intro x hx
    have hh : ((pcs c l).headD []).length ≤ l.length := by
      cases h : pcs c l with
      | nil => simp
      | cons y r => exact ih y (by rw [h]; simp)
    unfold pcs at hx
    split at hx
    · rcases List.mem_cons.1 hx with rfl | hx
      · simp
      · have := ih x hx
        rw [List.length_cons]; omega
    · rcases List.mem_cons.1 hx with rfl | hx
      · simp only [List.length_cons]; omega
      · have := ih x (List.mem_of_mem_tail hx)
        rw [List.length_cons]; omega

theorem guess_any (s : ByteArray) (w : World) (hM : Mx w) (hs : s.size ≤ 1000000) : Calls Tryz.prog 69 #[.string s] w fun r W' => r = .returned (insV (guess s.data.toList)) ∧ Below w.heap.size w W' := by
  have hne := pcs_ne 32 s.data.toList
  have hlen : s.data.toList.length = s.size := Array.length_toList
  have hn : (pcs 32 s.data.toList).length ≤ 1000001 := by have := pcs_len 32 s.data.toList; omega
  have hpl : ∀ p ∈ pcs 32 s.data.toList, p.length ≤ 1000000 := fun p hp => by have := pcs_le 32 s.data.toList p hp; omega
  obtain ⟨p0, hp0⟩ := get_some (List.length_pos_iff.2 hne)
  unfold guess guessL
  have hp0' : (pcs 32 s.data.toList).getD 0 [] = p0 := by rw [List.getD_eq_getElem?_getD, hp0]; rfl
  rw [hp0']
  simp only
  have hr := kind_rng p0
  by_cases h16 : kindOf p0 = 16
  · rw [if_pos h16, h16]
    exact guess_back 16 p0 _ s w hM hs rfl hp0 hpl hn h16 rfl
  rw [if_neg h16]
  by_cases h14 : kindOf p0 = 14
  · rw [if_pos h14, h14]
    exact guess_jump 14 p0 _ s w hM hs rfl hp0 hpl hn h14 rfl
  rw [if_neg h14]
  by_cases h1 : kindOf p0 = 1
  · rw [if_pos (.inl h1), h1]
    exact guess_set 1 p0 _ s w hM hs rfl hp0 hpl hn h1 rfl
  by_cases h15 : kindOf p0 = 15
  · rw [if_pos (.inr h15), h15]
    exact guess_zero 15 p0 _ s w hM hs rfl hp0 hpl hn h15 rfl
  rw [if_neg (fun h => h.elim h1 h15)]
  by_cases h2 : kindOf p0 = 2
  · rw [if_pos h2, h2]
    exact guess_move 2 p0 _ s w hM hs rfl hp0 hpl hn h2 rfl
  rw [if_neg h2]
  by_cases h3 : 3 ≤ kindOf p0 ∧ kindOf p0 ≤ 10
  · rw [if_pos h3]
    exact guess_three _ p0 _ s w hM hs rfl hp0 hpl hn rfl h3
  rw [if_neg h3]
  by_cases h13 : kindOf p0 = 13
  · rw [if_pos h13, h13]
    exact guess_cas 13 p0 _ s w hM hs rfl hp0 hpl hn h13 rfl
  rw [if_neg h13]
  by_cases h0 : kindOf p0 = 0
  · rw [if_neg (fun h => h.1 h0), h0]
    exact guess_nop 0 p0 _ s w hM hs rfl hp0 hpl hn h0 rfl
  by_cases h21 : kindOf p0 = 21
  · rw [if_neg (fun h => h.2 h21), h21]
    exact guess_done 21 p0 _ s w hM hs rfl hp0 hpl hn h21 rfl
  rw [if_pos ⟨h0, h21⟩]
  exact guess_load _ p0 _ s w hM hs rfl hp0 hpl hn rfl ⟨by omega, by omega, h13, h14, h15, h16⟩

end Go.Proofs.YtfgmebjbibbpdaaGreatDoor

namespace Go.Proofs.YtfgmebjbibbpdaaGreatDoor
open Go.RowKit

theorem res_aread (tmps : Array Value) (w : World) {b : Nat} {e : Ins} {x : Bool} (ha : tmps[2]?.getD undef = .pointer (some ⟨b, 0, none⟩)) (hx : tmps[3]?.getD undef = .bool x) (hbox : InBox w b e) :
    (results Tryz.f44 tmps).run Tryz.prog w = .ok (.tuple #[insV e, .bool x]) w := by
  obtain ⟨h0, h1, h2, h3, h4⟩ := hbox.cells
  simp [results, ha, hx, h0, h1, h2, h3, h4, go_sem, insV]

theorem read_yes {l : List UInt8} (h1 : insB (guess l) = true) (h2 : lineL (guess l) = l) : readX l = guess l ∧ readOk l = true := by
  unfold readX readOk readI
  rw [if_pos ⟨h1, h2⟩]
  exact ⟨rfl, rfl⟩
theorem read_no {l : List UInt8} (h : ¬ (insB (guess l) = true ∧ lineL (guess l) = l)) : readX l = Ins.zero ∧ readOk l = false := by
  unfold readX readOk readI
  rw [if_neg h]
  exact ⟨rfl, rfl⟩

set_option maxRecDepth 100000 in
set_option maxHeartbeats 2000000 in
theorem aread_any (s : ByteArray) (w : World) (hs : s.size ≤ 1000000) (hT : Tab w) (hM : Mx w) :
    Calls Tryz.prog 44 #[.string s] w fun r W' => r = .returned (.tuple #[insV (readX s.data.toList), .bool (readOk s.data.toList)]) ∧ Below w.heap.size w W' := by
  obtain ⟨l, hl⟩ : ∃ l, s.data.toList = l := ⟨_, rfl⟩
  have hst : s.toList = l := by rw [ByteArray.toList_eq, hl]
  have hg := fun W hM => guess_any s W hM hs
  have hy := @read_yes l
  have hno := @read_no l
  have hgo := guess_ok l
  rw [hl] at hg ⊢
  obtain ⟨g, hge⟩ : ∃ g, guess l = g := ⟨_, rfl⟩
  rw [hge] at hg hy hno hgo
  have hln := fun W hT => line_any g hgo W hT
  have hr0 := InBox.new w Ins.zero
  have hr0' := Lib.hid hr0
  have hMz' := Lib.hid (hM.below ((Below.refl _ w).alloc (Nat.le_refl _) (.cells #[.int .i64 0, .int .i64 0, .int .i64 0, .int .i64 0, .int .u32 0] 73)))
  have hT' := Lib.hid hT
  have hg' := Lib.hid hg
  clear hg hge hl hM hT hr0
  have key : (insB g = true ∧ lineL g = l) ∨ ¬ (insB g = true ∧ lineL g = l) := Classical.em _
  rcases hb : insB g with _ | _
  · have hn := Lib.hid (hno (by rw [hb]; simp))
    rw [hb] at hln
    simp only [Bool.false_eq_true, if_false] at hln
    have hln' := Lib.hid hln
    clear hln hy hno key hb hgo hst
    obtain ⟨op, a, b, c, m⟩ := g
    unfold insV at hg' hln'
    simp only at hg' hln'
    go_enter Tryz.func44, Tryz.ntmps44
    go_wp2_with fail
    refine (hg'.out _ hMz'.out).mono ?_
    rintro e w1 ⟨rfl, hb1⟩
    have hr1 := hr0'.out.kept hb1
    have hlt1 := hr1.lt
    have hne1 : w.heap.size ≠ w1.heap.size := by omega
    have hB1 := ((Below.refl _ w).alloc (Nat.le_refl _) (.cells #[.int .i64 0, .int .i64 0, .int .i64 0, .int .i64 0, .int .u32 0] 73)).trans (hb1.mono (by simp))
    have hB1a := hB1.alloc hB1.size (.cells #[.int .i64 op, .int .i64 a, .int .i64 b, .int .i64 c, .int .u32 m] 73)
    have hTa := hT'.out.below hB1a
    clear hb1
    go_wp2_with fail
    refine (hln'.out _ hTa).mono ?_
    rintro e w2 ⟨rfl, hb2⟩
    have hr2 := (hr1.kept ((Below.refl _ w1).alloc (Nat.le_refl _) _)).kept hb2
    have hB2 := hB1a.trans (hb2.mono hB1a.size)
    obtain ⟨y0, y1, y2, y3, y4⟩ := hr2.cells
    have z0 := hr2.frozen 0
    have z1 := hr2.frozen 1
    have z2 := hr2.frozen 2
    have z3 := hr2.frozen 3
    have z4 := hr2.frozen 4
    go_wp2_with fail
    refine bodyPost_ret (res_aread _ _ rfl rfl (hr2.set5 Ins.zero)) rfl ?_
    exact ⟨by rw [hn.out.1, hn.out.2], below_set5 hB2 _ (Nat.le_refl _) _ _ _ _ _⟩
  · rw [hb] at hln
    simp only [if_true] at hln
    have hnew := fun W => InBox.new W g
    by_cases hq : lineL g = l
    · have hstr : ((lineS g).toList == s.toList) = true := by rw [hst, ByteArray.toList_eq]; simp [lineS, hq]
      have hn := Lib.hid (hy hb hq)
      obtain ⟨LS, hLS⟩ : ∃ x, lineS g = x := ⟨_, rfl⟩
      rw [hLS] at hln hstr
      have hln' := Lib.hid hln
      have hnew' := Lib.hid hnew
      clear hln hy hno key hb hgo hq hLS hnew hst
      obtain ⟨op, a, b, c, m⟩ := g
      unfold insV at hg' hln'
      simp only at hg' hln' hnew'
      go_enter Tryz.func44, Tryz.ntmps44
      go_wp2_with fail
      refine (hg'.out _ hMz'.out).mono ?_
      rintro e w1 ⟨rfl, hb1⟩
      have hr1 := hr0'.out.kept hb1
      have hlt1 := hr1.lt
      have hne1 : w.heap.size ≠ w1.heap.size := by omega
      have hB1 := ((Below.refl _ w).alloc (Nat.le_refl _) (.cells #[.int .i64 0, .int .i64 0, .int .i64 0, .int .i64 0, .int .u32 0] 73)).trans (hb1.mono (by simp))
      have hB1a := hB1.alloc hB1.size (.cells #[.int .i64 op, .int .i64 a, .int .i64 b, .int .i64 c, .int .u32 m] 73)
      have hTa := hT'.out.below hB1a
      clear hb1
      go_wp2_with fail
      refine (hln'.out _ hTa).mono ?_
      rintro e w2 ⟨rfl, hb2⟩
      have hr2 := (hr1.kept ((Below.refl _ w1).alloc (Nat.le_refl _) _)).kept hb2
      have hg2 := (hnew'.out w1).kept hb2
      have hB2 := hB1a.trans (hb2.mono hB1a.size)
      obtain ⟨y0, y1, y2, y3, y4⟩ := hr2.cells
      obtain ⟨x0, x1, x2, x3, x4⟩ := hg2.cells
      have z0 := hr2.frozen 0
      have z1 := hr2.frozen 1
      have z2 := hr2.frozen 2
      have z3 := hr2.frozen 3
      have z4 := hr2.frozen 4
      go_wp2_with fail
      refine bodyPost_ret (res_aread _ _ rfl rfl (hr2.set5 ⟨op, a, b, c, m⟩)) rfl ?_
      exact ⟨by rw [hn.out.1, hn.out.2], below_set5 hB2 _ (Nat.le_refl _) _ _ _ _ _⟩
    · have hstr : ((lineS g).toList == s.toList) = false := by
        rw [beq_eq_false_iff_ne, hst, ByteArray.toList_eq]
        simpa [lineS] using hq
      have hn := Lib.hid (hno (fun h => hq h.2))
      obtain ⟨LS, hLS⟩ : ∃ x, lineS g = x := ⟨_, rfl⟩
      rw [hLS] at hln hstr
      have hln' := Lib.hid hln
      clear hln hy hno key hb hgo hq hLS hnew hst
      obtain ⟨op, a, b, c, m⟩ := g
      unfold insV at hg' hln'
      simp only at hg' hln'
      go_enter Tryz.func44, Tryz.ntmps44
      go_wp2_with fail
      refine (hg'.out _ hMz'.out).mono ?_
      rintro e w1 ⟨rfl, hb1⟩
      have hr1 := hr0'.out.kept hb1
      have hlt1 := hr1.lt
      have hne1 : w.heap.size ≠ w1.heap.size := by omega
      have hB1 := ((Below.refl _ w).alloc (Nat.le_refl _) (.cells #[.int .i64 0, .int .i64 0, .int .i64 0, .int .i64 0, .int .u32 0] 73)).trans (hb1.mono (by simp))
      have hB1a := hB1.alloc hB1.size (.cells #[.int .i64 op, .int .i64 a, .int .i64 b, .int .i64 c, .int .u32 m] 73)
      have hTa := hT'.out.below hB1a
      clear hb1
      go_wp2_with fail
      refine (hln'.out _ hTa).mono ?_
      rintro e w2 ⟨rfl, hb2⟩
      have hr2 := (hr1.kept ((Below.refl _ w1).alloc (Nat.le_refl _) _)).kept hb2
      have hB2 := hB1a.trans (hb2.mono hB1a.size)
      obtain ⟨y0, y1, y2, y3, y4⟩ := hr2.cells
      have z0 := hr2.frozen 0
      have z1 := hr2.frozen 1
      have z2 := hr2.frozen 2
      have z3 := hr2.frozen 3
      have z4 := hr2.frozen 4
      go_wp2_with fail
      refine bodyPost_ret (res_aread _ _ rfl rfl (hr2.set5 Ins.zero)) rfl ?_
      exact ⟨by rw [hn.out.1, hn.out.2], below_set5 hB2 _ (Nat.le_refl _) _ _ _ _ _⟩

end Go.Proofs.YtfgmebjbibbpdaaGreatDoor

namespace Go.Proofs.YtfgmebjbibbpdaaGreatDoor
open Go.RowKit
attribute [local go_sem] Oper.semAt_some

theorem objL_bd0 {s : List UInt8} {o : Oj} (h : readOG s = some o) : objB o = true ∧ (0 ≤ o.st ∧ o.st < 4294967296) := by
  unfold readOG at h
  split at h
  · rename_i hc
    injection h with h
    subst h
    exact ⟨hc.2.2.2.1, hc.2.2.1⟩
  · cases h
theorem readOG_bd {s : List UInt8} {o : Oj} (h : readOG s = some o) : (0 ≤ o.st ∧ o.st < 4294967296) ∧ ∀ z ∈ o.kd :: o.wd :: o.sl :: o.cp :: o.wr :: o.rd, i64B z := by
  obtain ⟨h1, h2⟩ := objL_bd0 h
  obtain ⟨h3, h4, h5⟩ := objB_iff h1
  refine ⟨h2, fun z hz => ?_⟩
  unfold i64B
  have g := fun x hx => h4 x (show x ∈ o.five from hx)
  simp only [List.mem_cons] at hz
  rcases hz with rfl | rfl | rfl | rfl | rfl | hz
  · omega
  · have := h4 o.wd (by simp [Oj.five]); omega
  · have := h4 o.sl (by simp [Oj.five]); omega
  · have := h4 o.cp (by simp [Oj.five]); omega
  · have := h4 o.wr (by simp [Oj.five]); omega
  · have := h5 z hz; omega
def RdM (w : World) (lo rb : Nat) (r : Rd) : Prop := rb < lo ∧ lo ≤ w.heap.size ∧ ((r.op = false ∧ ∃ vt vo qs ps, RdC w lo rb vt vo qs ps r.sy) ∨ (r.op = true ∧ r.sy.os = [] ∧ ∃ N vt vo qs q ts t, r.sy.ts = ts ++ [t] ∧ RdO w lo rb N vt vo qs q ts t))
def ReadR (lo rb : Nat) (r : Rd) (l : List UInt8) (w : World) (e : Ending) (w' : World) : Prop := e = .returned (.bool (step r l).isSome) ∧ (∀ r', step r l = some r' → RdM w' lo rb r') ∧ FrR lo rb w w'
theorem AllP.nil_l {α β : Type} {R : α → β → Prop} {l : List α} (h : AllP R l []) : l = [] := List.eq_nil_of_length_eq_zero h.1
theorem row_cells {w : World} {lo k : Nat} {v : Value} {qs : List Tq} {q : Tq} (h : Own tqE tyT lo w v qs) (hk : qs[k]? = some q) : ∃ tb c, v = .slice (some ⟨tb, 0, none⟩) qs.length c ∧ v.ownBlock = some tb ∧ w.cell? ⟨tb, k * 7 + 6, none⟩ = some (.slice q.A q.n q.c) ∧ w.frozen? ⟨tb, k * 7 + 6, none⟩ = false ∧ (qs.length ≤ c ∧ c ≤ maxLen) := by
  rcases h.2 with ⟨rfl, h0⟩ | ⟨g, cap, cur, rfl, hg, hh, hcap, hmax, hsz, htk⟩
  · rw [List.eq_nil_of_length_eq_zero h0] at hk; simp at hk
  · refine ⟨g, cap, rfl, rfl, ?_, RowB.frozen (w := w) (n := g) hh _, hcap, hmax⟩
    have h2 := World.ownsRow.cells h (g := g) rfl (k * 7 + 6) (.slice q.A q.n q.c) ((tqE.all_get qs k q hk 6 (by show 6 < 7; omega)).trans rfl)
    rw [Addr.add_lit, Nat.zero_add] at h2
    exact h2
theorem row_cell7 {w : World} {lo tb m : Nat} {v : Value} {qs : List Tq} {q : Tq} (h : Own tqE tyT lo w v (qs ++ [q])) (hv : v.ownBlock = some tb) (hm : qs.length = m) : w.cell? ⟨tb, m * 7 + 6, none⟩ = some (.slice q.A q.n q.c) ∧ w.frozen? ⟨tb, m * 7 + 6, none⟩ = false := by
  obtain ⟨tb', c, _, h1, h2, h3, _⟩ := row_cells h (List.getElem?_concat_length (l := qs) (a := q))
  rw [h1] at hv
  have : tb' = tb := Option.some.inj hv
  subst this
  rw [hm] at h2 h3
  exact ⟨h2, h3⟩
set_option maxRecDepth 100000 in
set_option maxHeartbeats 1000000 in
theorem sread_end (lo rb : Nat) (s : ByteArray) (w : World) (_hs : s.size ≤ 19000) (hrb : rb < lo) (_hlo : lo ≤ w.heap.size) (_hT : Tab w) (_hM : Mx w) {N : Nat} {vt vo : Value} {qs : List Tq} {q : Tq} {ts : List Tk} {t : Tk} (h : RdO w lo rb N vt vo qs q ts t) (he : s.data.toList = endW3) :
    Calls Tryz.prog 24 #[.pointer (some ⟨rb, 0, none⟩), .string s] w fun e w' => e = .returned (.bool true) ∧ RdC w' lo rb vt vo (qs ++ [q]) [] ⟨ts ++ [t], []⟩ ∧ FrR lo rb w w' := by
  have c2 : w.cell? ⟨rb, 2, none⟩ = some (.bool true) := (h.hr.cell 2).trans rfl
  have f2 : w.frozen? ⟨rb, 2, none⟩ = false := h.hr.frozen 2
  have hst : (s.toList == (⟨#[101, 110, 100]⟩ : ByteArray).toList) = true := by rw [ByteArray.toList_eq, ByteArray.toList_eq, he]; rfl
  have hst2 : (s.toList == [101, 110, 100]) = true := by rw [ByteArray.toList_eq, he]; rfl
  have HC := Lib.hid h.close
  have HF := Lib.hid (FrR.set (lo := lo) (rb := rb) (w := w) 2 (.bool false) (Or.inl rfl) (Nat.le_of_lt hrb))
  clear h he
  go_enter Tryz.func24, Tryz.ntmps24
  go_wp2_with fail
  go_ret
  exact ⟨rfl, HC.out, HF.out⟩
set_option maxRecDepth 100000 in
set_option maxHeartbeats 4000000 in
theorem sread_head (lo rb : Nat) (s : ByteArray) (w : World) (hs : s.size ≤ 19000) (hrb : rb < lo) (hlo : lo ≤ w.heap.size) (hT : Tab w) (hM : Mx w) {vt vo : Value} {qs : List Tq} {ps : List Oq} {sy : Sy} {t : Tk} (h : RdC w lo rb vt vo qs ps sy) (hos : sy.os = []) (htg : readTG s.data.toList = some t) (hn : qs.length ≤ 100000) :
    Calls Tryz.prog 24 #[.pointer (some ⟨rb, 0, none⟩), .string s] w fun e w' => e = .returned (.bool true) ∧ (∃ N vt' q, RdO w' lo rb N vt' vo qs q sy.ts t) ∧ FrR lo rb w w' := by
  have hh := srhead_any s w (by omega) hT hM
  unfold RHeadR at hh
  rw [htg] at hh
  have HH := Lib.hid hh
  have HC := Lib.hid h
  have HTG := Lib.hid htg
  have c0 : w.cell? ⟨rb, 0, none⟩ = some vt := (h.hr.cell 0).trans rfl
  have c1 : w.cell? ⟨rb, 1, none⟩ = some vo := (h.hr.cell 1).trans rfl
  have c2 : w.cell? ⟨rb, 2, none⟩ = some (.bool false) := (h.hr.cell 2).trans rfl
  clear h hh htg hT hM
  go_enter Tryz.func24, Tryz.ntmps24
  go_wp2_with fail
  refine HH.out.mono ?_
  rintro e w2 ⟨kd, pr, pe, off, dl, ow, rfl, ht, hb2⟩
  have htt := ht _ rfl
  subst htt
  clear ht HH c0 c1 c2
  have hC2 := HC.out.below hb2
  obtain ⟨Ao, co, hvo⟩ := own_slice hC2.ho
  subst hvo
  have c0 : w2.cell? ⟨rb, 0, none⟩ = some vt := (hC2.hr.cell 0).trans rfl
  have c1 : w2.cell? ⟨rb, 1, none⟩ = some (.slice Ao ps.length co) := (hC2.hr.cell 1).trans rfl
  have hps : ps.length = 0 := by have := hC2.hos.1; rw [hos] at this; exact this
  have q0 : ((ps.length : Int) == 0) = true := by rw [hps]; rfl
  have q1 : (ps.length == 0) = true := by rw [hps]; rfl
  have HC2 := Lib.hid hC2
  have HB2 := Lib.hid hb2
  have HPS := Lib.hid hps
  have hr2 : rb < w2.heap.size := hC2.hr.lt
  clear hC2 hb2 hps
  unfold tkR
  go_wp2_with fail
  have HBD := Lib.hid (show ∀ z ∈ (⟨kd, pr, pe, off, dl, ow, []⟩ : Tk).kd :: (⟨kd, pr, pe, off, dl, ow, []⟩ : Tk).five, i64B z from fun z hz => by
    have h1 := (readTG_some HTG.out).1
    have h2 : kd = 1 ∨ kd = 2 := head_kd h1
    unfold headB1 at h1
    rw [Bool.and_eq_true] at h1
    rcases List.mem_cons.1 hz with e | hz
    · have e2 : z = kd := e; unfold i64B; omega
    · have := five_top h1.2 z hz; unfold i64B; omega)
  have HF2 := Lib.hid (FrR.below (lo := lo) (rb := rb) HB2.out hlo (Nat.le_of_lt hrb))
  have hbx := RowB.new w2 #[.int .i64 kd, .int .i64 pr, .int .i64 pe, .int .i64 off, .int .i64 dl, .int .i64 ow, .slice none 0 0] tyT
  have hb3 := (Below.refl w2.heap.size w2).alloc (Nat.le_refl _) (.cells #[.int .i64 kd, .int .i64 pr, .int .i64 pe, .int .i64 off, .int .i64 dl, .int .i64 ow, .slice none 0 0] tyT)
  have hC3 := HC2.out.below hb3
  have hF3 := HF2.out.trans (FrR.below (lo := lo) (rb := rb) hb3 (by have := HB2.out.size; omega) (Nat.le_of_lt hrb))
  have hs3 : lo ≤ (w2.alloc (.cells #[.int .i64 kd, .int .i64 pr, .int .i64 pe, .int .i64 off, .int .i64 dl, .int .i64 ow, .slice none 0 0] tyT)).heap.size := by rw [World.size_alloc]; have := HB2.out.size; omega
  obtain ⟨w3, hw3⟩ : ∃ x, w2.alloc (.cells #[.int .i64 kd, .int .i64 pr, .int .i64 pe, .int .i64 off, .int .i64 dl, .int .i64 ow, .slice none 0 0] tyT) = x := ⟨_, rfl⟩
  obtain ⟨bx, hbx0⟩ : ∃ x, w2.heap.size = x := ⟨_, rfl⟩
  rw [hw3, hbx0] at hbx
  rw [hw3] at hC3 hF3 hs3
  rw [hw3, hbx0]
  clear hb3 hw3 c0 c1
  refine wp_region_held_drew (S := (fun _ : World => True)) (by kernel_rfl) trivial (fun hHeld => ?_)
  skip
  have hdr := (Below.refl w3.heap.size w3).drew
  have hCz := hC3.below hdr
  have hbz := hbx.kept hdr
  have hFz := hF3.trans (FrR.below (lo := lo) (rb := rb) hdr hs3 (Nat.le_of_lt hrb))
  have hsz : lo ≤ w3.drew.heap.size := Nat.le_trans hs3 hdr.size
  generalize w3.drew = wz at hCz hbz hFz hsz ⊢
  clear hdr hC3 hF3 hs3 hbx
  have b0 := hbz.cell 0
  have b1 := hbz.cell 1
  have b2 := hbz.cell 2
  have b3 := hbz.cell 3
  have b4 := hbz.cell 4
  have b5 := hbz.cell 5
  have b6 := hbz.cell 6
  simp only [List.getElem?_toArray, List.getElem?_cons_zero, List.getElem?_cons_succ] at b0 b1 b2 b3 b4 b5 b6
  have HCz := Lib.hid hCz
  have HFz := Lib.hid hFz
  have cz : wz.cell? ⟨rb, 0, none⟩ = some vt := (hCz.hr.cell 0).trans rfl
  clear hCz hFz hbz
  refine tkH 0 ?_
  try first | simp only [pS, List.set] | simp only [pN]
  refine tkH 1 ?_
  try first | simp only [pS, List.set] | simp only [pN]
  refine tkH 2 ?_
  try first | simp only [pS, List.set] | simp only [pN]
  refine tkH 3 ?_
  try first | simp only [pS, List.set] | simp only [pN]
  refine tkH 4 ?_
  try first | simp only [pS, List.set] | simp only [pN]
  refine wpAnyH_ready (rs := [5, 6]) (by kernel_rfl) (by simp) ?_
  refine AllReadyH.cons (o := ?_) ?_ (fun K hK => ?_) ?_
  rotate_left
  · (simp only [List.getElem?_toArray, List.getElem?_cons_succ, List.getElem?_cons_zero]; rfl)
  · go_simp
    refine hK.out _ _ trivial (fun hHeld => ?_)
    clear hK K
    try first | simp only [pS, List.set] | simp only [pN]
    refine wpAnyH_ready (rs := [6]) (by kernel_rfl) (by simp) ?_
    refine AllReadyH.cons (o := ?_) ?_ (fun K hK => ?_) AllReadyH.nil
    rotate_left
    · (simp only [List.getElem?_toArray, List.getElem?_cons_succ, List.getElem?_cons_zero]; rfl)
    · go_simp
      refine hK.out _ _ trivial (fun hHeld => ?_)
      clear hK K
      try first | simp only [pS, List.set] | simp only [pN]
      refine wpAnyH_ready (rs := [7]) (by kernel_rfl) (by simp) ?_
      refine AllReadyH.cons (o := ?_) ?_ (fun K hK => ?_) AllReadyH.nil
      rotate_left
      · (simp only [List.getElem?_toArray, List.getElem?_cons_succ, List.getElem?_cons_zero]; rfl)
      · go_simp
        have cA : (wz.alloc (.cells #[.int .i64 kd, .int .i64 pr, .int .i64 pe, .int .i64 off, .int .i64 dl, .int .i64 ow, .slice none 0 0] tyT)).cell? ⟨rb, 0, none⟩ = some (vt) := (World.cell?_alloc_lt wz _ _ (cell_lt cz)).trans cz
        clear cz
        refine hK.out _ _ trivial (fun hHeld => ?_)
        clear hK K
        try first | simp only [pS, List.set] | simp only [pN]
        refine wpAnyH_ready (rs := [8]) (by kernel_rfl) (by simp) ?_
        refine AllReadyH.cons (o := ?_) ?_ (fun K hK => ?_) AllReadyH.nil
        rotate_left
        · (simp only [List.getElem?_toArray, List.getElem?_cons_succ, List.getElem?_cons_zero]; rfl)
        · refine step_app2 (by rfl) (.tmp 76) (.tmp 78) 22 (by rfl) tkTy lo (HCz.out.ht.alloc _) (by rfl) (cells_new' wz [.int .i64 kd, .int .i64 pr, .int .i64 pe, .int .i64 off, .int .i64 dl, .int .i64 ow, .slice none 0 0] _ _ rfl) (by rfl) (by rfl) (by simp [Value.oneCell']) (by unfold maxLen; omega) (by omega) (by rw [World.size_alloc]; omega) ?_
          intro v' w9 hown9 hb9 hblk9 _
          obtain ⟨M, A', c', rfl⟩ : ∃ M A' c', v' = .slice A' M c' := (by obtain ⟨A', c', h⟩ := own_slice hown9; exact ⟨_, A', c', h⟩)
          have hbA := (Below.refl wz.heap.size wz).alloc (Nat.le_refl _) (.cells #[.int .i64 kd, .int .i64 pr, .int .i64 pe, .int .i64 off, .int .i64 dl, .int .i64 ow, .slice none 0 0] tyT)
          have hblk : ∀ k, k < wz.heap.size → some k ≠ vt.ownBlock → w9.heap[k]? = wz.heap[k]? := fun k h1 h2 => (hblk9 k (by rw [World.size_alloc]; omega) h2).trans (hbA.block k h1)
          have hsz9 : wz.heap.size ≤ w9.heap.size := Nat.le_trans hbA.size hb9.size
          have hr9 : RowB w9 rb #[vt, .slice Ao ps.length co, .bool false] tyR := (hb9.block rb hrb).trans ((hbA.block rb (by omega)).trans HCz.out.hr)
          have c9 : w9.cell? ⟨rb, 0, none⟩ = some vt := (hr9.cell 0).trans rfl
          have f9 := hr9.frozen 0
          have HTK := Lib.hid (RdC.task (t := ⟨kd, pr, pe, off, dl, ow, []⟩) HCz.out hrb hsz hos rfl HBD.out (Own.app hown9 rfl) hblk hsz9)
          have HFT := Lib.hid (((HFz.out.trans (FrR.below (lo := lo) (rb := rb) hbA hsz (Nat.le_of_lt hrb))).trans (FrR.app (HCz.out.ht.alloc (.cells #[.int .i64 kd, .int .i64 pr, .int .i64 pe, .int .i64 off, .int .i64 dl, .int .i64 ow, .slice none 0 0] tyT)) hb9 hblk9 (Nat.le_refl _) (Nat.le_of_lt hrb))).trans ((FrR.set 0 (.slice A' M c') (Or.inl rfl) (Nat.le_of_lt hrb)).trans (FrR.set 2 (.bool true) (Or.inl rfl) (Nat.le_of_lt hrb))))
          have HR9 := Lib.hid hr9
          clear hbA hblk hsz9 hr9 hown9 hb9 hblk9
          refine hK.out _ _ trivial (fun hHeld => ?_)
          clear hK K
          try first | simp only [pS, List.set] | simp only [pN]
          refine tkH 9 ?_
          try first | simp only [pS, List.set] | simp only [pN]
          refine tkH 10 ?_
          try first | simp only [pS, List.set] | simp only [pN]
          refine tkH 11 ?_
          try first | simp only [pS, List.set] | simp only [pN]
          refine wpAnyH_ready (rs := [12]) (by kernel_rfl) (by simp) ?_
          refine AllReadyH.cons (o := ?_) ?_ (fun K hK => ?_) AllReadyH.nil
          rotate_left
          · (simp only [List.getElem?_toArray, List.getElem?_cons_succ, List.getElem?_cons_zero]; rfl)
          · go_simp
            refine hK.out _ _ trivial (fun hHeld => ?_)
            clear hK K
            try first | simp only [pS, List.set] | simp only [pN]
            refine wpAnyH_done (by kernel_rfl) ?_ _
            have hr10 := HR9.out.set 0 (.slice A' M c')
            have d2 : (w9.setCell ⟨rb, 0, none⟩ (.slice A' M c')).cell? ⟨rb, 2, none⟩ = some (.bool false) := (hr10.cell 2).trans rfl
            have g2 := hr10.frozen 2
            obtain ⟨w10, hw10⟩ : ∃ x, w9.setCell ⟨rb, 0, none⟩ (.slice A' M c') = x := ⟨_, rfl⟩
            rw [hw10] at d2 g2 HTK HFT ⊢
            clear hr10 HR9 hw10 c9 f9
            go_wp2_with fail
            go_ret
            exact ⟨rfl, ⟨_, _, _, HTK.out⟩, HFT.out⟩
  · refine AllReadyH.cons (o := ?_) ?_ (fun K hK => ?_) AllReadyH.nil
    rotate_left
    · (simp only [List.getElem?_toArray, List.getElem?_cons_succ, List.getElem?_cons_zero]; rfl)
    · go_simp
      refine hK.out _ _ trivial (fun hHeld => ?_)
      clear hK K
      try first | simp only [pS, List.set] | simp only [pN]
      refine wpAnyH_ready (rs := [5, 7]) (by kernel_rfl) (by simp) ?_
      refine AllReadyH.cons (o := ?_) ?_ (fun K hK => ?_) ?_
      rotate_left
      · (simp only [List.getElem?_toArray, List.getElem?_cons_succ, List.getElem?_cons_zero]; rfl)
      · go_simp
        refine hK.out _ _ trivial (fun hHeld => ?_)
        clear hK K
        try first | simp only [pS, List.set] | simp only [pN]
        refine wpAnyH_ready (rs := [7]) (by kernel_rfl) (by simp) ?_
        refine AllReadyH.cons (o := ?_) ?_ (fun K hK => ?_) AllReadyH.nil
        rotate_left
        · (simp only [List.getElem?_toArray, List.getElem?_cons_succ, List.getElem?_cons_zero]; rfl)
        · go_simp
          have cA : (wz.alloc (.cells #[.int .i64 kd, .int .i64 pr, .int .i64 pe, .int .i64 off, .int .i64 dl, .int .i64 ow, .slice none 0 0] tyT)).cell? ⟨rb, 0, none⟩ = some (vt) := (World.cell?_alloc_lt wz _ _ (cell_lt cz)).trans cz
          clear cz
          refine hK.out _ _ trivial (fun hHeld => ?_)
          clear hK K
          try first | simp only [pS, List.set] | simp only [pN]
          refine wpAnyH_ready (rs := [8]) (by kernel_rfl) (by simp) ?_
          refine AllReadyH.cons (o := ?_) ?_ (fun K hK => ?_) AllReadyH.nil
          rotate_left
          · (simp only [List.getElem?_toArray, List.getElem?_cons_succ, List.getElem?_cons_zero]; rfl)
          · refine step_app2 (by rfl) (.tmp 76) (.tmp 78) 22 (by rfl) tkTy lo (HCz.out.ht.alloc _) (by rfl) (cells_new' wz [.int .i64 kd, .int .i64 pr, .int .i64 pe, .int .i64 off, .int .i64 dl, .int .i64 ow, .slice none 0 0] _ _ rfl) (by rfl) (by rfl) (by simp [Value.oneCell']) (by unfold maxLen; omega) (by omega) (by rw [World.size_alloc]; omega) ?_
            intro v' w9 hown9 hb9 hblk9 _
            obtain ⟨M, A', c', rfl⟩ : ∃ M A' c', v' = .slice A' M c' := (by obtain ⟨A', c', h⟩ := own_slice hown9; exact ⟨_, A', c', h⟩)
            have hbA := (Below.refl wz.heap.size wz).alloc (Nat.le_refl _) (.cells #[.int .i64 kd, .int .i64 pr, .int .i64 pe, .int .i64 off, .int .i64 dl, .int .i64 ow, .slice none 0 0] tyT)
            have hblk : ∀ k, k < wz.heap.size → some k ≠ vt.ownBlock → w9.heap[k]? = wz.heap[k]? := fun k h1 h2 => (hblk9 k (by rw [World.size_alloc]; omega) h2).trans (hbA.block k h1)
            have hsz9 : wz.heap.size ≤ w9.heap.size := Nat.le_trans hbA.size hb9.size
            have hr9 : RowB w9 rb #[vt, .slice Ao ps.length co, .bool false] tyR := (hb9.block rb hrb).trans ((hbA.block rb (by omega)).trans HCz.out.hr)
            have c9 : w9.cell? ⟨rb, 0, none⟩ = some vt := (hr9.cell 0).trans rfl
            have f9 := hr9.frozen 0
            have HTK := Lib.hid (RdC.task (t := ⟨kd, pr, pe, off, dl, ow, []⟩) HCz.out hrb hsz hos rfl HBD.out (Own.app hown9 rfl) hblk hsz9)
            have HFT := Lib.hid (((HFz.out.trans (FrR.below (lo := lo) (rb := rb) hbA hsz (Nat.le_of_lt hrb))).trans (FrR.app (HCz.out.ht.alloc (.cells #[.int .i64 kd, .int .i64 pr, .int .i64 pe, .int .i64 off, .int .i64 dl, .int .i64 ow, .slice none 0 0] tyT)) hb9 hblk9 (Nat.le_refl _) (Nat.le_of_lt hrb))).trans ((FrR.set 0 (.slice A' M c') (Or.inl rfl) (Nat.le_of_lt hrb)).trans (FrR.set 2 (.bool true) (Or.inl rfl) (Nat.le_of_lt hrb))))
            have HR9 := Lib.hid hr9
            clear hbA hblk hsz9 hr9 hown9 hb9 hblk9
            refine hK.out _ _ trivial (fun hHeld => ?_)
            clear hK K
            try first | simp only [pS, List.set] | simp only [pN]
            refine tkH 9 ?_
            try first | simp only [pS, List.set] | simp only [pN]
            refine tkH 10 ?_
            try first | simp only [pS, List.set] | simp only [pN]
            refine tkH 11 ?_
            try first | simp only [pS, List.set] | simp only [pN]
            refine wpAnyH_ready (rs := [12]) (by kernel_rfl) (by simp) ?_
            refine AllReadyH.cons (o := ?_) ?_ (fun K hK => ?_) AllReadyH.nil
            rotate_left
            · (simp only [List.getElem?_toArray, List.getElem?_cons_succ, List.getElem?_cons_zero]; rfl)
            · go_simp
              refine hK.out _ _ trivial (fun hHeld => ?_)
              clear hK K
              try first | simp only [pS, List.set] | simp only [pN]
              refine wpAnyH_done (by kernel_rfl) ?_ _
              have hr10 := HR9.out.set 0 (.slice A' M c')
              have d2 : (w9.setCell ⟨rb, 0, none⟩ (.slice A' M c')).cell? ⟨rb, 2, none⟩ = some (.bool false) := (hr10.cell 2).trans rfl
              have g2 := hr10.frozen 2
              obtain ⟨w10, hw10⟩ : ∃ x, w9.setCell ⟨rb, 0, none⟩ (.slice A' M c') = x := ⟨_, rfl⟩
              rw [hw10] at d2 g2 HTK HFT ⊢
              clear hr10 HR9 hw10 c9 f9
              go_wp2_with fail
              go_ret
              exact ⟨rfl, ⟨_, _, _, HTK.out⟩, HFT.out⟩
      · refine AllReadyH.cons (o := ?_) ?_ (fun K hK => ?_) AllReadyH.nil
        rotate_left
        · (simp only [List.getElem?_toArray, List.getElem?_cons_succ, List.getElem?_cons_zero]; rfl)
        · go_simp
          have cA : (wz.alloc (.cells #[.int .i64 kd, .int .i64 pr, .int .i64 pe, .int .i64 off, .int .i64 dl, .int .i64 ow, .slice none 0 0] tyT)).cell? ⟨rb, 0, none⟩ = some (vt) := (World.cell?_alloc_lt wz _ _ (cell_lt cz)).trans cz
          clear cz
          refine hK.out _ _ trivial (fun hHeld => ?_)
          clear hK K
          try first | simp only [pS, List.set] | simp only [pN]
          refine wpAnyH_ready (rs := [5]) (by kernel_rfl) (by simp) ?_
          refine AllReadyH.cons (o := ?_) ?_ (fun K hK => ?_) AllReadyH.nil
          rotate_left
          · (simp only [List.getElem?_toArray, List.getElem?_cons_succ, List.getElem?_cons_zero]; rfl)
          · go_simp
            refine hK.out _ _ trivial (fun hHeld => ?_)
            clear hK K
            try first | simp only [pS, List.set] | simp only [pN]
            refine wpAnyH_ready (rs := [8]) (by kernel_rfl) (by simp) ?_
            refine AllReadyH.cons (o := ?_) ?_ (fun K hK => ?_) AllReadyH.nil
            rotate_left
            · (simp only [List.getElem?_toArray, List.getElem?_cons_succ, List.getElem?_cons_zero]; rfl)
            · refine step_app2 (by rfl) (.tmp 76) (.tmp 78) 22 (by rfl) tkTy lo (HCz.out.ht.alloc _) (by rfl) (cells_new' wz [.int .i64 kd, .int .i64 pr, .int .i64 pe, .int .i64 off, .int .i64 dl, .int .i64 ow, .slice none 0 0] _ _ rfl) (by rfl) (by rfl) (by simp [Value.oneCell']) (by unfold maxLen; omega) (by omega) (by rw [World.size_alloc]; omega) ?_
              intro v' w9 hown9 hb9 hblk9 _
              obtain ⟨M, A', c', rfl⟩ : ∃ M A' c', v' = .slice A' M c' := (by obtain ⟨A', c', h⟩ := own_slice hown9; exact ⟨_, A', c', h⟩)
              have hbA := (Below.refl wz.heap.size wz).alloc (Nat.le_refl _) (.cells #[.int .i64 kd, .int .i64 pr, .int .i64 pe, .int .i64 off, .int .i64 dl, .int .i64 ow, .slice none 0 0] tyT)
              have hblk : ∀ k, k < wz.heap.size → some k ≠ vt.ownBlock → w9.heap[k]? = wz.heap[k]? := fun k h1 h2 => (hblk9 k (by rw [World.size_alloc]; omega) h2).trans (hbA.block k h1)
              have hsz9 : wz.heap.size ≤ w9.heap.size := Nat.le_trans hbA.size hb9.size
              have hr9 : RowB w9 rb #[vt, .slice Ao ps.length co, .bool false] tyR := (hb9.block rb hrb).trans ((hbA.block rb (by omega)).trans HCz.out.hr)
              have c9 : w9.cell? ⟨rb, 0, none⟩ = some vt := (hr9.cell 0).trans rfl
              have f9 := hr9.frozen 0
              have HTK := Lib.hid (RdC.task (t := ⟨kd, pr, pe, off, dl, ow, []⟩) HCz.out hrb hsz hos rfl HBD.out (Own.app hown9 rfl) hblk hsz9)
              have HFT := Lib.hid (((HFz.out.trans (FrR.below (lo := lo) (rb := rb) hbA hsz (Nat.le_of_lt hrb))).trans (FrR.app (HCz.out.ht.alloc (.cells #[.int .i64 kd, .int .i64 pr, .int .i64 pe, .int .i64 off, .int .i64 dl, .int .i64 ow, .slice none 0 0] tyT)) hb9 hblk9 (Nat.le_refl _) (Nat.le_of_lt hrb))).trans ((FrR.set 0 (.slice A' M c') (Or.inl rfl) (Nat.le_of_lt hrb)).trans (FrR.set 2 (.bool true) (Or.inl rfl) (Nat.le_of_lt hrb))))
              have HR9 := Lib.hid hr9
              clear hbA hblk hsz9 hr9 hown9 hb9 hblk9
              refine hK.out _ _ trivial (fun hHeld => ?_)
              clear hK K
              try first | simp only [pS, List.set] | simp only [pN]
              refine tkH 9 ?_
              try first | simp only [pS, List.set] | simp only [pN]
              refine tkH 10 ?_
              try first | simp only [pS, List.set] | simp only [pN]
              refine tkH 11 ?_
              try first | simp only [pS, List.set] | simp only [pN]
              refine wpAnyH_ready (rs := [12]) (by kernel_rfl) (by simp) ?_
              refine AllReadyH.cons (o := ?_) ?_ (fun K hK => ?_) AllReadyH.nil
              rotate_left
              · (simp only [List.getElem?_toArray, List.getElem?_cons_succ, List.getElem?_cons_zero]; rfl)
              · go_simp
                refine hK.out _ _ trivial (fun hHeld => ?_)
                clear hK K
                try first | simp only [pS, List.set] | simp only [pN]
                refine wpAnyH_done (by kernel_rfl) ?_ _
                have hr10 := HR9.out.set 0 (.slice A' M c')
                have d2 : (w9.setCell ⟨rb, 0, none⟩ (.slice A' M c')).cell? ⟨rb, 2, none⟩ = some (.bool false) := (hr10.cell 2).trans rfl
                have g2 := hr10.frozen 2
                obtain ⟨w10, hw10⟩ : ∃ x, w9.setCell ⟨rb, 0, none⟩ (.slice A' M c') = x := ⟨_, rfl⟩
                rw [hw10] at d2 g2 HTK HFT ⊢
                clear hr10 HR9 hw10 c9 f9
                go_wp2_with fail
                go_ret
                exact ⟨rfl, ⟨_, _, _, HTK.out⟩, HFT.out⟩
set_option maxRecDepth 100000 in
set_option maxHeartbeats 4000000 in
theorem sread_obj (lo rb : Nat) (s : ByteArray) (w : World) (hs : s.size ≤ 19000) (hrb : rb < lo) (hlo : lo ≤ w.heap.size) (hT : Tab w) (hM : Mx w) {vt vo : Value} {qs : List Tq} {ps : List Oq} {sy : Sy} (h : RdC w lo rb vt vo qs ps sy) (hno : (readTG s.data.toList).isSome = true → sy.os ≠ []) (hn : ps.length ≤ 100000) :
    Calls Tryz.prog 24 #[.pointer (some ⟨rb, 0, none⟩), .string s] w fun e w' => e = .returned (.bool (readOG s.data.toList).isSome) ∧ (∀ o, readOG s.data.toList = some o → ∃ vo' ps', RdC w' lo rb vt vo' qs ps' ⟨sy.ts, sy.os ++ [o]⟩) ∧ FrR lo rb w w' := by
  have hh := srhead_any s w (by omega) hT hM
  unfold RHeadR at hh
  have HH := Lib.hid hh
  have HC := Lib.hid h
  have HNO := Lib.hid hno
  have HO := Lib.hid (show ∀ W, Below w.heap.size w W → Calls Tryz.prog 46 #[.string s] W (RObjR s.data.toList W) from fun W hW => srobj_any s W hs (hT.below hW) (hM.below hW))
  have c0 : w.cell? ⟨rb, 0, none⟩ = some vt := (h.hr.cell 0).trans rfl
  have c1 : w.cell? ⟨rb, 1, none⟩ = some vo := (h.hr.cell 1).trans rfl
  have c2 : w.cell? ⟨rb, 2, none⟩ = some (.bool false) := (h.hr.cell 2).trans rfl
  clear h hh hno hT hM
  go_enter Tryz.func24, Tryz.ntmps24
  go_wp2_with fail
  refine HH.out.mono ?_
  rintro e w1 ⟨kd1, pr1, pe1, off1, dl1, ow1, rfl, ht, hb1⟩
  clear ht HH c0 c1 c2
  have hC1 := HC.out.below hb1
  obtain ⟨Ao, co, hvo⟩ := own_slice hC1.ho
  subst hvo
  have c0 : w1.cell? ⟨rb, 0, none⟩ = some vt := (hC1.hr.cell 0).trans rfl
  have c1 : w1.cell? ⟨rb, 1, none⟩ = some (.slice Ao ps.length co) := (hC1.hr.cell 1).trans rfl
  have HF1 := Lib.hid (FrR.below (lo := lo) (rb := rb) hb1 hlo (Nat.le_of_lt hrb))
  have hr1 : rb < w1.heap.size := hC1.hr.lt
  have hbA := (Below.refl w1.heap.size w1).alloc (Nat.le_refl _) (.cells #[.int .i64 kd1, .int .i64 pr1, .int .i64 pe1, .int .i64 off1, .int .i64 dl1, .int .i64 ow1, .slice none 0 0] tyT)
  have hpsl := hC1.hos.1
  have HBA := Lib.hid hbA
  have HB1 := Lib.hid hb1
  have HC1 := Lib.hid hC1
  unfold tkR
  have fin1 : ∀ w3, w1.alloc (.cells #[.int .i64 kd1, .int .i64 pr1, .int .i64 pe1, .int .i64 off1, .int .i64 dl1, .int .i64 ow1, .slice none 0 0] tyT) = w3 → Calls Tryz.prog 46 #[.string s] w3 (RObjR s.data.toList w3) ∧ FrR lo rb w w3 ∧ RdC w3 lo rb vt (.slice Ao ps.length co) qs ps sy ∧ lo ≤ w3.heap.size := fun w3 e => by
    rw [e] at hbA
    have hlw1 : lo ≤ w1.heap.size := Nat.le_trans hlo hb1.size
    exact ⟨HO.out _ (hb1.trans (hbA.mono hb1.size)), HF1.out.trans (FrR.below hbA hlw1 (Nat.le_of_lt hrb)), hC1.below hbA, Nat.le_trans hlw1 hbA.size⟩
  have FIN1 := Lib.hid fin1
  clear fin1 hbA hb1 hC1 HC HO
  rcases hok : (readTG s.data.toList).isSome with _ | _
  · clear hok hpsl
    go_wp2_with fail
    obtain ⟨w3, hw3⟩ : ∃ x, w1.alloc (.cells #[.int .i64 kd1, .int .i64 pr1, .int .i64 pe1, .int .i64 off1, .int .i64 dl1, .int .i64 ow1, .slice none 0 0] 46) = x := ⟨_, rfl⟩
    obtain ⟨hcall, hF3, hC3, hl3⟩ := FIN1.out w3 hw3
    rw [hw3]
    clear hw3 c0 c1
    unfold RObjR at hcall
    refine hcall.mono ?_
    rintro e w2 ⟨kd, wd, sl, cp, st, I, ni, ci, wr, R, nr, cr, rfl, hgot, hb2⟩
    have hC2 := hC3.below hb2
    have HF2 := Lib.hid (hF3.trans (FrR.below (lo := lo) (rb := rb) hb2 hl3 (Nat.le_of_lt hrb)))
    have hl2 : lo ≤ w2.heap.size := Nat.le_trans hl3 hb2.size
    have HGOT := Lib.hid hgot
    have c0 : w2.cell? ⟨rb, 0, none⟩ = some vt := (hC2.hr.cell 0).trans rfl
    have c1 : w2.cell? ⟨rb, 1, none⟩ = some (.slice Ao ps.length co) := (hC2.hr.cell 1).trans rfl
    have hr2 : rb < w2.heap.size := hC2.hr.lt
    have HC2 := Lib.hid hC2
    clear hC2 hC3 hF3 hb2 hcall hgot FIN1 HNO
    unfold ojR
    go_wp2_with fail
    have hbx := RowB.new w2 #[.int .i64 kd, .int .i64 wd, .int .i64 sl, .int .i64 cp, .int .u32 st, .slice I ni ci, .int .i64 wr, .slice R nr cr] tyO
    have hb3 := (Below.refl w2.heap.size w2).alloc (Nat.le_refl _) (.cells #[.int .i64 kd, .int .i64 wd, .int .i64 sl, .int .i64 cp, .int .u32 st, .slice I ni ci, .int .i64 wr, .slice R nr cr] tyO)
    have HB3 := hb3
    have hC3 := HC2.out.below hb3
    have hF3 := HF2.out.trans (FrR.below (lo := lo) (rb := rb) hb3 (by omega) (Nat.le_of_lt hrb))
    have hs3 : lo ≤ (w2.alloc (.cells #[.int .i64 kd, .int .i64 wd, .int .i64 sl, .int .i64 cp, .int .u32 st, .slice I ni ci, .int .i64 wr, .slice R nr cr] tyO)).heap.size := by rw [World.size_alloc]; omega
    obtain ⟨w3, hw3⟩ : ∃ x, w2.alloc (.cells #[.int .i64 kd, .int .i64 wd, .int .i64 sl, .int .i64 cp, .int .u32 st, .slice I ni ci, .int .i64 wr, .slice R nr cr] tyO) = x := ⟨_, rfl⟩
    obtain ⟨bx, hbx0⟩ : ∃ x, w2.heap.size = x := ⟨_, rfl⟩
    rw [hw3, hbx0] at hbx
    rw [hw3] at hC3 hF3 hs3 HB3
    rw [hw3, hbx0]
    clear hb3 hw3 c0 c1
    refine wp_region_held_drew (S := (fun _ : World => True)) (by kernel_rfl) trivial (fun hHeld => ?_)
    skip
    have hdr := (Below.refl w3.heap.size w3).drew
    have hCz := hC3.below hdr
    have hbz := hbx.kept hdr
    have hFz := hF3.trans (FrR.below (lo := lo) (rb := rb) hdr hs3 (Nat.le_of_lt hrb))
    have hsz : lo ≤ w3.drew.heap.size := Nat.le_trans hs3 hdr.size
    have hBz := HB3.trans (hdr.mono HB3.size)
    generalize w3.drew = wz at hCz hbz hFz hsz hBz ⊢
    clear hdr hC3 hF3 hs3 hbx
    have b0 := hbz.cell 0
    have b1 := hbz.cell 1
    have b2 := hbz.cell 2
    have b3 := hbz.cell 3
    have b4 := hbz.cell 4
    have b5 := hbz.cell 5
    have b6 := hbz.cell 6
    have b7 := hbz.cell 7
    simp only [List.getElem?_toArray, List.getElem?_cons_zero, List.getElem?_cons_succ] at b0 b1 b2 b3 b4 b5 b6 b7
    have HCz := Lib.hid hCz
    have HFz := Lib.hid hFz
    have cz : wz.cell? ⟨rb, 1, none⟩ = some (.slice Ao ps.length co) := (hCz.hr.cell 1).trans rfl
    clear hCz hFz hbz
    have HBz := Lib.hid hBz
    clear hBz HB3
    refine tkH 0 ?_
    try first | simp only [pS, List.set] | simp only [pN]
    refine tkH 1 ?_
    try first | simp only [pS, List.set] | simp only [pN]
    refine tkH 2 ?_
    try first | simp only [pS, List.set] | simp only [pN]
    refine tkH 3 ?_
    try first | simp only [pS, List.set] | simp only [pN]
    refine tkH 4 ?_
    try first | simp only [pS, List.set] | simp only [pN]
    refine wpAnyH_ready (rs := [5, 6]) (by kernel_rfl) (by simp) ?_
    refine AllReadyH.cons (o := ?_) ?_ (fun K hK => ?_) ?_
    rotate_left
    · (simp only [List.getElem?_toArray, List.getElem?_cons_succ, List.getElem?_cons_zero]; rfl)
    · go_simp
      refine hK.out _ _ trivial (fun hHeld => ?_)
      clear hK K
      try first | simp only [pS, List.set] | simp only [pN]
      refine wpAnyH_ready (rs := [6]) (by kernel_rfl) (by simp) ?_
      refine AllReadyH.cons (o := ?_) ?_ (fun K hK => ?_) AllReadyH.nil
      rotate_left
      · (simp only [List.getElem?_toArray, List.getElem?_cons_succ, List.getElem?_cons_zero]; rfl)
      · go_simp
        refine hK.out _ _ trivial (fun hHeld => ?_)
        clear hK K
        try first | simp only [pS, List.set] | simp only [pN]
        refine wpAnyH_ready (rs := [7]) (by kernel_rfl) (by simp) ?_
        refine AllReadyH.cons (o := ?_) ?_ (fun K hK => ?_) AllReadyH.nil
        rotate_left
        · (simp only [List.getElem?_toArray, List.getElem?_cons_succ, List.getElem?_cons_zero]; rfl)
        · go_simp
          have cA : (wz.alloc (.cells #[.int .i64 kd, .int .i64 wd, .int .i64 sl, .int .i64 cp, .int .u32 st, .slice I ni ci, .int .i64 wr, .slice R nr cr] tyO)).cell? ⟨rb, 1, none⟩ = some (.slice Ao ps.length co) := (World.cell?_alloc_lt wz _ _ (cell_lt cz)).trans cz
          clear cz
          refine hK.out _ _ trivial (fun hHeld => ?_)
          clear hK K
          try first | simp only [pS, List.set] | simp only [pN]
          refine wpAnyH_ready (rs := [8]) (by kernel_rfl) (by simp) ?_
          refine AllReadyH.cons (o := ?_) ?_ (fun K hK => ?_) AllReadyH.nil
          rotate_left
          · (simp only [List.getElem?_toArray, List.getElem?_cons_succ, List.getElem?_cons_zero]; rfl)
          · refine step_app2 (by rfl) (.tmp 96) (.tmp 98) 23 (by rfl) ojTy lo (HCz.out.ho.alloc _) (by rfl) (cells_new' wz [.int .i64 kd, .int .i64 wd, .int .i64 sl, .int .i64 cp, .int .u32 st, .slice I ni ci, .int .i64 wr, .slice R nr cr] _ _ rfl) (by rfl) (by rfl) (by simp [Value.oneCell']) (by unfold maxLen; omega) (by omega) (by rw [World.size_alloc]; omega) ?_
            intro v' w9 hown9 hb9 hblk9 _
            obtain ⟨M, A', c', rfl⟩ : ∃ M A' c', v' = .slice A' M c' := (by obtain ⟨A', c', h⟩ := own_slice hown9; exact ⟨_, A', c', h⟩)
            have hbA := (Below.refl wz.heap.size wz).alloc (Nat.le_refl _) (.cells #[.int .i64 kd, .int .i64 wd, .int .i64 sl, .int .i64 cp, .int .u32 st, .slice I ni ci, .int .i64 wr, .slice R nr cr] tyO)
            have hblk : ∀ k, k < wz.heap.size → some k ≠ (Value.slice Ao ps.length co).ownBlock → w9.heap[k]? = wz.heap[k]? := fun k h1 h2 => (hblk9 k (by rw [World.size_alloc]; omega) h2).trans (hbA.block k h1)
            have hsz9 : wz.heap.size ≤ w9.heap.size := Nat.le_trans hbA.size hb9.size
            have hr9 : RowB w9 rb #[vt, .slice Ao ps.length co, .bool false] tyR := (hb9.block rb hrb).trans ((hbA.block rb (by omega)).trans HCz.out.hr)
            have c9 : w9.cell? ⟨rb, 1, none⟩ = some (.slice Ao ps.length co) := (hr9.cell 1).trans rfl
            have f9 := hr9.frozen 1
            have HTK := Lib.hid (show ∀ o, readOG s.data.toList = some o → ∃ vo' ps', RdC (w9.setCell ⟨rb, 1, none⟩ (.slice A' M c')) lo rb vt vo' qs ps' ⟨sy.ts, sy.os ++ [o]⟩ from fun o ho => by
              obtain ⟨e1, e2, e3, e4, e5, e6, e7, e8, hI, hR⟩ := HGOT.out o ho
              have hbb := readOG_bd ho
              have hqz : OqOk wz lo wz.heap.size ⟨kd, wd, sl, cp, st, I, ni, ci, wr, R, nr, cr⟩ o := ⟨⟨e1.symm, e2.symm, e3.symm, e4.symm, e5.symm, e6.symm⟩, e7.symm, hI.1.bd.2, (hI.1.slT hl3).keep (KeepT.below HBz.out _) HBz.out.size, hI.2, e8.symm, hR.bd.2, (hR.slT hl3).keep (KeepT.below HBz.out _) HBz.out.size, hbb.1, hbb.2⟩
              exact ⟨_, _, RdC.obj HCz.out hrb hsz hqz (Own.app hown9 rfl) hblk hsz9⟩)
            have HFT := Lib.hid (((HFz.out.trans (FrR.below (lo := lo) (rb := rb) hbA hsz (Nat.le_of_lt hrb))).trans (FrR.app (HCz.out.ho.alloc (.cells #[.int .i64 kd, .int .i64 wd, .int .i64 sl, .int .i64 cp, .int .u32 st, .slice I ni ci, .int .i64 wr, .slice R nr cr] tyO)) hb9 hblk9 (Nat.le_refl _) (Nat.le_of_lt hrb))).trans (FrR.set 1 (.slice A' M c') (Or.inl rfl) (Nat.le_of_lt hrb)))
            clear hbA hblk hsz9 hr9 hown9 hb9 hblk9
            refine hK.out _ _ trivial (fun hHeld => ?_)
            clear hK K
            try first | simp only [pS, List.set] | simp only [pN]
            refine tkH 9 ?_
            try first | simp only [pS, List.set] | simp only [pN]
            refine tkH 10 ?_
            try first | simp only [pS, List.set] | simp only [pN]
            refine tkH 11 ?_
            try first | simp only [pS, List.set] | simp only [pN]
            refine wpAnyH_ready (rs := [12]) (by kernel_rfl) (by simp) ?_
            refine AllReadyH.cons (o := ?_) ?_ (fun K hK => ?_) AllReadyH.nil
            rotate_left
            · (simp only [List.getElem?_toArray, List.getElem?_cons_succ, List.getElem?_cons_zero]; rfl)
            · go_simp
              refine hK.out _ _ trivial (fun hHeld => ?_)
              clear hK K
              try first | simp only [pS, List.set] | simp only [pN]
              refine wpAnyH_done (by kernel_rfl) ?_ _
              obtain ⟨w10, hw10⟩ : ∃ x, w9.setCell ⟨rb, 1, none⟩ (.slice A' M c') = x := ⟨_, rfl⟩
              rw [hw10] at HTK HFT ⊢
              clear hw10 c9 f9
              go_wp2_with fail
              go_ret
              exact ⟨rfl, HTK.out, HFT.out⟩
    · refine AllReadyH.cons (o := ?_) ?_ (fun K hK => ?_) AllReadyH.nil
      rotate_left
      · (simp only [List.getElem?_toArray, List.getElem?_cons_succ, List.getElem?_cons_zero]; rfl)
      · go_simp
        refine hK.out _ _ trivial (fun hHeld => ?_)
        clear hK K
        try first | simp only [pS, List.set] | simp only [pN]
        refine wpAnyH_ready (rs := [5, 7]) (by kernel_rfl) (by simp) ?_
        refine AllReadyH.cons (o := ?_) ?_ (fun K hK => ?_) ?_
        rotate_left
        · (simp only [List.getElem?_toArray, List.getElem?_cons_succ, List.getElem?_cons_zero]; rfl)
        · go_simp
          refine hK.out _ _ trivial (fun hHeld => ?_)
          clear hK K
          try first | simp only [pS, List.set] | simp only [pN]
          refine wpAnyH_ready (rs := [7]) (by kernel_rfl) (by simp) ?_
          refine AllReadyH.cons (o := ?_) ?_ (fun K hK => ?_) AllReadyH.nil
          rotate_left
          · (simp only [List.getElem?_toArray, List.getElem?_cons_succ, List.getElem?_cons_zero]; rfl)
          · go_simp
            have cA : (wz.alloc (.cells #[.int .i64 kd, .int .i64 wd, .int .i64 sl, .int .i64 cp, .int .u32 st, .slice I ni ci, .int .i64 wr, .slice R nr cr] tyO)).cell? ⟨rb, 1, none⟩ = some (.slice Ao ps.length co) := (World.cell?_alloc_lt wz _ _ (cell_lt cz)).trans cz
            clear cz
            refine hK.out _ _ trivial (fun hHeld => ?_)
            clear hK K
            try first | simp only [pS, List.set] | simp only [pN]
            refine wpAnyH_ready (rs := [8]) (by kernel_rfl) (by simp) ?_
            refine AllReadyH.cons (o := ?_) ?_ (fun K hK => ?_) AllReadyH.nil
            rotate_left
            · (simp only [List.getElem?_toArray, List.getElem?_cons_succ, List.getElem?_cons_zero]; rfl)
            · refine step_app2 (by rfl) (.tmp 96) (.tmp 98) 23 (by rfl) ojTy lo (HCz.out.ho.alloc _) (by rfl) (cells_new' wz [.int .i64 kd, .int .i64 wd, .int .i64 sl, .int .i64 cp, .int .u32 st, .slice I ni ci, .int .i64 wr, .slice R nr cr] _ _ rfl) (by rfl) (by rfl) (by simp [Value.oneCell']) (by unfold maxLen; omega) (by omega) (by rw [World.size_alloc]; omega) ?_
              intro v' w9 hown9 hb9 hblk9 _
              obtain ⟨M, A', c', rfl⟩ : ∃ M A' c', v' = .slice A' M c' := (by obtain ⟨A', c', h⟩ := own_slice hown9; exact ⟨_, A', c', h⟩)
              have hbA := (Below.refl wz.heap.size wz).alloc (Nat.le_refl _) (.cells #[.int .i64 kd, .int .i64 wd, .int .i64 sl, .int .i64 cp, .int .u32 st, .slice I ni ci, .int .i64 wr, .slice R nr cr] tyO)
              have hblk : ∀ k, k < wz.heap.size → some k ≠ (Value.slice Ao ps.length co).ownBlock → w9.heap[k]? = wz.heap[k]? := fun k h1 h2 => (hblk9 k (by rw [World.size_alloc]; omega) h2).trans (hbA.block k h1)
              have hsz9 : wz.heap.size ≤ w9.heap.size := Nat.le_trans hbA.size hb9.size
              have hr9 : RowB w9 rb #[vt, .slice Ao ps.length co, .bool false] tyR := (hb9.block rb hrb).trans ((hbA.block rb (by omega)).trans HCz.out.hr)
              have c9 : w9.cell? ⟨rb, 1, none⟩ = some (.slice Ao ps.length co) := (hr9.cell 1).trans rfl
              have f9 := hr9.frozen 1
              have HTK := Lib.hid (show ∀ o, readOG s.data.toList = some o → ∃ vo' ps', RdC (w9.setCell ⟨rb, 1, none⟩ (.slice A' M c')) lo rb vt vo' qs ps' ⟨sy.ts, sy.os ++ [o]⟩ from fun o ho => by
                obtain ⟨e1, e2, e3, e4, e5, e6, e7, e8, hI, hR⟩ := HGOT.out o ho
                have hbb := readOG_bd ho
                have hqz : OqOk wz lo wz.heap.size ⟨kd, wd, sl, cp, st, I, ni, ci, wr, R, nr, cr⟩ o := ⟨⟨e1.symm, e2.symm, e3.symm, e4.symm, e5.symm, e6.symm⟩, e7.symm, hI.1.bd.2, (hI.1.slT hl3).keep (KeepT.below HBz.out _) HBz.out.size, hI.2, e8.symm, hR.bd.2, (hR.slT hl3).keep (KeepT.below HBz.out _) HBz.out.size, hbb.1, hbb.2⟩
                exact ⟨_, _, RdC.obj HCz.out hrb hsz hqz (Own.app hown9 rfl) hblk hsz9⟩)
              have HFT := Lib.hid (((HFz.out.trans (FrR.below (lo := lo) (rb := rb) hbA hsz (Nat.le_of_lt hrb))).trans (FrR.app (HCz.out.ho.alloc (.cells #[.int .i64 kd, .int .i64 wd, .int .i64 sl, .int .i64 cp, .int .u32 st, .slice I ni ci, .int .i64 wr, .slice R nr cr] tyO)) hb9 hblk9 (Nat.le_refl _) (Nat.le_of_lt hrb))).trans (FrR.set 1 (.slice A' M c') (Or.inl rfl) (Nat.le_of_lt hrb)))
              clear hbA hblk hsz9 hr9 hown9 hb9 hblk9
              refine hK.out _ _ trivial (fun hHeld => ?_)
              clear hK K
              try first | simp only [pS, List.set] | simp only [pN]
              refine tkH 9 ?_
              try first | simp only [pS, List.set] | simp only [pN]
              refine tkH 10 ?_
              try first | simp only [pS, List.set] | simp only [pN]
              refine tkH 11 ?_
              try first | simp only [pS, List.set] | simp only [pN]
              refine wpAnyH_ready (rs := [12]) (by kernel_rfl) (by simp) ?_
              refine AllReadyH.cons (o := ?_) ?_ (fun K hK => ?_) AllReadyH.nil
              rotate_left
              · (simp only [List.getElem?_toArray, List.getElem?_cons_succ, List.getElem?_cons_zero]; rfl)
              · go_simp
                refine hK.out _ _ trivial (fun hHeld => ?_)
                clear hK K
                try first | simp only [pS, List.set] | simp only [pN]
                refine wpAnyH_done (by kernel_rfl) ?_ _
                obtain ⟨w10, hw10⟩ : ∃ x, w9.setCell ⟨rb, 1, none⟩ (.slice A' M c') = x := ⟨_, rfl⟩
                rw [hw10] at HTK HFT ⊢
                clear hw10 c9 f9
                go_wp2_with fail
                go_ret
                exact ⟨rfl, HTK.out, HFT.out⟩
        · refine AllReadyH.cons (o := ?_) ?_ (fun K hK => ?_) AllReadyH.nil
          rotate_left
          · (simp only [List.getElem?_toArray, List.getElem?_cons_succ, List.getElem?_cons_zero]; rfl)
          · go_simp
            have cA : (wz.alloc (.cells #[.int .i64 kd, .int .i64 wd, .int .i64 sl, .int .i64 cp, .int .u32 st, .slice I ni ci, .int .i64 wr, .slice R nr cr] tyO)).cell? ⟨rb, 1, none⟩ = some (.slice Ao ps.length co) := (World.cell?_alloc_lt wz _ _ (cell_lt cz)).trans cz
            clear cz
            refine hK.out _ _ trivial (fun hHeld => ?_)
            clear hK K
            try first | simp only [pS, List.set] | simp only [pN]
            refine wpAnyH_ready (rs := [5]) (by kernel_rfl) (by simp) ?_
            refine AllReadyH.cons (o := ?_) ?_ (fun K hK => ?_) AllReadyH.nil
            rotate_left
            · (simp only [List.getElem?_toArray, List.getElem?_cons_succ, List.getElem?_cons_zero]; rfl)
            · go_simp
              refine hK.out _ _ trivial (fun hHeld => ?_)
              clear hK K
              try first | simp only [pS, List.set] | simp only [pN]
              refine wpAnyH_ready (rs := [8]) (by kernel_rfl) (by simp) ?_
              refine AllReadyH.cons (o := ?_) ?_ (fun K hK => ?_) AllReadyH.nil
              rotate_left
              · (simp only [List.getElem?_toArray, List.getElem?_cons_succ, List.getElem?_cons_zero]; rfl)
              · refine step_app2 (by rfl) (.tmp 96) (.tmp 98) 23 (by rfl) ojTy lo (HCz.out.ho.alloc _) (by rfl) (cells_new' wz [.int .i64 kd, .int .i64 wd, .int .i64 sl, .int .i64 cp, .int .u32 st, .slice I ni ci, .int .i64 wr, .slice R nr cr] _ _ rfl) (by rfl) (by rfl) (by simp [Value.oneCell']) (by unfold maxLen; omega) (by omega) (by rw [World.size_alloc]; omega) ?_
                intro v' w9 hown9 hb9 hblk9 _
                obtain ⟨M, A', c', rfl⟩ : ∃ M A' c', v' = .slice A' M c' := (by obtain ⟨A', c', h⟩ := own_slice hown9; exact ⟨_, A', c', h⟩)
                have hbA := (Below.refl wz.heap.size wz).alloc (Nat.le_refl _) (.cells #[.int .i64 kd, .int .i64 wd, .int .i64 sl, .int .i64 cp, .int .u32 st, .slice I ni ci, .int .i64 wr, .slice R nr cr] tyO)
                have hblk : ∀ k, k < wz.heap.size → some k ≠ (Value.slice Ao ps.length co).ownBlock → w9.heap[k]? = wz.heap[k]? := fun k h1 h2 => (hblk9 k (by rw [World.size_alloc]; omega) h2).trans (hbA.block k h1)
                have hsz9 : wz.heap.size ≤ w9.heap.size := Nat.le_trans hbA.size hb9.size
                have hr9 : RowB w9 rb #[vt, .slice Ao ps.length co, .bool false] tyR := (hb9.block rb hrb).trans ((hbA.block rb (by omega)).trans HCz.out.hr)
                have c9 : w9.cell? ⟨rb, 1, none⟩ = some (.slice Ao ps.length co) := (hr9.cell 1).trans rfl
                have f9 := hr9.frozen 1
                have HTK := Lib.hid (show ∀ o, readOG s.data.toList = some o → ∃ vo' ps', RdC (w9.setCell ⟨rb, 1, none⟩ (.slice A' M c')) lo rb vt vo' qs ps' ⟨sy.ts, sy.os ++ [o]⟩ from fun o ho => by
                  obtain ⟨e1, e2, e3, e4, e5, e6, e7, e8, hI, hR⟩ := HGOT.out o ho
                  have hbb := readOG_bd ho
                  have hqz : OqOk wz lo wz.heap.size ⟨kd, wd, sl, cp, st, I, ni, ci, wr, R, nr, cr⟩ o := ⟨⟨e1.symm, e2.symm, e3.symm, e4.symm, e5.symm, e6.symm⟩, e7.symm, hI.1.bd.2, (hI.1.slT hl3).keep (KeepT.below HBz.out _) HBz.out.size, hI.2, e8.symm, hR.bd.2, (hR.slT hl3).keep (KeepT.below HBz.out _) HBz.out.size, hbb.1, hbb.2⟩
                  exact ⟨_, _, RdC.obj HCz.out hrb hsz hqz (Own.app hown9 rfl) hblk hsz9⟩)
                have HFT := Lib.hid (((HFz.out.trans (FrR.below (lo := lo) (rb := rb) hbA hsz (Nat.le_of_lt hrb))).trans (FrR.app (HCz.out.ho.alloc (.cells #[.int .i64 kd, .int .i64 wd, .int .i64 sl, .int .i64 cp, .int .u32 st, .slice I ni ci, .int .i64 wr, .slice R nr cr] tyO)) hb9 hblk9 (Nat.le_refl _) (Nat.le_of_lt hrb))).trans (FrR.set 1 (.slice A' M c') (Or.inl rfl) (Nat.le_of_lt hrb)))
                clear hbA hblk hsz9 hr9 hown9 hb9 hblk9
                refine hK.out _ _ trivial (fun hHeld => ?_)
                clear hK K
                try first | simp only [pS, List.set] | simp only [pN]
                refine tkH 9 ?_
                try first | simp only [pS, List.set] | simp only [pN]
                refine tkH 10 ?_
                try first | simp only [pS, List.set] | simp only [pN]
                refine tkH 11 ?_
                try first | simp only [pS, List.set] | simp only [pN]
                refine wpAnyH_ready (rs := [12]) (by kernel_rfl) (by simp) ?_
                refine AllReadyH.cons (o := ?_) ?_ (fun K hK => ?_) AllReadyH.nil
                rotate_left
                · (simp only [List.getElem?_toArray, List.getElem?_cons_succ, List.getElem?_cons_zero]; rfl)
                · go_simp
                  refine hK.out _ _ trivial (fun hHeld => ?_)
                  clear hK K
                  try first | simp only [pS, List.set] | simp only [pN]
                  refine wpAnyH_done (by kernel_rfl) ?_ _
                  obtain ⟨w10, hw10⟩ : ∃ x, w9.setCell ⟨rb, 1, none⟩ (.slice A' M c') = x := ⟨_, rfl⟩
                  rw [hw10] at HTK HFT ⊢
                  clear hw10 c9 f9
                  go_wp2_with fail
                  go_ret
                  exact ⟨rfl, HTK.out, HFT.out⟩
  · have hne := HNO.out hok
    have q0 : ((ps.length : Int) == 0) = false := by rw [hpsl]; exact beq_eq_false_iff_ne.2 (fun e => hne (List.eq_nil_of_length_eq_zero (by omega)))
    have q1 : (ps.length == 0) = false := by rw [hpsl]; exact beq_eq_false_iff_ne.2 (fun e => hne (List.eq_nil_of_length_eq_zero e))
    clear hok hpsl
    go_wp2_with fail
    obtain ⟨w3, hw3⟩ : ∃ x, w1.alloc (.cells #[.int .i64 kd1, .int .i64 pr1, .int .i64 pe1, .int .i64 off1, .int .i64 dl1, .int .i64 ow1, .slice none 0 0] 46) = x := ⟨_, rfl⟩
    obtain ⟨hcall, hF3, hC3, hl3⟩ := FIN1.out w3 hw3
    rw [hw3]
    clear hw3 c0 c1
    unfold RObjR at hcall
    refine hcall.mono ?_
    rintro e w2 ⟨kd, wd, sl, cp, st, I, ni, ci, wr, R, nr, cr, rfl, hgot, hb2⟩
    have hC2 := hC3.below hb2
    have HF2 := Lib.hid (hF3.trans (FrR.below (lo := lo) (rb := rb) hb2 hl3 (Nat.le_of_lt hrb)))
    have hl2 : lo ≤ w2.heap.size := Nat.le_trans hl3 hb2.size
    have HGOT := Lib.hid hgot
    have c0 : w2.cell? ⟨rb, 0, none⟩ = some vt := (hC2.hr.cell 0).trans rfl
    have c1 : w2.cell? ⟨rb, 1, none⟩ = some (.slice Ao ps.length co) := (hC2.hr.cell 1).trans rfl
    have hr2 : rb < w2.heap.size := hC2.hr.lt
    have HC2 := Lib.hid hC2
    clear hC2 hC3 hF3 hb2 hcall hgot FIN1 HNO
    unfold ojR
    go_wp2_with fail
    have hbx := RowB.new w2 #[.int .i64 kd, .int .i64 wd, .int .i64 sl, .int .i64 cp, .int .u32 st, .slice I ni ci, .int .i64 wr, .slice R nr cr] tyO
    have hb3 := (Below.refl w2.heap.size w2).alloc (Nat.le_refl _) (.cells #[.int .i64 kd, .int .i64 wd, .int .i64 sl, .int .i64 cp, .int .u32 st, .slice I ni ci, .int .i64 wr, .slice R nr cr] tyO)
    have HB3 := hb3
    have hC3 := HC2.out.below hb3
    have hF3 := HF2.out.trans (FrR.below (lo := lo) (rb := rb) hb3 (by omega) (Nat.le_of_lt hrb))
    have hs3 : lo ≤ (w2.alloc (.cells #[.int .i64 kd, .int .i64 wd, .int .i64 sl, .int .i64 cp, .int .u32 st, .slice I ni ci, .int .i64 wr, .slice R nr cr] tyO)).heap.size := by rw [World.size_alloc]; omega
    obtain ⟨w3, hw3⟩ : ∃ x, w2.alloc (.cells #[.int .i64 kd, .int .i64 wd, .int .i64 sl, .int .i64 cp, .int .u32 st, .slice I ni ci, .int .i64 wr, .slice R nr cr] tyO) = x := ⟨_, rfl⟩
    obtain ⟨bx, hbx0⟩ : ∃ x, w2.heap.size = x := ⟨_, rfl⟩
    rw [hw3, hbx0] at hbx
    rw [hw3] at hC3 hF3 hs3 HB3
    rw [hw3, hbx0]
    clear hb3 hw3 c0 c1
    refine wp_region_held_drew (S := (fun _ : World => True)) (by kernel_rfl) trivial (fun hHeld => ?_)
    skip
    have hdr := (Below.refl w3.heap.size w3).drew
    have hCz := hC3.below hdr
    have hbz := hbx.kept hdr
    have hFz := hF3.trans (FrR.below (lo := lo) (rb := rb) hdr hs3 (Nat.le_of_lt hrb))
    have hsz : lo ≤ w3.drew.heap.size := Nat.le_trans hs3 hdr.size
    have hBz := HB3.trans (hdr.mono HB3.size)
    generalize w3.drew = wz at hCz hbz hFz hsz hBz ⊢
    clear hdr hC3 hF3 hs3 hbx
    have b0 := hbz.cell 0
    have b1 := hbz.cell 1
    have b2 := hbz.cell 2
    have b3 := hbz.cell 3
    have b4 := hbz.cell 4
    have b5 := hbz.cell 5
    have b6 := hbz.cell 6
    have b7 := hbz.cell 7
    simp only [List.getElem?_toArray, List.getElem?_cons_zero, List.getElem?_cons_succ] at b0 b1 b2 b3 b4 b5 b6 b7
    have HCz := Lib.hid hCz
    have HFz := Lib.hid hFz
    have cz : wz.cell? ⟨rb, 1, none⟩ = some (.slice Ao ps.length co) := (hCz.hr.cell 1).trans rfl
    clear hCz hFz hbz
    have HBz := Lib.hid hBz
    clear hBz HB3
    refine tkH 0 ?_
    try first | simp only [pS, List.set] | simp only [pN]
    refine tkH 1 ?_
    try first | simp only [pS, List.set] | simp only [pN]
    refine tkH 2 ?_
    try first | simp only [pS, List.set] | simp only [pN]
    refine tkH 3 ?_
    try first | simp only [pS, List.set] | simp only [pN]
    refine tkH 4 ?_
    try first | simp only [pS, List.set] | simp only [pN]
    refine wpAnyH_ready (rs := [5, 6]) (by kernel_rfl) (by simp) ?_
    refine AllReadyH.cons (o := ?_) ?_ (fun K hK => ?_) ?_
    rotate_left
    · (simp only [List.getElem?_toArray, List.getElem?_cons_succ, List.getElem?_cons_zero]; rfl)
    · go_simp
      refine hK.out _ _ trivial (fun hHeld => ?_)
      clear hK K
      try first | simp only [pS, List.set] | simp only [pN]
      refine wpAnyH_ready (rs := [6]) (by kernel_rfl) (by simp) ?_
      refine AllReadyH.cons (o := ?_) ?_ (fun K hK => ?_) AllReadyH.nil
      rotate_left
      · (simp only [List.getElem?_toArray, List.getElem?_cons_succ, List.getElem?_cons_zero]; rfl)
      · go_simp
        refine hK.out _ _ trivial (fun hHeld => ?_)
        clear hK K
        try first | simp only [pS, List.set] | simp only [pN]
        refine wpAnyH_ready (rs := [7]) (by kernel_rfl) (by simp) ?_
        refine AllReadyH.cons (o := ?_) ?_ (fun K hK => ?_) AllReadyH.nil
        rotate_left
        · (simp only [List.getElem?_toArray, List.getElem?_cons_succ, List.getElem?_cons_zero]; rfl)
        · go_simp
          have cA : (wz.alloc (.cells #[.int .i64 kd, .int .i64 wd, .int .i64 sl, .int .i64 cp, .int .u32 st, .slice I ni ci, .int .i64 wr, .slice R nr cr] tyO)).cell? ⟨rb, 1, none⟩ = some (.slice Ao ps.length co) := (World.cell?_alloc_lt wz _ _ (cell_lt cz)).trans cz
          clear cz
          refine hK.out _ _ trivial (fun hHeld => ?_)
          clear hK K
          try first | simp only [pS, List.set] | simp only [pN]
          refine wpAnyH_ready (rs := [8]) (by kernel_rfl) (by simp) ?_
          refine AllReadyH.cons (o := ?_) ?_ (fun K hK => ?_) AllReadyH.nil
          rotate_left
          · (simp only [List.getElem?_toArray, List.getElem?_cons_succ, List.getElem?_cons_zero]; rfl)
          · refine step_app2 (by rfl) (.tmp 96) (.tmp 98) 23 (by rfl) ojTy lo (HCz.out.ho.alloc _) (by rfl) (cells_new' wz [.int .i64 kd, .int .i64 wd, .int .i64 sl, .int .i64 cp, .int .u32 st, .slice I ni ci, .int .i64 wr, .slice R nr cr] _ _ rfl) (by rfl) (by rfl) (by simp [Value.oneCell']) (by unfold maxLen; omega) (by omega) (by rw [World.size_alloc]; omega) ?_
            intro v' w9 hown9 hb9 hblk9 _
            obtain ⟨M, A', c', rfl⟩ : ∃ M A' c', v' = .slice A' M c' := (by obtain ⟨A', c', h⟩ := own_slice hown9; exact ⟨_, A', c', h⟩)
            have hbA := (Below.refl wz.heap.size wz).alloc (Nat.le_refl _) (.cells #[.int .i64 kd, .int .i64 wd, .int .i64 sl, .int .i64 cp, .int .u32 st, .slice I ni ci, .int .i64 wr, .slice R nr cr] tyO)
            have hblk : ∀ k, k < wz.heap.size → some k ≠ (Value.slice Ao ps.length co).ownBlock → w9.heap[k]? = wz.heap[k]? := fun k h1 h2 => (hblk9 k (by rw [World.size_alloc]; omega) h2).trans (hbA.block k h1)
            have hsz9 : wz.heap.size ≤ w9.heap.size := Nat.le_trans hbA.size hb9.size
            have hr9 : RowB w9 rb #[vt, .slice Ao ps.length co, .bool false] tyR := (hb9.block rb hrb).trans ((hbA.block rb (by omega)).trans HCz.out.hr)
            have c9 : w9.cell? ⟨rb, 1, none⟩ = some (.slice Ao ps.length co) := (hr9.cell 1).trans rfl
            have f9 := hr9.frozen 1
            have HTK := Lib.hid (show ∀ o, readOG s.data.toList = some o → ∃ vo' ps', RdC (w9.setCell ⟨rb, 1, none⟩ (.slice A' M c')) lo rb vt vo' qs ps' ⟨sy.ts, sy.os ++ [o]⟩ from fun o ho => by
              obtain ⟨e1, e2, e3, e4, e5, e6, e7, e8, hI, hR⟩ := HGOT.out o ho
              have hbb := readOG_bd ho
              have hqz : OqOk wz lo wz.heap.size ⟨kd, wd, sl, cp, st, I, ni, ci, wr, R, nr, cr⟩ o := ⟨⟨e1.symm, e2.symm, e3.symm, e4.symm, e5.symm, e6.symm⟩, e7.symm, hI.1.bd.2, (hI.1.slT hl3).keep (KeepT.below HBz.out _) HBz.out.size, hI.2, e8.symm, hR.bd.2, (hR.slT hl3).keep (KeepT.below HBz.out _) HBz.out.size, hbb.1, hbb.2⟩
              exact ⟨_, _, RdC.obj HCz.out hrb hsz hqz (Own.app hown9 rfl) hblk hsz9⟩)
            have HFT := Lib.hid (((HFz.out.trans (FrR.below (lo := lo) (rb := rb) hbA hsz (Nat.le_of_lt hrb))).trans (FrR.app (HCz.out.ho.alloc (.cells #[.int .i64 kd, .int .i64 wd, .int .i64 sl, .int .i64 cp, .int .u32 st, .slice I ni ci, .int .i64 wr, .slice R nr cr] tyO)) hb9 hblk9 (Nat.le_refl _) (Nat.le_of_lt hrb))).trans (FrR.set 1 (.slice A' M c') (Or.inl rfl) (Nat.le_of_lt hrb)))
            clear hbA hblk hsz9 hr9 hown9 hb9 hblk9
            refine hK.out _ _ trivial (fun hHeld => ?_)
            clear hK K
            try first | simp only [pS, List.set] | simp only [pN]
            refine tkH 9 ?_
            try first | simp only [pS, List.set] | simp only [pN]
            refine tkH 10 ?_
            try first | simp only [pS, List.set] | simp only [pN]
            refine tkH 11 ?_
            try first | simp only [pS, List.set] | simp only [pN]
            refine wpAnyH_ready (rs := [12]) (by kernel_rfl) (by simp) ?_
            refine AllReadyH.cons (o := ?_) ?_ (fun K hK => ?_) AllReadyH.nil
            rotate_left
            · (simp only [List.getElem?_toArray, List.getElem?_cons_succ, List.getElem?_cons_zero]; rfl)
            · go_simp
              refine hK.out _ _ trivial (fun hHeld => ?_)
              clear hK K
              try first | simp only [pS, List.set] | simp only [pN]
              refine wpAnyH_done (by kernel_rfl) ?_ _
              obtain ⟨w10, hw10⟩ : ∃ x, w9.setCell ⟨rb, 1, none⟩ (.slice A' M c') = x := ⟨_, rfl⟩
              rw [hw10] at HTK HFT ⊢
              clear hw10 c9 f9
              go_wp2_with fail
              go_ret
              exact ⟨rfl, HTK.out, HFT.out⟩
    · refine AllReadyH.cons (o := ?_) ?_ (fun K hK => ?_) AllReadyH.nil
      rotate_left
      · (simp only [List.getElem?_toArray, List.getElem?_cons_succ, List.getElem?_cons_zero]; rfl)
      · go_simp
        refine hK.out _ _ trivial (fun hHeld => ?_)
        clear hK K
        try first | simp only [pS, List.set] | simp only [pN]
        refine wpAnyH_ready (rs := [5, 7]) (by kernel_rfl) (by simp) ?_
        refine AllReadyH.cons (o := ?_) ?_ (fun K hK => ?_) ?_
        rotate_left
        · (simp only [List.getElem?_toArray, List.getElem?_cons_succ, List.getElem?_cons_zero]; rfl)
        · go_simp
          refine hK.out _ _ trivial (fun hHeld => ?_)
          clear hK K
          try first | simp only [pS, List.set] | simp only [pN]
          refine wpAnyH_ready (rs := [7]) (by kernel_rfl) (by simp) ?_
          refine AllReadyH.cons (o := ?_) ?_ (fun K hK => ?_) AllReadyH.nil
          rotate_left
          · (simp only [List.getElem?_toArray, List.getElem?_cons_succ, List.getElem?_cons_zero]; rfl)
          · go_simp
            have cA : (wz.alloc (.cells #[.int .i64 kd, .int .i64 wd, .int .i64 sl, .int .i64 cp, .int .u32 st, .slice I ni ci, .int .i64 wr, .slice R nr cr] tyO)).cell? ⟨rb, 1, none⟩ = some (.slice Ao ps.length co) := (World.cell?_alloc_lt wz _ _ (cell_lt cz)).trans cz
            clear cz
            refine hK.out _ _ trivial (fun hHeld => ?_)
            clear hK K
            try first | simp only [pS, List.set] | simp only [pN]
            refine wpAnyH_ready (rs := [8]) (by kernel_rfl) (by simp) ?_
            refine AllReadyH.cons (o := ?_) ?_ (fun K hK => ?_) AllReadyH.nil
            rotate_left
            · (simp only [List.getElem?_toArray, List.getElem?_cons_succ, List.getElem?_cons_zero]; rfl)
            · refine step_app2 (by rfl) (.tmp 96) (.tmp 98) 23 (by rfl) ojTy lo (HCz.out.ho.alloc _) (by rfl) (cells_new' wz [.int .i64 kd, .int .i64 wd, .int .i64 sl, .int .i64 cp, .int .u32 st, .slice I ni ci, .int .i64 wr, .slice R nr cr] _ _ rfl) (by rfl) (by rfl) (by simp [Value.oneCell']) (by unfold maxLen; omega) (by omega) (by rw [World.size_alloc]; omega) ?_
              intro v' w9 hown9 hb9 hblk9 _
              obtain ⟨M, A', c', rfl⟩ : ∃ M A' c', v' = .slice A' M c' := (by obtain ⟨A', c', h⟩ := own_slice hown9; exact ⟨_, A', c', h⟩)
              have hbA := (Below.refl wz.heap.size wz).alloc (Nat.le_refl _) (.cells #[.int .i64 kd, .int .i64 wd, .int .i64 sl, .int .i64 cp, .int .u32 st, .slice I ni ci, .int .i64 wr, .slice R nr cr] tyO)
              have hblk : ∀ k, k < wz.heap.size → some k ≠ (Value.slice Ao ps.length co).ownBlock → w9.heap[k]? = wz.heap[k]? := fun k h1 h2 => (hblk9 k (by rw [World.size_alloc]; omega) h2).trans (hbA.block k h1)
              have hsz9 : wz.heap.size ≤ w9.heap.size := Nat.le_trans hbA.size hb9.size
              have hr9 : RowB w9 rb #[vt, .slice Ao ps.length co, .bool false] tyR := (hb9.block rb hrb).trans ((hbA.block rb (by omega)).trans HCz.out.hr)
              have c9 : w9.cell? ⟨rb, 1, none⟩ = some (.slice Ao ps.length co) := (hr9.cell 1).trans rfl
              have f9 := hr9.frozen 1
              have HTK := Lib.hid (show ∀ o, readOG s.data.toList = some o → ∃ vo' ps', RdC (w9.setCell ⟨rb, 1, none⟩ (.slice A' M c')) lo rb vt vo' qs ps' ⟨sy.ts, sy.os ++ [o]⟩ from fun o ho => by
                obtain ⟨e1, e2, e3, e4, e5, e6, e7, e8, hI, hR⟩ := HGOT.out o ho
                have hbb := readOG_bd ho
                have hqz : OqOk wz lo wz.heap.size ⟨kd, wd, sl, cp, st, I, ni, ci, wr, R, nr, cr⟩ o := ⟨⟨e1.symm, e2.symm, e3.symm, e4.symm, e5.symm, e6.symm⟩, e7.symm, hI.1.bd.2, (hI.1.slT hl3).keep (KeepT.below HBz.out _) HBz.out.size, hI.2, e8.symm, hR.bd.2, (hR.slT hl3).keep (KeepT.below HBz.out _) HBz.out.size, hbb.1, hbb.2⟩
                exact ⟨_, _, RdC.obj HCz.out hrb hsz hqz (Own.app hown9 rfl) hblk hsz9⟩)
              have HFT := Lib.hid (((HFz.out.trans (FrR.below (lo := lo) (rb := rb) hbA hsz (Nat.le_of_lt hrb))).trans (FrR.app (HCz.out.ho.alloc (.cells #[.int .i64 kd, .int .i64 wd, .int .i64 sl, .int .i64 cp, .int .u32 st, .slice I ni ci, .int .i64 wr, .slice R nr cr] tyO)) hb9 hblk9 (Nat.le_refl _) (Nat.le_of_lt hrb))).trans (FrR.set 1 (.slice A' M c') (Or.inl rfl) (Nat.le_of_lt hrb)))
              clear hbA hblk hsz9 hr9 hown9 hb9 hblk9
              refine hK.out _ _ trivial (fun hHeld => ?_)
              clear hK K
              try first | simp only [pS, List.set] | simp only [pN]
              refine tkH 9 ?_
              try first | simp only [pS, List.set] | simp only [pN]
              refine tkH 10 ?_
              try first | simp only [pS, List.set] | simp only [pN]
              refine tkH 11 ?_
              try first | simp only [pS, List.set] | simp only [pN]
              refine wpAnyH_ready (rs := [12]) (by kernel_rfl) (by simp) ?_
              refine AllReadyH.cons (o := ?_) ?_ (fun K hK => ?_) AllReadyH.nil
              rotate_left
              · (simp only [List.getElem?_toArray, List.getElem?_cons_succ, List.getElem?_cons_zero]; rfl)
              · go_simp
                refine hK.out _ _ trivial (fun hHeld => ?_)
                clear hK K
                try first | simp only [pS, List.set] | simp only [pN]
                refine wpAnyH_done (by kernel_rfl) ?_ _
                obtain ⟨w10, hw10⟩ : ∃ x, w9.setCell ⟨rb, 1, none⟩ (.slice A' M c') = x := ⟨_, rfl⟩
                rw [hw10] at HTK HFT ⊢
                clear hw10 c9 f9
                go_wp2_with fail
                go_ret
                exact ⟨rfl, HTK.out, HFT.out⟩
        · refine AllReadyH.cons (o := ?_) ?_ (fun K hK => ?_) AllReadyH.nil
          rotate_left
          · (simp only [List.getElem?_toArray, List.getElem?_cons_succ, List.getElem?_cons_zero]; rfl)
          · go_simp
            have cA : (wz.alloc (.cells #[.int .i64 kd, .int .i64 wd, .int .i64 sl, .int .i64 cp, .int .u32 st, .slice I ni ci, .int .i64 wr, .slice R nr cr] tyO)).cell? ⟨rb, 1, none⟩ = some (.slice Ao ps.length co) := (World.cell?_alloc_lt wz _ _ (cell_lt cz)).trans cz
            clear cz
            refine hK.out _ _ trivial (fun hHeld => ?_)
            clear hK K
            try first | simp only [pS, List.set] | simp only [pN]
            refine wpAnyH_ready (rs := [5]) (by kernel_rfl) (by simp) ?_
            refine AllReadyH.cons (o := ?_) ?_ (fun K hK => ?_) AllReadyH.nil
            rotate_left
            · (simp only [List.getElem?_toArray, List.getElem?_cons_succ, List.getElem?_cons_zero]; rfl)
            · go_simp
              refine hK.out _ _ trivial (fun hHeld => ?_)
              clear hK K
              try first | simp only [pS, List.set] | simp only [pN]
              refine wpAnyH_ready (rs := [8]) (by kernel_rfl) (by simp) ?_
              refine AllReadyH.cons (o := ?_) ?_ (fun K hK => ?_) AllReadyH.nil
              rotate_left
              · (simp only [List.getElem?_toArray, List.getElem?_cons_succ, List.getElem?_cons_zero]; rfl)
              · refine step_app2 (by rfl) (.tmp 96) (.tmp 98) 23 (by rfl) ojTy lo (HCz.out.ho.alloc _) (by rfl) (cells_new' wz [.int .i64 kd, .int .i64 wd, .int .i64 sl, .int .i64 cp, .int .u32 st, .slice I ni ci, .int .i64 wr, .slice R nr cr] _ _ rfl) (by rfl) (by rfl) (by simp [Value.oneCell']) (by unfold maxLen; omega) (by omega) (by rw [World.size_alloc]; omega) ?_
                intro v' w9 hown9 hb9 hblk9 _
                obtain ⟨M, A', c', rfl⟩ : ∃ M A' c', v' = .slice A' M c' := (by obtain ⟨A', c', h⟩ := own_slice hown9; exact ⟨_, A', c', h⟩)
                have hbA := (Below.refl wz.heap.size wz).alloc (Nat.le_refl _) (.cells #[.int .i64 kd, .int .i64 wd, .int .i64 sl, .int .i64 cp, .int .u32 st, .slice I ni ci, .int .i64 wr, .slice R nr cr] tyO)
                have hblk : ∀ k, k < wz.heap.size → some k ≠ (Value.slice Ao ps.length co).ownBlock → w9.heap[k]? = wz.heap[k]? := fun k h1 h2 => (hblk9 k (by rw [World.size_alloc]; omega) h2).trans (hbA.block k h1)
                have hsz9 : wz.heap.size ≤ w9.heap.size := Nat.le_trans hbA.size hb9.size
                have hr9 : RowB w9 rb #[vt, .slice Ao ps.length co, .bool false] tyR := (hb9.block rb hrb).trans ((hbA.block rb (by omega)).trans HCz.out.hr)
                have c9 : w9.cell? ⟨rb, 1, none⟩ = some (.slice Ao ps.length co) := (hr9.cell 1).trans rfl
                have f9 := hr9.frozen 1
                have HTK := Lib.hid (show ∀ o, readOG s.data.toList = some o → ∃ vo' ps', RdC (w9.setCell ⟨rb, 1, none⟩ (.slice A' M c')) lo rb vt vo' qs ps' ⟨sy.ts, sy.os ++ [o]⟩ from fun o ho => by
                  obtain ⟨e1, e2, e3, e4, e5, e6, e7, e8, hI, hR⟩ := HGOT.out o ho
                  have hbb := readOG_bd ho
                  have hqz : OqOk wz lo wz.heap.size ⟨kd, wd, sl, cp, st, I, ni, ci, wr, R, nr, cr⟩ o := ⟨⟨e1.symm, e2.symm, e3.symm, e4.symm, e5.symm, e6.symm⟩, e7.symm, hI.1.bd.2, (hI.1.slT hl3).keep (KeepT.below HBz.out _) HBz.out.size, hI.2, e8.symm, hR.bd.2, (hR.slT hl3).keep (KeepT.below HBz.out _) HBz.out.size, hbb.1, hbb.2⟩
                  exact ⟨_, _, RdC.obj HCz.out hrb hsz hqz (Own.app hown9 rfl) hblk hsz9⟩)
                have HFT := Lib.hid (((HFz.out.trans (FrR.below (lo := lo) (rb := rb) hbA hsz (Nat.le_of_lt hrb))).trans (FrR.app (HCz.out.ho.alloc (.cells #[.int .i64 kd, .int .i64 wd, .int .i64 sl, .int .i64 cp, .int .u32 st, .slice I ni ci, .int .i64 wr, .slice R nr cr] tyO)) hb9 hblk9 (Nat.le_refl _) (Nat.le_of_lt hrb))).trans (FrR.set 1 (.slice A' M c') (Or.inl rfl) (Nat.le_of_lt hrb)))
                clear hbA hblk hsz9 hr9 hown9 hb9 hblk9
                refine hK.out _ _ trivial (fun hHeld => ?_)
                clear hK K
                try first | simp only [pS, List.set] | simp only [pN]
                refine tkH 9 ?_
                try first | simp only [pS, List.set] | simp only [pN]
                refine tkH 10 ?_
                try first | simp only [pS, List.set] | simp only [pN]
                refine tkH 11 ?_
                try first | simp only [pS, List.set] | simp only [pN]
                refine wpAnyH_ready (rs := [12]) (by kernel_rfl) (by simp) ?_
                refine AllReadyH.cons (o := ?_) ?_ (fun K hK => ?_) AllReadyH.nil
                rotate_left
                · (simp only [List.getElem?_toArray, List.getElem?_cons_succ, List.getElem?_cons_zero]; rfl)
                · go_simp
                  refine hK.out _ _ trivial (fun hHeld => ?_)
                  clear hK K
                  try first | simp only [pS, List.set] | simp only [pN]
                  refine wpAnyH_done (by kernel_rfl) ?_ _
                  obtain ⟨w10, hw10⟩ : ∃ x, w9.setCell ⟨rb, 1, none⟩ (.slice A' M c') = x := ⟨_, rfl⟩
                  rw [hw10] at HTK HFT ⊢
                  clear hw10 c9 f9
                  go_wp2_with fail
                  go_ret
                  exact ⟨rfl, HTK.out, HFT.out⟩
set_option maxRecDepth 100000 in
set_option maxHeartbeats 4000000 in
theorem sread_code (lo rb : Nat) (s : ByteArray) (w : World) (hs : s.size ≤ 19000) (hrb : rb < lo) (hlo : lo ≤ w.heap.size) (hT : Tab w) (hM : Mx w) {N : Nat} {vt vo : Value} {qs : List Tq} {q : Tq} {ts : List Tk} {t : Tk} {e : Ins} {ok : Bool} (h : RdO w lo rb N vt vo qs q ts t) (hne : s.data.toList ≠ endW3) (hX : readX s.data.toList = e) (hok : readOk s.data.toList = ok) (hn : qs.length ≤ 100000) (hcl : t.code.length ≤ 100000) :
    Calls Tryz.prog 24 #[.pointer (some ⟨rb, 0, none⟩), .string s] w fun e_ w' => e_ = .returned (.bool ok) ∧ (e.ok → ∃ vt' q', RdO w' lo rb N vt' vo qs q' ts (t.snoc e)) ∧ FrR lo rb w w' := by
  have hh := aread_any s w (by omega) hT hM
  obtain ⟨eo, ea, eb, ec, en⟩ := e
  rw [hX] at hh
  unfold insV at hh
  simp only at hh
  have HH := Lib.hid hh
  have HC := Lib.hid h
  obtain ⟨tb, ct, hvt, htb, -, -, hct⟩ := row_cells h.ht (List.getElem?_concat_length (l := qs) (a := q))
  have HTB := Lib.hid htb
  rw [List.length_append, List.length_singleton] at hvt hct
  obtain ⟨m, hm⟩ : ∃ x, qs.length = x := ⟨_, rfl⟩
  rw [hm] at hvt hct
  subst hvt
  have c0 : w.cell? ⟨rb, 0, none⟩ = some (.slice (some ⟨tb, 0, none⟩) (m + 1) ct) := (h.hr.cell 0).trans rfl
  have c2 : w.cell? ⟨rb, 2, none⟩ = some (.bool true) := (h.hr.cell 2).trans rfl
  have hst : (s.toList == [101, 110, 100]) = false := by rw [ByteArray.toList_eq, beq_eq_false_iff_ne]; exact hne
  have hml : m ≤ 100000 := by omega
  have HM := Lib.hid hm
  clear h hh hT hM hm htb hX
  go_enter Tryz.func24, Tryz.ntmps24
  go_wp2_with fail
  refine HH.out.mono ?_
  rintro ex w2 ⟨rfl, hb2⟩
  clear HH c0 c2
  have hC2 := HC.out.below hb2
  have c0 : w2.cell? ⟨rb, 0, none⟩ = some (.slice (some ⟨tb, 0, none⟩) (m + 1) ct) := (hC2.hr.cell 0).trans rfl
  have hr2 : rb < w2.heap.size := hC2.hr.lt
  have HF2 := Lib.hid (FrR.below (lo := lo) (rb := rb) hb2 hlo (Nat.le_of_lt hrb))
  have hl2 : lo ≤ w2.heap.size := Nat.le_trans hlo hb2.size
  have HC2 := Lib.hid hC2
  clear hC2 hb2 HC
  have e1 : IntKind.i64.wrap (m : Int) = (m : Int) := by simp [IntKind.wrap, IntKind.signed, IntKind.bits]; omega
  have e3 : (m : Int) < (m : Int) + 1 := by omega
  have e4 : (0 : Int) ≤ (m : Int) := by omega
  have e2 : m < m + 1 := Nat.lt_succ_self m
  go_wp2_with fail
  have hbx := RowB.new w2 #[.int .i64 eo, .int .i64 ea, .int .i64 eb, .int .i64 ec, .int .u32 en] tyI
  have hb3 := (Below.refl w2.heap.size w2).alloc (Nat.le_refl _) (.cells #[.int .i64 eo, .int .i64 ea, .int .i64 eb, .int .i64 ec, .int .u32 en] tyI)
  have hC3 := HC2.out.below hb3
  have hF3 := HF2.out.trans (FrR.below (lo := lo) (rb := rb) hb3 (by omega) (Nat.le_of_lt hrb))
  have hs3 : lo ≤ (w2.alloc (.cells #[.int .i64 eo, .int .i64 ea, .int .i64 eb, .int .i64 ec, .int .u32 en] tyI)).heap.size := by rw [World.size_alloc]; omega
  obtain ⟨w3, hw3⟩ : ∃ x, w2.alloc (.cells #[.int .i64 eo, .int .i64 ea, .int .i64 eb, .int .i64 ec, .int .u32 en] tyI) = x := ⟨_, rfl⟩
  obtain ⟨bx, hbx0⟩ : ∃ x, w2.heap.size = x := ⟨_, rfl⟩
  rw [hw3, hbx0] at hbx
  rw [hw3] at hC3 hF3 hs3
  rw [hw3, hbx0]
  clear hb3 hw3 c0
  have hdr := (Below.refl w3.heap.size w3).drew
  have hC4 := hC3.below hdr
  have hbx4 := hbx.kept hdr
  have hF4 := hF3.trans (FrR.below (lo := lo) (rb := rb) hdr hs3 (Nat.le_of_lt hrb))
  have hs4 : lo ≤ w3.drew.heap.size := Nat.le_trans hs3 hdr.size
  have hSd : (fun w' : World => w'.cell? ⟨rb, 0, none⟩ = some (.slice (some ⟨tb, 0, none⟩) (m + 1) ct)) w3.drew := (hC4.hr.cell 0).trans rfl
  refine wp_region_held_drew (S := fun w' : World => w'.cell? ⟨rb, 0, none⟩ = some (.slice (some ⟨tb, 0, none⟩) (m + 1) ct)) (by kernel_rfl) hSd (fun hHeld => ?_)
  generalize w3.drew = w4 at hC4 hbx4 hF4 hs4 hSd hHeld ⊢
  clear hdr hC3 hF3 hs3 hbx
  have hHeld : (fun w' : World => w'.cell? ⟨rb, 0, none⟩ = some (.slice (some ⟨tb, 0, none⟩) (m + 1) ct)) w4 := hHeld
  refine tkH 0 ?_
  try first | simp only [pS, List.set] | simp only [pN]
  refine tkH 1 ?_
  try first | simp only [pS, List.set] | simp only [pN]
  refine tkH 2 ?_
  try first | simp only [pS, List.set] | simp only [pN]
  refine tkH 3 ?_
  try first | simp only [pS, List.set] | simp only [pN]
  refine tkH 4 ?_
  try first | simp only [pS, List.set] | simp only [pN]
  refine tkH 5 ?_
  try first | simp only [pS, List.set] | simp only [pN]
  refine tkH 6 ?_
  try first | simp only [pS, List.set] | simp only [pN]
  refine tkH 7 ?_
  try first | simp only [pS, List.set] | simp only [pN]
  refine tkH 8 ?_
  try first | simp only [pS, List.set] | simp only [pN]
  refine tkH 9 ?_
  try first | simp only [pS, List.set] | simp only [pN]
  refine tkH 10 ?_
  try first | simp only [pS, List.set] | simp only [pN]
  refine tkH 11 ?_
  try first | simp only [pS, List.set] | simp only [pN]
  refine tkH 12 ?_
  try first | simp only [pS, List.set] | simp only [pN]
  refine tkH 13 ?_
  try first | simp only [pS, List.set] | simp only [pN]
  refine wpAnyH_done (by kernel_rfl) ?_ _
  clear hSd hHeld
  go_wp2_with fail
  refine wp_region_held_drew (S := (fun _ : World => True)) (by kernel_rfl) trivial (fun hHeld => ?_)
  skip
  have hdr := (Below.refl w4.heap.size w4).drew
  have hCz := hC4.below hdr
  have hbz := hbx4.kept hdr
  have hFz := hF4.trans (FrR.below (lo := lo) (rb := rb) hdr hs4 (Nat.le_of_lt hrb))
  have hsz : lo ≤ w4.drew.heap.size := Nat.le_trans hs4 hdr.size
  generalize w4.drew = wz at hCz hbz hFz hsz ⊢
  clear hdr hC4 hF4 hs4 hbx4
  have b0 := hbz.cell 0
  have b1 := hbz.cell 1
  have b2 := hbz.cell 2
  have b3 := hbz.cell 3
  have b4 := hbz.cell 4
  simp only [List.getElem?_toArray, List.getElem?_cons_zero, List.getElem?_cons_succ] at b0 b1 b2 b3 b4
  have HCz := Lib.hid hCz
  have HFz := Lib.hid hFz
  have hNz := hCz.hN
  have cz : wz.cell? ⟨tb, m * 7 + 6, none⟩ = some (.slice q.A q.n q.c) := (row_cell7 hCz.ht HTB.out HM.out).1
  have fz : wz.frozen? ⟨tb, m * 7 + 6, none⟩ = false := (row_cell7 hCz.ht HTB.out HM.out).2
  clear hCz hFz hbz
  refine tkH 0 ?_
  try first | simp only [pS, List.set] | simp only [pN]
  refine tkH 1 ?_
  try first | simp only [pS, List.set] | simp only [pN]
  refine tkH 2 ?_
  try first | simp only [pS, List.set] | simp only [pN]
  refine tkH 3 ?_
  try first | simp only [pS, List.set] | simp only [pN]
  refine wpAnyH_ready (rs := [4, 5]) (by kernel_rfl) (by simp) ?_
  refine AllReadyH.cons (o := ?_) ?_ (fun K hK => ?_) ?_
  rotate_left
  · (simp only [List.getElem?_toArray, List.getElem?_cons_succ, List.getElem?_cons_zero]; rfl)
  · go_simp
    refine hK.out _ _ trivial (fun hHeld => ?_)
    clear hK K
    try first | simp only [pS, List.set] | simp only [pN]
    refine wpAnyH_ready (rs := [5]) (by kernel_rfl) (by simp) ?_
    refine AllReadyH.cons (o := ?_) ?_ (fun K hK => ?_) AllReadyH.nil
    rotate_left
    · (simp only [List.getElem?_toArray, List.getElem?_cons_succ, List.getElem?_cons_zero]; rfl)
    · go_simp
      refine hK.out _ _ trivial (fun hHeld => ?_)
      clear hK K
      try first | simp only [pS, List.set] | simp only [pN]
      refine wpAnyH_ready (rs := [6]) (by kernel_rfl) (by simp) ?_
      refine AllReadyH.cons (o := ?_) ?_ (fun K hK => ?_) AllReadyH.nil
      rotate_left
      · (simp only [List.getElem?_toArray, List.getElem?_cons_succ, List.getElem?_cons_zero]; rfl)
      · go_simp
        have cA : (wz.alloc (.cells #[.int .i64 eo, .int .i64 ea, .int .i64 eb, .int .i64 ec, .int .u32 en] tyI)).cell? ⟨tb, m * 7 + 6, none⟩ = some (Value.slice q.A q.n q.c) := (World.cell?_alloc_lt wz _ _ (cell_lt cz)).trans cz
        clear cz
        refine hK.out _ _ trivial (fun hHeld => ?_)
        clear hK K
        try first | simp only [pS, List.set] | simp only [pN]
        refine wpAnyH_ready (rs := [7]) (by kernel_rfl) (by simp) ?_
        refine AllReadyH.cons (o := ?_) ?_ (fun K hK => ?_) AllReadyH.nil
        rotate_left
        · (simp only [List.getElem?_toArray, List.getElem?_cons_succ, List.getElem?_cons_zero]; rfl)
        · refine step_app2 (by rfl) (.tmp 49) (.tmp 51) 44 (by rfl) insTy N (HCz.out.hop.code.alloc _) (by rfl) (cells_new' wz [.int .i64 eo, .int .i64 ea, .int .i64 eb, .int .i64 ec, .int .u32 en] _ _ rfl) (by rfl) (by rfl) (by simp [Value.oneCell']) (by unfold maxLen; omega) (by omega) (by rw [World.size_alloc]; omega) ?_
          intro v' w9 hown9 hb9 hblk9 _
          obtain ⟨M, A', c', rfl⟩ : ∃ M A' c', v' = .slice A' M c' := (by obtain ⟨A', c', h⟩ := own_slice hown9; exact ⟨_, A', c', h⟩)
          have hbA := (Below.refl wz.heap.size wz).alloc (Nat.le_refl _) (.cells #[.int .i64 eo, .int .i64 ea, .int .i64 eb, .int .i64 ec, .int .u32 en] tyI)
          have hblk : ∀ k, k < wz.heap.size → some k ≠ (Value.slice q.A q.n q.c).ownBlock → w9.heap[k]? = wz.heap[k]? := fun k h1 h2 => (hblk9 k (by rw [World.size_alloc]; omega) h2).trans (hbA.block k h1)
          have hsz9 : wz.heap.size ≤ w9.heap.size := Nat.le_trans hbA.size hb9.size
          have ht9 := own_keepT HCz.out.ht (KeepT.app (ty := tyT) HCz.out.hop.code (by decide) hblk)
          have c9 : w9.cell? ⟨tb, m * 7 + 6, none⟩ = some (.slice q.A q.n q.c) := (row_cell7 ht9 HTB.out HM.out).1
          have f9 : w9.frozen? ⟨tb, m * 7 + 6, none⟩ = false := (row_cell7 ht9 HTB.out HM.out).2
          have HTK := Lib.hid (show (⟨eo, ea, eb, ec, en⟩ : Ins).ok → ∃ q', RdO (w9.setCell ⟨tb, m * 7 + 6, none⟩ (.slice A' M c')) lo rb N (.slice (some ⟨tb, 0, none⟩) (m + 1) ct) vo qs q' ts (t.snoc ⟨eo, ea, eb, ec, en⟩) from fun he => by
            have h9 := RdO.code HCz.out hrb HTB.out (Own.app hown9 rfl) hblk hsz9 he
            rw [HM.out] at h9
            exact ⟨_, h9⟩)
          have htl := (ht9.blk HTB.out).1
          have HFT := Lib.hid (((HFz.out.trans (FrR.below (lo := lo) (rb := rb) hbA hsz (Nat.le_of_lt hrb))).trans (FrR.app (HCz.out.hop.code.alloc (.cells #[.int .i64 eo, .int .i64 ea, .int .i64 eb, .int .i64 ec, .int .u32 en] tyI)) hb9 hblk9 HCz.out.hlo (Nat.le_of_lt hrb))).trans (FrR.set (m * 7 + 6) (.slice A' M c') (Or.inr htl) (Nat.le_of_lt hrb)))
          clear hbA hblk hsz9 ht9 hown9 hb9 hblk9 htl
          refine hK.out _ _ trivial (fun hHeld => ?_)
          clear hK K
          try first | simp only [pS, List.set] | simp only [pN]
          refine tkH 8 ?_
          try first | simp only [pS, List.set] | simp only [pN]
          refine tkH 9 ?_
          try first | simp only [pS, List.set] | simp only [pN]
          refine wpAnyH_ready (rs := [10]) (by kernel_rfl) (by simp) ?_
          refine AllReadyH.cons (o := ?_) ?_ (fun K hK => ?_) AllReadyH.nil
          rotate_left
          · (simp only [List.getElem?_toArray, List.getElem?_cons_succ, List.getElem?_cons_zero]; rfl)
          · go_simp
            refine hK.out _ _ trivial (fun hHeld => ?_)
            clear hK K
            try first | simp only [pS, List.set] | simp only [pN]
            refine wpAnyH_done (by kernel_rfl) ?_ _
            obtain ⟨w10, hw10⟩ : ∃ x, w9.setCell ⟨tb, m * 7 + 6, none⟩ (.slice A' M c') = x := ⟨_, rfl⟩
            rw [hw10] at HTK HFT ⊢
            clear hw10 c9 f9
            go_wp2_with fail
            go_ret
            exact ⟨rfl, fun he => by obtain ⟨q', h9⟩ := HTK.out he; exact ⟨_, _, h9⟩, HFT.out⟩
  · refine AllReadyH.cons (o := ?_) ?_ (fun K hK => ?_) AllReadyH.nil
    rotate_left
    · (simp only [List.getElem?_toArray, List.getElem?_cons_succ, List.getElem?_cons_zero]; rfl)
    · go_simp
      refine hK.out _ _ trivial (fun hHeld => ?_)
      clear hK K
      try first | simp only [pS, List.set] | simp only [pN]
      refine wpAnyH_ready (rs := [4, 6]) (by kernel_rfl) (by simp) ?_
      refine AllReadyH.cons (o := ?_) ?_ (fun K hK => ?_) ?_
      rotate_left
      · (simp only [List.getElem?_toArray, List.getElem?_cons_succ, List.getElem?_cons_zero]; rfl)
      · go_simp
        refine hK.out _ _ trivial (fun hHeld => ?_)
        clear hK K
        try first | simp only [pS, List.set] | simp only [pN]
        refine wpAnyH_ready (rs := [6]) (by kernel_rfl) (by simp) ?_
        refine AllReadyH.cons (o := ?_) ?_ (fun K hK => ?_) AllReadyH.nil
        rotate_left
        · (simp only [List.getElem?_toArray, List.getElem?_cons_succ, List.getElem?_cons_zero]; rfl)
        · go_simp
          have cA : (wz.alloc (.cells #[.int .i64 eo, .int .i64 ea, .int .i64 eb, .int .i64 ec, .int .u32 en] tyI)).cell? ⟨tb, m * 7 + 6, none⟩ = some (Value.slice q.A q.n q.c) := (World.cell?_alloc_lt wz _ _ (cell_lt cz)).trans cz
          clear cz
          refine hK.out _ _ trivial (fun hHeld => ?_)
          clear hK K
          try first | simp only [pS, List.set] | simp only [pN]
          refine wpAnyH_ready (rs := [7]) (by kernel_rfl) (by simp) ?_
          refine AllReadyH.cons (o := ?_) ?_ (fun K hK => ?_) AllReadyH.nil
          rotate_left
          · (simp only [List.getElem?_toArray, List.getElem?_cons_succ, List.getElem?_cons_zero]; rfl)
          · refine step_app2 (by rfl) (.tmp 49) (.tmp 51) 44 (by rfl) insTy N (HCz.out.hop.code.alloc _) (by rfl) (cells_new' wz [.int .i64 eo, .int .i64 ea, .int .i64 eb, .int .i64 ec, .int .u32 en] _ _ rfl) (by rfl) (by rfl) (by simp [Value.oneCell']) (by unfold maxLen; omega) (by omega) (by rw [World.size_alloc]; omega) ?_
            intro v' w9 hown9 hb9 hblk9 _
            obtain ⟨M, A', c', rfl⟩ : ∃ M A' c', v' = .slice A' M c' := (by obtain ⟨A', c', h⟩ := own_slice hown9; exact ⟨_, A', c', h⟩)
            have hbA := (Below.refl wz.heap.size wz).alloc (Nat.le_refl _) (.cells #[.int .i64 eo, .int .i64 ea, .int .i64 eb, .int .i64 ec, .int .u32 en] tyI)
            have hblk : ∀ k, k < wz.heap.size → some k ≠ (Value.slice q.A q.n q.c).ownBlock → w9.heap[k]? = wz.heap[k]? := fun k h1 h2 => (hblk9 k (by rw [World.size_alloc]; omega) h2).trans (hbA.block k h1)
            have hsz9 : wz.heap.size ≤ w9.heap.size := Nat.le_trans hbA.size hb9.size
            have ht9 := own_keepT HCz.out.ht (KeepT.app (ty := tyT) HCz.out.hop.code (by decide) hblk)
            have c9 : w9.cell? ⟨tb, m * 7 + 6, none⟩ = some (.slice q.A q.n q.c) := (row_cell7 ht9 HTB.out HM.out).1
            have f9 : w9.frozen? ⟨tb, m * 7 + 6, none⟩ = false := (row_cell7 ht9 HTB.out HM.out).2
            have HTK := Lib.hid (show (⟨eo, ea, eb, ec, en⟩ : Ins).ok → ∃ q', RdO (w9.setCell ⟨tb, m * 7 + 6, none⟩ (.slice A' M c')) lo rb N (.slice (some ⟨tb, 0, none⟩) (m + 1) ct) vo qs q' ts (t.snoc ⟨eo, ea, eb, ec, en⟩) from fun he => by
              have h9 := RdO.code HCz.out hrb HTB.out (Own.app hown9 rfl) hblk hsz9 he
              rw [HM.out] at h9
              exact ⟨_, h9⟩)
            have htl := (ht9.blk HTB.out).1
            have HFT := Lib.hid (((HFz.out.trans (FrR.below (lo := lo) (rb := rb) hbA hsz (Nat.le_of_lt hrb))).trans (FrR.app (HCz.out.hop.code.alloc (.cells #[.int .i64 eo, .int .i64 ea, .int .i64 eb, .int .i64 ec, .int .u32 en] tyI)) hb9 hblk9 HCz.out.hlo (Nat.le_of_lt hrb))).trans (FrR.set (m * 7 + 6) (.slice A' M c') (Or.inr htl) (Nat.le_of_lt hrb)))
            clear hbA hblk hsz9 ht9 hown9 hb9 hblk9 htl
            refine hK.out _ _ trivial (fun hHeld => ?_)
            clear hK K
            try first | simp only [pS, List.set] | simp only [pN]
            refine tkH 8 ?_
            try first | simp only [pS, List.set] | simp only [pN]
            refine tkH 9 ?_
            try first | simp only [pS, List.set] | simp only [pN]
            refine wpAnyH_ready (rs := [10]) (by kernel_rfl) (by simp) ?_
            refine AllReadyH.cons (o := ?_) ?_ (fun K hK => ?_) AllReadyH.nil
            rotate_left
            · (simp only [List.getElem?_toArray, List.getElem?_cons_succ, List.getElem?_cons_zero]; rfl)
            · go_simp
              refine hK.out _ _ trivial (fun hHeld => ?_)
              clear hK K
              try first | simp only [pS, List.set] | simp only [pN]
              refine wpAnyH_done (by kernel_rfl) ?_ _
              obtain ⟨w10, hw10⟩ : ∃ x, w9.setCell ⟨tb, m * 7 + 6, none⟩ (.slice A' M c') = x := ⟨_, rfl⟩
              rw [hw10] at HTK HFT ⊢
              clear hw10 c9 f9
              go_wp2_with fail
              go_ret
              exact ⟨rfl, fun he => by obtain ⟨q', h9⟩ := HTK.out he; exact ⟨_, _, h9⟩, HFT.out⟩
      · refine AllReadyH.cons (o := ?_) ?_ (fun K hK => ?_) AllReadyH.nil
        rotate_left
        · (simp only [List.getElem?_toArray, List.getElem?_cons_succ, List.getElem?_cons_zero]; rfl)
        · go_simp
          have cA : (wz.alloc (.cells #[.int .i64 eo, .int .i64 ea, .int .i64 eb, .int .i64 ec, .int .u32 en] tyI)).cell? ⟨tb, m * 7 + 6, none⟩ = some (Value.slice q.A q.n q.c) := (World.cell?_alloc_lt wz _ _ (cell_lt cz)).trans cz
          clear cz
          refine hK.out _ _ trivial (fun hHeld => ?_)
          clear hK K
          try first | simp only [pS, List.set] | simp only [pN]
          refine wpAnyH_ready (rs := [4]) (by kernel_rfl) (by simp) ?_
          refine AllReadyH.cons (o := ?_) ?_ (fun K hK => ?_) AllReadyH.nil
          rotate_left
          · (simp only [List.getElem?_toArray, List.getElem?_cons_succ, List.getElem?_cons_zero]; rfl)
          · go_simp
            refine hK.out _ _ trivial (fun hHeld => ?_)
            clear hK K
            try first | simp only [pS, List.set] | simp only [pN]
            refine wpAnyH_ready (rs := [7]) (by kernel_rfl) (by simp) ?_
            refine AllReadyH.cons (o := ?_) ?_ (fun K hK => ?_) AllReadyH.nil
            rotate_left
            · (simp only [List.getElem?_toArray, List.getElem?_cons_succ, List.getElem?_cons_zero]; rfl)
            · refine step_app2 (by rfl) (.tmp 49) (.tmp 51) 44 (by rfl) insTy N (HCz.out.hop.code.alloc _) (by rfl) (cells_new' wz [.int .i64 eo, .int .i64 ea, .int .i64 eb, .int .i64 ec, .int .u32 en] _ _ rfl) (by rfl) (by rfl) (by simp [Value.oneCell']) (by unfold maxLen; omega) (by omega) (by rw [World.size_alloc]; omega) ?_
              intro v' w9 hown9 hb9 hblk9 _
              obtain ⟨M, A', c', rfl⟩ : ∃ M A' c', v' = .slice A' M c' := (by obtain ⟨A', c', h⟩ := own_slice hown9; exact ⟨_, A', c', h⟩)
              have hbA := (Below.refl wz.heap.size wz).alloc (Nat.le_refl _) (.cells #[.int .i64 eo, .int .i64 ea, .int .i64 eb, .int .i64 ec, .int .u32 en] tyI)
              have hblk : ∀ k, k < wz.heap.size → some k ≠ (Value.slice q.A q.n q.c).ownBlock → w9.heap[k]? = wz.heap[k]? := fun k h1 h2 => (hblk9 k (by rw [World.size_alloc]; omega) h2).trans (hbA.block k h1)
              have hsz9 : wz.heap.size ≤ w9.heap.size := Nat.le_trans hbA.size hb9.size
              have ht9 := own_keepT HCz.out.ht (KeepT.app (ty := tyT) HCz.out.hop.code (by decide) hblk)
              have c9 : w9.cell? ⟨tb, m * 7 + 6, none⟩ = some (.slice q.A q.n q.c) := (row_cell7 ht9 HTB.out HM.out).1
              have f9 : w9.frozen? ⟨tb, m * 7 + 6, none⟩ = false := (row_cell7 ht9 HTB.out HM.out).2
              have HTK := Lib.hid (show (⟨eo, ea, eb, ec, en⟩ : Ins).ok → ∃ q', RdO (w9.setCell ⟨tb, m * 7 + 6, none⟩ (.slice A' M c')) lo rb N (.slice (some ⟨tb, 0, none⟩) (m + 1) ct) vo qs q' ts (t.snoc ⟨eo, ea, eb, ec, en⟩) from fun he => by
                have h9 := RdO.code HCz.out hrb HTB.out (Own.app hown9 rfl) hblk hsz9 he
                rw [HM.out] at h9
                exact ⟨_, h9⟩)
              have htl := (ht9.blk HTB.out).1
              have HFT := Lib.hid (((HFz.out.trans (FrR.below (lo := lo) (rb := rb) hbA hsz (Nat.le_of_lt hrb))).trans (FrR.app (HCz.out.hop.code.alloc (.cells #[.int .i64 eo, .int .i64 ea, .int .i64 eb, .int .i64 ec, .int .u32 en] tyI)) hb9 hblk9 HCz.out.hlo (Nat.le_of_lt hrb))).trans (FrR.set (m * 7 + 6) (.slice A' M c') (Or.inr htl) (Nat.le_of_lt hrb)))
              clear hbA hblk hsz9 ht9 hown9 hb9 hblk9 htl
              refine hK.out _ _ trivial (fun hHeld => ?_)
              clear hK K
              try first | simp only [pS, List.set] | simp only [pN]
              refine tkH 8 ?_
              try first | simp only [pS, List.set] | simp only [pN]
              refine tkH 9 ?_
              try first | simp only [pS, List.set] | simp only [pN]
              refine wpAnyH_ready (rs := [10]) (by kernel_rfl) (by simp) ?_
              refine AllReadyH.cons (o := ?_) ?_ (fun K hK => ?_) AllReadyH.nil
              rotate_left
              · (simp only [List.getElem?_toArray, List.getElem?_cons_succ, List.getElem?_cons_zero]; rfl)
              · go_simp
                refine hK.out _ _ trivial (fun hHeld => ?_)
                clear hK K
                try first | simp only [pS, List.set] | simp only [pN]
                refine wpAnyH_done (by kernel_rfl) ?_ _
                obtain ⟨w10, hw10⟩ : ∃ x, w9.setCell ⟨tb, m * 7 + 6, none⟩ (.slice A' M c') = x := ⟨_, rfl⟩
                rw [hw10] at HTK HFT ⊢
                clear hw10 c9 f9
                go_wp2_with fail
                go_ret
                exact ⟨rfl, fun he => by obtain ⟨q', h9⟩ := HTK.out he; exact ⟨_, _, h9⟩, HFT.out⟩

end Go.Proofs.YtfgmebjbibbpdaaGreatDoor

namespace Go.Proofs.YtfgmebjbibbpdaaGreatDoor
open Go.RowKit Go.Shelf
attribute [local go_sem] Oper.semAt_some

def keep1 (B : Nat) (W W' : World) : Prop := W'.heap[B]? = W.heap[B]?
def boxLenL (B : Nat) (W : World) : Nat := match W.cell? ⟨B, 0, none⟩ with
  | some (.string s) => s.size
  | _ => 0
theorem boxLenL_eq {B : Nat} {W : World} {s : ByteArray} (h : W.cell? ⟨B, 0, none⟩ = some (.string s)) : boxLenL B W = s.size := by simp [boxLenL, h]

set_option maxRecDepth 100000 in
set_option maxHeartbeats 2000000 in
theorem lines1_in (n : Nat) (hn : 1 ≤ n) (lb B : Nat) (s : ByteArray) (J Jx : List (List UInt8) → World → Prop) (W : World) (hJ : ∀ q, Calm B (J q)) (_hJx : ∀ q, Calm B (Jx q)) (hs63 : s.size ≤ 1000000)
    (hY : ∀ pre x W1, J pre W1 → pre ++ [x] <+: lns s.data.toList → YieldAt Fence.wide (n - 1) Tryz.prog lb #[.string ⟨x.toArray⟩] W1 fun e W' => (e = .returned (.bool true) ∧ J (pre ++ [x]) W' ∧ keep1 B W1 W') ∨ (e = .returned (.bool false) ∧ Jx (pre ++ [x]) W'))
    (b1 : Boxed W B 9 (.string s)) (h0 : J [] W) :
    CallsIn Fence.wide n Tryz.prog 41 #[.func (.yield lb) #[] #[], .pointer (some ⟨B, 0, none⟩)] W fun e W' => (∃ v, e = .returned v) ∧
      ((∃ ys, ys = lns s.data.toList ∧ J ys W') ∨ (∃ pre, pre <+: lns s.data.toList ∧ Jx pre W')) := by
  refine callsIn_of_wp Tryz.func41 rfl trivial ?_ rfl
  simp only [Tryz.ntmps41, List.size_toArray, List.length_cons, List.length_nil, Nat.reduceAdd, Nat.reduceSub, Array.replicate_succ, Array.replicate_zero, List.push_toArray, List.append_toArray, List.nil_append, List.cons_append]
  gi_wp2
  gi_loopw [3] (fun _ wr => ∃ (r : ByteArray) (pre : List (List UInt8)), r.size ≤ s.size ∧ lns s.data.toList = pre ++ lns r.data.toList ∧ Boxed wr B 9 (.string r) ∧ J pre wr)
    (fun _ wr => boxLenL B wr)
  case atStart => exact ⟨s, [], Nat.le_refl _, rfl, b1, h0⟩
  case round =>
    obtain ⟨r, pre, hrs, hpc, d1, hj⟩ := hrel
    have e1 := d1.cell
    have f1 := d1.frozen
    have hrl : r.data.toList.length = r.size := Array.length_toList
    by_cases hz : r.size = 0
    · have t1 : decide ((0 : Int) < (r.size : Int)) = false := by rw [decide_eq_false_iff_not]; omega
      have t1' : decide (0 < r.size) = false := by rw [decide_eq_false_iff_not]; omega
      have hl0 : lns r.data.toList = [] := by rw [List.eq_nil_of_length_eq_zero (by omega : r.data.toList.length = 0)]; rfl
      have hpc' := Lib.hid hpc
      have hl0' := Lib.hid hl0
      clear hpc hl0
      gi_wp2_with fail
      go_end0
      exact ⟨⟨_, rfl⟩, .inl ⟨_, rfl, by rw [hpc'.out, hl0'.out, List.append_nil]; exact hj⟩⟩
    · have t1 : decide ((0 : Int) < (r.size : Int)) = true := by rw [decide_eq_true_iff]; omega
      have t1' : decide (0 < r.size) = true := by rw [decide_eq_true_iff]; omega
      gi_wp2_with fail
      refine ⟨trivial, ?_⟩
      refine (callsIn_wide.2 (Tryz.strings_IndexByte r 10 wr)).mono ?_
      rintro e w2 ⟨rfl, rfl⟩
      rw [show (Int.toNat 10).toUInt8 = (10 : UInt8) from rfl]
      have hge := Lib.indexByte_ge r.data.toList 10
      by_cases hneg : Lib.indexByte r.data.toList 10 = -1
      · have hp1 := Lib.hid (lns_none r.data.toList (fun e => hz (by rw [← hrl, e]; rfl)) (Lib.indexByte_none hneg))
        rw [hneg]
        have hJ1 := (hJ pre).set w2 (.string ⟨#[]⟩) hj
        have d1' := d1.set (.string ⟨#[]⟩)
        obtain ⟨fn, tmps, assign, body, hy, hR⟩ := hY pre r.data.toList _ hJ1 (by rw [hpc, hp1.out]; exact List.prefix_rfl)
        rw [show (⟨r.data.toList.toArray⟩ : ByteArray) = r from by rw [Array.toArray_toList]] at hy
        have hpc' := Lib.hid hpc
        have hbl := Lib.hid (boxLenL_eq e1)
        clear hpc hneg hge hJ1
        gi_wp2_with fail
        refine hR.mono ?_
        rintro e3 W3 (⟨rfl, hJ3, hk3⟩ | ⟨rfl, hJx3⟩)
        · have g1 : Boxed W3 B 9 (.string ⟨#[]⟩) := hk3.trans d1'
          clear e1 f1
          gi_wp2_with fail
          go_roundw
          case rel => exact ⟨⟨#[]⟩, pre ++ [r.data.toList], Nat.zero_le _, by rw [hpc'.out, hp1.out]; simp [lns], g1, hJ3⟩
          case measure => rw [hbl.out, boxLenL_eq g1.cell]; show (0 : Nat) < _; omega
        · gi_wp2_with fail
          refine bodyPost_ret (results_none rfl _ _ _) rfl ?_
          exact ⟨⟨_, rfl⟩, .inr ⟨_, by rw [hpc'.out, hp1.out]; exact List.prefix_rfl, hJx3⟩⟩
      · obtain ⟨o, ho⟩ : ∃ o : Nat, Lib.indexByte r.data.toList 10 = o := ⟨(Lib.indexByte r.data.toList 10).toNat, by omega⟩
        obtain ⟨ho1, ho2⟩ := Lib.indexByte_some ho
        have hp1 := Lib.hid (lns_some _ o ho1 ho2)
        have hor : o < r.size := by rw [← hrl]; exact get_lt ho1
        rw [ho]
        clear hneg hge ho
        have e1' : IntKind.i64.wrap ((o : Int) + 1) = ((o + 1 : Nat) : Int) := by simp [IntKind.wrap, IntKind.signed, IntKind.bits]; omega
        have hJ1 : J pre (w2.setCell ⟨B, 0, none⟩ (.string (r.extract (o + 1) r.size))).drew := (hJ pre).drew _ 1 ((hJ pre).set w2 (.string (r.extract (o + 1) r.size)) hj)
        have d1' := d1.set (.string (r.extract (o + 1) r.size))
        obtain ⟨fn, tmps, assign, body, hy, hR⟩ := hY pre (r.data.toList.take (o + 1)) _ hJ1 (by rw [hpc, hp1.out]; exact ⟨lns (r.data.toList.drop (o + 1)), by simp⟩)
        rw [ext_take] at hy
        have hpc' := Lib.hid hpc
        have hbl := Lib.hid (boxLenL_eq e1)
        clear hpc hJ1 ho1 ho2
        gi_wp2_with fail
        gi_region
        gi_wp2_with fail
        refine hR.mono ?_
        rintro e3 W3 (⟨rfl, hJ3, hk3⟩ | ⟨rfl, hJx3⟩)
        · have g1 : Boxed W3 B 9 (.string (r.extract (o + 1) r.size)) := hk3.trans d1'
          clear e1 f1
          gi_wp2_with fail
          go_roundw
          case rel => exact ⟨_, pre ++ [r.data.toList.take (o + 1)], by rw [ByteArray.size_extract]; omega, by rw [hpc'.out, hp1.out, ext_drop]; simp, g1, hJ3⟩
          case measure => rw [hbl.out, boxLenL_eq g1.cell, ByteArray.size_extract]; omega
        · gi_wp2_with fail
          refine bodyPost_ret (results_none rfl _ _ _) rfl ?_
          exact ⟨⟨_, rfl⟩, .inr ⟨_, by rw [hpc'.out, hp1.out]; exact ⟨lns (r.data.toList.drop (o + 1)), by simp⟩, hJx3⟩⟩

/-- The contract of the iterator over s, whose captured cell is block B. -/
theorem lines_st (n : Nat) (hn : 1 ≤ n) (B : Nat) (s : ByteArray) (hs63 : s.size ≤ 1000000) (w : World) (b1 : Boxed w B 9 (.string s)) :
    SeqSt Fence.wide n Tryz.prog 41 #[.pointer (some ⟨B, 0, none⟩)] (fun x : List UInt8 => Value.string ⟨x.toArray⟩) (keep1 B) (fun ys => ys = lns s.data.toList) (fun pre => pre <+: lns s.data.toList)
      (fun pre x => pre ++ [x] <+: lns s.data.toList) B w :=
  fun lb J Jx W hW hJ hJx hY h0 => lines1_in n hn lb B s J Jx W hJ hJx hs63 hY ((hW.block B b1.lt).trans b1) h0

theorem linesSeq_any (s : ByteArray) (w : World) :
    Calls Tryz.prog 22 #[.string s] w fun e w' => ∃ B, B = w.heap.size ∧ e = .returned (.func (.func 41) #[] #[.pointer (some ⟨B, 0, none⟩)]) ∧ w.alloc (.cells #[.string s] 9) = w' := by
  go_enter Tryz.func22, Tryz.ntmps22
  go_wp2_with (first | go_in | fail)
  go_ret
  exact ⟨_, rfl, rfl, rfl⟩

end Go.Proofs.YtfgmebjbibbpdaaGreatDoor

namespace Go.Proofs.YtfgmebjbibbpdaaGreatDoor
open Go.RowKit

theorem readT_O {s : List UInt8} {t : Tk} (h : readTG s = some t) : readOG s = none := by
  cases ho : readOG s with
  | none => rfl
  | some o =>
    obtain ⟨_, h1, _⟩ := readTG_some h
    have h2 : objL o = s := by
      unfold readOG at ho
      split at ho
      · rename_i hc
        injection ho with ho
        subst ho
        exact hc.2.2.2.2
      · cases ho
    have h3 : headP t = objP o := by rw [← head_pcs, ← obj_pcs, h1, h2]
    have h4 : taskW = objW := by
      have := congrArg (fun l => l.headD []) h3
      exact this
    exact absurd h4 (by decide)
theorem sread_any (lo rb : Nat) (r : Rd) (s : ByteArray) (w : World) (hs : s.size ≤ 19000) (h : RdM w lo rb r) (hn : r.sy.ts.length ≤ 100000 ∧ r.sy.os.length ≤ 100000 ∧ ∀ t ∈ r.sy.ts, t.code.length ≤ 100000) (hT : Tab w) (hM : Mx w) :
    Calls Tryz.prog 24 #[.pointer (some ⟨rb, 0, none⟩), .string s] w (ReadR lo rb r s.data.toList w) := by
  obtain ⟨hrb, hlo, h⟩ := h
  obtain ⟨l, hl⟩ : ∃ l, s.data.toList = l := ⟨_, rfl⟩
  rcases h with ⟨hop, vt, vo, qs, ps, hC⟩ | ⟨hop, hos, N, vt, vo, qs, q, ts, t, hts, hO⟩
  · have hql : qs.length ≤ 100000 := by rw [hC.hts.1]; exact hn.1
    have hpl : ps.length ≤ 100000 := by rw [hC.hos.1]; exact hn.2.1
    cases ht : readTG s.data.toList with
    | some t =>
      by_cases hos : r.sy.os = []
      · refine (sread_head lo rb s w hs hrb hlo hT hM hC hos ht hql).mono ?_
        rintro e w' ⟨rfl, ⟨N, vt', q, hO⟩, hF⟩
        have hst : step r s.data.toList = some ⟨⟨r.sy.ts ++ [t], []⟩, true⟩ := by
          unfold step
          rw [hop, if_neg (by decide), ht]
          exact if_pos hos
        exact ⟨by rw [hst]; rfl, fun r' hr => by
          rw [hst] at hr
          have hr := (Option.some.inj hr).symm
          subst hr
          exact ⟨hrb, Nat.le_trans hlo hF.rest.size, .inr ⟨rfl, rfl, N, vt', vo, qs, q, r.sy.ts, t, rfl, hO⟩⟩, hF⟩
      · refine (sread_obj lo rb s w hs hrb hlo hT hM hC (fun _ => hos) hpl).mono ?_
        rintro e w' ⟨rfl, _, hF⟩
        have hst : step r s.data.toList = none := by
          unfold step
          rw [hop, if_neg (by decide), ht]
          exact if_neg hos
        exact ⟨by rw [hst, readT_O ht]; rfl, (fun r' hr => by rw [hst] at hr; cases hr), hF⟩
    | none =>
      refine (sread_obj lo rb s w hs hrb hlo hT hM hC (fun hh => by rw [ht] at hh; cases hh) hpl).mono ?_
      rintro e w' ⟨rfl, hg, hF⟩
      cases ho : readOG s.data.toList with
      | none =>
        have hst : step r s.data.toList = none := by
          unfold step
          rw [hop, if_neg (by decide), ht]
          show (match readOG s.data.toList with | some o => some _ | none => none) = none
          rw [ho]
        exact ⟨by rw [hst]; rfl, (fun r' hr => by rw [hst] at hr; cases hr), hF⟩
      | some o =>
        have hst : step r s.data.toList = some ⟨⟨r.sy.ts, r.sy.os ++ [o]⟩, false⟩ := by
          unfold step
          rw [hop, if_neg (by decide), ht]
          show (match readOG s.data.toList with | some o => some _ | none => none) = _
          rw [ho]
        obtain ⟨vo', ps', hC'⟩ := hg o ho
        exact ⟨by rw [hst]; rfl, fun r' hr => by
          rw [hst] at hr
          have hr := (Option.some.inj hr).symm
          subst hr
          exact ⟨hrb, Nat.le_trans hlo hF.rest.size, .inl ⟨rfl, vt, vo', qs, ps', hC'⟩⟩, hF⟩
  · have hql : qs.length ≤ 100000 := by
      have := hn.1
      rw [hts, List.length_append] at this
      rw [hO.hts.1]
      omega
    have hcl : t.code.length ≤ 100000 := hn.2.2 t (by rw [hts]; simp)
    by_cases he : s.data.toList = endW3
    · refine (sread_end lo rb s w hs hrb hlo hT hM hO he).mono ?_
      rintro e w' ⟨rfl, hC, hF⟩
      have hst : step r s.data.toList = some ⟨r.sy, false⟩ := by
        unfold step
        rw [hop, if_pos rfl, if_pos he]
      exact ⟨by rw [hst]; rfl, fun r' hr => by
        rw [hst] at hr
        have hr := (Option.some.inj hr).symm
        subst hr
        refine ⟨hrb, Nat.le_trans hlo hF.rest.size, .inl ⟨rfl, vt, vo, qs ++ [q], [], ?_⟩⟩
        have e1 : r.sy = ⟨ts ++ [t], []⟩ := by rw [← hts, ← hos]
        show RdC w' lo rb vt vo (qs ++ [q]) [] r.sy
        rw [e1]
        exact hC, hF⟩
    · refine (sread_code lo rb s w hs hrb hlo hT hM hO he rfl rfl hql hcl).mono ?_
      rintro e w' ⟨rfl, hg, hF⟩
      rcases read_cases s.data.toList with ⟨ev, h1, h2, h3, h4⟩ | ⟨h1, h3, h4⟩
      · have hst : step r s.data.toList = some ⟨⟨addCode r.sy.ts ev, r.sy.os⟩, true⟩ := by
          unfold step
          rw [hop, if_pos rfl, if_neg he, h1]
        rw [h2] at hg
        obtain ⟨vt', q', hO'⟩ := hg h4.2
        exact ⟨by rw [hst, h3]; rfl, fun r' hr => by
          rw [hst] at hr
          have hr := (Option.some.inj hr).symm
          subst hr
          exact ⟨hrb, Nat.le_trans hlo hF.rest.size, .inr ⟨rfl, hos, N, vt', vo, qs, q', ts, t.snoc ev, by rw [hts, addCode_snoc], hO'⟩⟩, hF⟩
      · have hst : step r s.data.toList = none := by
          unfold step
          rw [hop, if_pos rfl, if_neg he, h1]
        exact ⟨by rw [hst, h3]; rfl, (fun r' hr => by rw [hst] at hr; cases hr), hF⟩

theorem RdM.keep {w w' : World} {lo rb : Nat} {r : Rd} (h : RdM w lo rb r) (hr : w'.heap[rb]? = w.heap[rb]?) (hk : ∀ (b : Nat) (cur : Array Value) (ty : TypeId), lo ≤ b → w.heap[b]? = some (.cells cur ty (0, 0)) → w'.heap[b]? = some (.cells cur ty (0, 0))) (hs : w.heap.size ≤ w'.heap.size) : RdM w' lo rb r := by
  obtain ⟨hrb, hlo, h⟩ := h
  refine ⟨hrb, Nat.le_trans hlo hs, ?_⟩
  rcases h with ⟨hop, vt, vo, qs, ps, hC⟩ | ⟨hop, hos, N, vt, vo, qs, q, ts, t, hts, hO⟩
  · exact .inl ⟨hop, vt, vo, qs, ps, hC.keep hr (fun ty b cur hl hb => hk b cur ty hl hb) hs⟩
  · exact .inr ⟨hop, hos, N, vt, vo, qs, q, ts, t, hts, hO.keep hr (fun ty b cur hl hb => hk b cur ty hl hb) hs⟩
theorem RdM.lt {w : World} {lo rb : Nat} {r : Rd} (h : RdM w lo rb r) : rb < w.heap.size := Nat.lt_of_lt_of_le h.1 h.2.1
theorem RdM.below {w w' : World} {lo rb : Nat} {r : Rd} (h : RdM w lo rb r) (hb : Below w.heap.size w w') : RdM w' lo rb r :=
  h.keep (hb.block rb h.lt) (fun b _ _ _ hh => (hb.block b (Array.getElem?_eq_some_iff.1 hh).1).trans hh) hb.size
/-- A cell of another block below lo is set. -/
theorem RdM.set {w : World} {lo rb : Nat} {r : Rd} (h : RdM w lo rb r) {b : Nat} (hb : b < lo) (hne : b ≠ rb) (j : Nat) (v : Value) : RdM (w.setCell ⟨b, j, none⟩ v) lo rb r :=
  h.keep (heap_set w b j v rb (fun e => hne e.symm)) (fun b' cur ty hl hh => (heap_set w b j v b' (by omega)).trans hh) (by rw [size_set]; exact Nat.le_refl _)
theorem Calm.rdM {B lo rb : Nat} (hB : B < lo) (hne : B ≠ rb) (r : Rd) : Calm B (fun W => RdM W lo rb r) :=
  ⟨fun W o h => h.below ((Below.refl W.heap.size W).alloc (Nat.le_refl _) o), fun _ v h => h.set hB hne 0 v, fun _ _ h => h.keep rfl (fun _ _ _ _ hh => hh) (Nat.le_refl _)⟩
theorem putO_ne {W : World} {l : Nat} {o : Obj} (o' : Obj) (hl : W.heap[l]? = some o) (ho : o.isCells = false) {b : Nat} {cur : Array Value} {ty : TypeId} {fz : Nat × Nat} (hb : W.heap[b]? = some (.cells cur ty fz)) : (W.putObj l o').heap[b]? = some (.cells cur ty fz) := by
  have hne : b ≠ l := fun e => by
    subst e
    rw [hl] at hb
    cases hb
    cases ho
  exact (World.putObj_heap_other hne).trans hb
theorem RowB.putO {W : World} {b l : Nat} {arr : Array Value} {t : TypeId} {o : Obj} (o' : Obj) (h : RowB W b arr t) (hl : W.heap[l]? = some o) (ho : o.isCells = false) : RowB (W.putObj l o') b arr t := putO_ne o' hl ho h
theorem Calm.row {B l : Nat} (hne : l ≠ B) (arr : Array Value) (t : TypeId) : Calm B (fun W => RowB W l arr t) := Calm.at hne _
theorem RdM.putO {W : World} {lo rb l : Nat} {r : Rd} {o : Obj} (o' : Obj) (h : RdM W lo rb r) (hl : W.heap[l]? = some o) (ho : o.isCells = false) : RdM (W.putObj l o') lo rb r := by
  refine h.keep ?_ (fun b cur ty _ hh => putO_ne o' hl ho hh) (below_putO (H := 0) o' (Nat.zero_le _) hl).size
  have : ∃ cur ty, W.heap[rb]? = some (.cells cur ty (0, 0)) := by
    rcases h.2.2 with ⟨_, vt, vo, qs, ps, hC⟩ | ⟨_, _, N, vt, vo, qs, q, ts, t, _, hO⟩
    · exact ⟨_, _, hC.hr⟩
    · exact ⟨_, _, hO.hr⟩
  obtain ⟨cur, ty, hh⟩ := this
  rw [hh]
  exact putO_ne o' hl ho hh

end Go.Proofs.YtfgmebjbibbpdaaGreatDoor
