/- Texts joined: asm.operands: an instruction's operands, as its line has them. Records: slices of words. strconv.FormatUint at base 10: a number's decimal numeral. record.Show: a record's text. asm.Line: an instruction's line. Sources: a line's words and numbers. Sources: a line's numbers; its text. -/
import Derived.Test.YtfgmebjbibbpdaaGreatDoorZs1
import Derived.Deep.RegionHeld3
import Derived.Test.YtfgmebjbibbpdaaGreatDoorShelf
import Derived.Lib.Walk
import Derived.Lib.ItoaMem
import Derived.Lib.ItoaLen
namespace Go.Proofs.YtfgmebjbibbpdaaGreatDoor
open Go.RowKit

def opCells (p : List UInt8 × Int) : List Value := [.string ⟨p.1.toArray⟩, .int .u32 p.2]
def opE : Enc (List UInt8 × Int) := ⟨opCells, 2, fun _ => rfl, fun x u hu => by
  simp only [opCells, List.mem_cons, List.not_mem_nil, or_false] at hu
  rcases hu with rfl | rfl <;> rfl, by omega⟩

theorem reg_any (z : Int) (w : World) (h : 0 ≤ z ∧ z < 4294967296) : Calls Tryz.prog 80 #[.int .i64 z] w fun e w' => e = .returned (.agg #[.string ⟨#[114]⟩, .int .u32 z]) ∧ Below w.heap.size w w' := by
  have hz : IntKind.u32.wrap z = z := wrap_u32 h.1 h.2
  go_enter Tryz.func80, Tryz.ntmps80
  go_wp2_with fail
  refine bodyPost_ret (v := .agg #[.string ⟨#[114]⟩, .int .u32 z]) (by simp [results, go_sem]) rfl ?_
  exact ⟨rfl, (Below.refl _ w).alloc (Nat.le_refl _) _⟩

def OpSt (w2 : World) (n : Nat) (a b c m : Int) (w' : World) : Prop :=
  Below w2.heap.size w2 w' ∧ w'.cell? ⟨n, 1, none⟩ = some (.int .i64 a) ∧ w'.cell? ⟨n, 2, none⟩ = some (.int .i64 b) ∧ w'.cell? ⟨n, 3, none⟩ = some (.int .i64 c) ∧ w'.cell? ⟨n + 1, 0, none⟩ = some (.string ⟨#[]⟩) ∧ w'.cell? ⟨n + 1, 1, none⟩ = some (.int .u32 m)
theorem OpSt.below {w2 w w' : World} {n : Nat} {a b c m : Int} (h : OpSt w2 n a b c m w) (hb : Below w.heap.size w w') : OpSt w2 n a b c m w' := by
  obtain ⟨h1, h2, h3, h4, h5, h6⟩ := h
  refine ⟨h1.trans (hb.mono h1.size), ?_, ?_, ?_, ?_, ?_⟩
  · exact (hb.cell (p := ⟨n, 1, none⟩) (cell_lt h2)).trans h2
  · exact (hb.cell (p := ⟨n, 2, none⟩) (cell_lt h3)).trans h3
  · exact (hb.cell (p := ⟨n, 3, none⟩) (cell_lt h4)).trans h4
  · exact (hb.cell (p := ⟨n + 1, 0, none⟩) (cell_lt h5)).trans h5
  · exact (hb.cell (p := ⟨n + 1, 1, none⟩) (cell_lt h6)).trans h6
theorem OpSt.drew {w2 w : World} {n : Nat} {a b c m : Int} (h : OpSt w2 n a b c m w) : OpSt w2 n a b c m w.drew := h.below (Below.refl _ w).drew
theorem OpSt.alloc {w2 w : World} {n : Nat} {a b c m : Int} (h : OpSt w2 n a b c m w) (o : Obj) : OpSt w2 n a b c m (w.alloc o) := h.below ((Below.refl _ w).alloc (Nat.le_refl _) o)
theorem opSt_start (w : World) (op a b c m : Int) : OpSt ((w.alloc (.cells #[.int .i64 op, .int .i64 a, .int .i64 b, .int .i64 c, .int .u32 m] 73)).alloc (.cells #[.string ⟨#[]⟩, .int .u32 m] 110)) w.heap.size a b c m ((w.alloc (.cells #[.int .i64 op, .int .i64 a, .int .i64 b, .int .i64 c, .int .u32 m] 73)).alloc (.cells #[.string ⟨#[]⟩, .int .u32 m] 110)) := by
  refine ⟨Below.refl _ _, ?_, ?_, ?_, ?_, ?_⟩ <;> simp

/-- What operands gives. -/
def OpsR (w : World) (l : List (List UInt8 × Int)) (r : Ending) (w' : World) : Prop := ∃ A, r = .returned (.slice A l.length l.length) ∧ (SlOf opE w' w'.heap.size A l ∧ ∀ p, A = some p → w.heap.size ≤ p.block) ∧ Below w.heap.size w w'
theorem OpsR.new {w w1 : World} {l : List (List UInt8 × Int)} {cs : Array Value} {t : TypeId} (hb : Below w.heap.size w w1) (hc : cs.toList = opE.all l) : OpsR w l (.returned (.slice (some ⟨w1.heap.size, 0, none⟩) l.length l.length)) (w1.alloc (.cells cs t)) :=
  ⟨_, rfl, ⟨by simpa using SlOf.new w1 cs t l hc, fun p hp => by cases hp; exact hb.size⟩, hb.alloc hb.size _⟩
theorem OpsR.new2 {w w1 : World} {N : Nat} {l : List (List UInt8 × Int)} {cs : Array Value} {t : TypeId} (hb : Below w.heap.size w w1) (hN : w1.heap.size = N) (hc : cs.toList = opE.all l) : OpsR w l (.returned (.slice (some ⟨N, 0, none⟩) l.length l.length)) (w1.alloc (.cells cs t)) := by
  subst hN
  exact OpsR.new hb hc

set_option maxRecDepth 100000 in
set_option maxHeartbeats 2000000 in
theorem operands_set (a m : Int) (w : World) (ha : 0 ≤ a ∧ a < 8) (_hm : 0 ≤ m ∧ m < 4294967296) : Calls Tryz.prog 59 #[.agg #[.int .i64 1, .int .i64 a, .int .i64 0, .int .i64 0, .int .u32 m]] w (OpsR w [([114], a), ([], m)]) := by
  have hS0 := opSt_start w (1) (a) (0) (0) (m)
  have hB0 := ((Below.refl _ w).alloc (Nat.le_refl _) (.cells #[.int .i64 (1), .int .i64 (a), .int .i64 (0), .int .i64 (0), .int .u32 (m)] 73)).alloc (by simp) (.cells #[.string ⟨#[]⟩, .int .u32 (m)] 110)
  have hB0' := Lib.hid hB0
  have hS0' := Lib.hid hS0
  clear hB0 hS0
  go_enter Tryz.func59, Tryz.ntmps59
  go_wp2_with fail
  have hB0 := hB0'.out
  have hS0 := hS0'.out
  obtain ⟨w2, hw2⟩ : ∃ x, (w.alloc (.cells #[.int .i64 (1), .int .i64 (a), .int .i64 (0), .int .i64 (0), .int .u32 (m)] 73)).alloc (.cells #[.string ⟨#[]⟩, .int .u32 (m)] 110) = x := ⟨_, rfl⟩
  obtain ⟨n, hn⟩ : ∃ n, w.heap.size = n := ⟨_, rfl⟩
  rw [hw2] at hB0 hS0 ⊢
  rw [hn] at hS0
  simp only [hn]
  clear hw2 hB0' hS0'
  have hB0' := Lib.hid hB0
  clear hB0
  have hSd := hS0.drew
  obtain ⟨s1, s2, s3, s4, s5, s6⟩ := hS0
  go_region_held3 (fun w' => Below w2.heap.size w2 w' ∧ w'.cell? ⟨n, 1, none⟩ = some (.int .i64 (a)) ∧ w'.cell? ⟨n, 2, none⟩ = some (.int .i64 (0)) ∧ w'.cell? ⟨n, 3, none⟩ = some (.int .i64 (0)) ∧ w'.cell? ⟨n + 1, 0, none⟩ = some (.string ⟨#[]⟩) ∧ w'.cell? ⟨n + 1, 1, none⟩ = some (.int .u32 (m)))
    (first | exact hSd | assumption | exact OpSt.alloc (w2 := w2) (n := n) (a := a) (b := 0) (c := 0) (m := m) (by assumption) _)
    (first
      | (go_at_call 80; refine (reg_any _ _ (by omega)).mono ?_; rintro e wx ⟨rfl, hbx⟩; have hSx := OpSt.below (w2 := w2) (n := n) (a := a) (b := 0) (c := 0) (m := m) (by assumption) hbx))
  all_goals
    go_wp2_with fail
    go_ret
    rw [← hn] at hSx
    exact OpsR.new (l := [([114], a), ([], m)]) (hB0'.out.trans (hSx.1.mono hB0'.out.size)) rfl

set_option maxRecDepth 100000 in
set_option maxHeartbeats 2000000 in
theorem operands_zero (a m : Int) (w : World) (ha : 0 ≤ a ∧ a < 8) (_hm : 0 ≤ m ∧ m < 4294967296) : Calls Tryz.prog 59 #[.agg #[.int .i64 15, .int .i64 a, .int .i64 0, .int .i64 0, .int .u32 m]] w (OpsR w [([114], a), ([], m)]) := by
  have hS0 := opSt_start w (15) (a) (0) (0) (m)
  have hB0 := ((Below.refl _ w).alloc (Nat.le_refl _) (.cells #[.int .i64 (15), .int .i64 (a), .int .i64 (0), .int .i64 (0), .int .u32 (m)] 73)).alloc (by simp) (.cells #[.string ⟨#[]⟩, .int .u32 (m)] 110)
  have hB0' := Lib.hid hB0
  have hS0' := Lib.hid hS0
  clear hB0 hS0
  go_enter Tryz.func59, Tryz.ntmps59
  go_wp2_with fail
  have hB0 := hB0'.out
  have hS0 := hS0'.out
  obtain ⟨w2, hw2⟩ : ∃ x, (w.alloc (.cells #[.int .i64 (15), .int .i64 (a), .int .i64 (0), .int .i64 (0), .int .u32 (m)] 73)).alloc (.cells #[.string ⟨#[]⟩, .int .u32 (m)] 110) = x := ⟨_, rfl⟩
  obtain ⟨n, hn⟩ : ∃ n, w.heap.size = n := ⟨_, rfl⟩
  rw [hw2] at hB0 hS0 ⊢
  rw [hn] at hS0
  simp only [hn]
  clear hw2 hB0' hS0'
  have hB0' := Lib.hid hB0
  clear hB0
  have hSd := hS0.drew
  obtain ⟨s1, s2, s3, s4, s5, s6⟩ := hS0
  go_region_held3 (fun w' => Below w2.heap.size w2 w' ∧ w'.cell? ⟨n, 1, none⟩ = some (.int .i64 (a)) ∧ w'.cell? ⟨n, 2, none⟩ = some (.int .i64 (0)) ∧ w'.cell? ⟨n, 3, none⟩ = some (.int .i64 (0)) ∧ w'.cell? ⟨n + 1, 0, none⟩ = some (.string ⟨#[]⟩) ∧ w'.cell? ⟨n + 1, 1, none⟩ = some (.int .u32 (m)))
    (first | exact hSd | assumption | exact OpSt.alloc (w2 := w2) (n := n) (a := a) (b := 0) (c := 0) (m := m) (by assumption) _)
    (first
      | (go_at_call 80; refine (reg_any _ _ (by omega)).mono ?_; rintro e wx ⟨rfl, hbx⟩; have hSx := OpSt.below (w2 := w2) (n := n) (a := a) (b := 0) (c := 0) (m := m) (by assumption) hbx))
  all_goals
    go_wp2_with fail
    go_ret
    rw [← hn] at hSx
    exact OpsR.new (l := [([114], a), ([], m)]) (hB0'.out.trans (hSx.1.mono hB0'.out.size)) rfl

set_option maxRecDepth 100000 in
set_option maxHeartbeats 2000000 in
theorem operands_move (a b m : Int) (w : World) (ha : 0 ≤ a ∧ a < 8) (hb : 0 ≤ b ∧ b < 8) (_hm : 0 ≤ m ∧ m < 4294967296) : Calls Tryz.prog 59 #[.agg #[.int .i64 2, .int .i64 a, .int .i64 b, .int .i64 0, .int .u32 m]] w (OpsR w [([114], a), ([114], b)]) := by
  have hS0 := opSt_start w (2) (a) (b) (0) (m)
  have hB0 := ((Below.refl _ w).alloc (Nat.le_refl _) (.cells #[.int .i64 (2), .int .i64 (a), .int .i64 (b), .int .i64 (0), .int .u32 (m)] 73)).alloc (by simp) (.cells #[.string ⟨#[]⟩, .int .u32 (m)] 110)
  have hB0' := Lib.hid hB0
  have hS0' := Lib.hid hS0
  clear hB0 hS0
  go_enter Tryz.func59, Tryz.ntmps59
  go_wp2_with fail
  have hB0 := hB0'.out
  have hS0 := hS0'.out
  obtain ⟨w2, hw2⟩ : ∃ x, (w.alloc (.cells #[.int .i64 (2), .int .i64 (a), .int .i64 (b), .int .i64 (0), .int .u32 (m)] 73)).alloc (.cells #[.string ⟨#[]⟩, .int .u32 (m)] 110) = x := ⟨_, rfl⟩
  obtain ⟨n, hn⟩ : ∃ n, w.heap.size = n := ⟨_, rfl⟩
  rw [hw2] at hB0 hS0 ⊢
  rw [hn] at hS0
  simp only [hn]
  clear hw2 hB0' hS0'
  have hB0' := Lib.hid hB0
  clear hB0
  have hSd := hS0.drew
  obtain ⟨s1, s2, s3, s4, s5, s6⟩ := hS0
  go_region_held3 (fun w' => Below w2.heap.size w2 w' ∧ w'.cell? ⟨n, 1, none⟩ = some (.int .i64 (a)) ∧ w'.cell? ⟨n, 2, none⟩ = some (.int .i64 (b)) ∧ w'.cell? ⟨n, 3, none⟩ = some (.int .i64 (0)) ∧ w'.cell? ⟨n + 1, 0, none⟩ = some (.string ⟨#[]⟩) ∧ w'.cell? ⟨n + 1, 1, none⟩ = some (.int .u32 (m)))
    (first | exact hSd | assumption | exact OpSt.alloc (w2 := w2) (n := n) (a := a) (b := b) (c := 0) (m := m) (by assumption) _)
    (first
      | (go_at_call 80; refine (reg_any _ _ (by omega)).mono ?_; rintro e wx ⟨rfl, hbx⟩; have hSx := OpSt.below (w2 := w2) (n := n) (a := a) (b := b) (c := 0) (m := m) (by assumption) hbx))
  all_goals
    go_wp2_with fail
    go_ret
    rw [← hn] at hSx
    exact OpsR.new (l := [([114], a), ([114], b)]) (hB0'.out.trans (hSx.1.mono hB0'.out.size)) rfl

set_option maxRecDepth 100000 in
set_option maxHeartbeats 2000000 in
theorem operands_three (op a b c m : Int) (w : World) (ho : 3 ≤ op ∧ op ≤ 10) (ha : 0 ≤ a ∧ a < 8) (hb : 0 ≤ b ∧ b < 8) (hc : 0 ≤ c ∧ c < 8) (_hm : 0 ≤ m ∧ m < 4294967296) : Calls Tryz.prog 59 #[.agg #[.int .i64 op, .int .i64 a, .int .i64 b, .int .i64 c, .int .u32 m]] w (OpsR w [([114], a), ([114], b), ([114], c)]) := by
  have x1 : (op == 1) = false := by rw [beq_eq_false_iff_ne]; omega
  have x2 : (op == 2) = false := by rw [beq_eq_false_iff_ne]; omega
  have x3 : decide (3 ≤ op) = true := decide_eq_true ho.1
  have x4 : decide (op ≤ 10) = true := decide_eq_true ho.2
  have hS0 := opSt_start w (op) (a) (b) (c) (m)
  have hB0 := ((Below.refl _ w).alloc (Nat.le_refl _) (.cells #[.int .i64 (op), .int .i64 (a), .int .i64 (b), .int .i64 (c), .int .u32 (m)] 73)).alloc (by simp) (.cells #[.string ⟨#[]⟩, .int .u32 (m)] 110)
  have hB0' := Lib.hid hB0
  have hS0' := Lib.hid hS0
  clear hB0 hS0
  go_enter Tryz.func59, Tryz.ntmps59
  go_wp2_with fail
  have hB0 := hB0'.out
  have hS0 := hS0'.out
  obtain ⟨w2, hw2⟩ : ∃ x, (w.alloc (.cells #[.int .i64 (op), .int .i64 (a), .int .i64 (b), .int .i64 (c), .int .u32 (m)] 73)).alloc (.cells #[.string ⟨#[]⟩, .int .u32 (m)] 110) = x := ⟨_, rfl⟩
  obtain ⟨n, hn⟩ : ∃ n, w.heap.size = n := ⟨_, rfl⟩
  rw [hw2] at hB0 hS0 ⊢
  rw [hn] at hS0
  simp only [hn]
  clear hw2 hB0' hS0'
  have hB0' := Lib.hid hB0
  clear hB0
  have hSd := hS0.drew
  obtain ⟨s1, s2, s3, s4, s5, s6⟩ := hS0
  go_region_held3 (fun w' => Below w2.heap.size w2 w' ∧ w'.cell? ⟨n, 1, none⟩ = some (.int .i64 (a)) ∧ w'.cell? ⟨n, 2, none⟩ = some (.int .i64 (b)) ∧ w'.cell? ⟨n, 3, none⟩ = some (.int .i64 (c)) ∧ w'.cell? ⟨n + 1, 0, none⟩ = some (.string ⟨#[]⟩) ∧ w'.cell? ⟨n + 1, 1, none⟩ = some (.int .u32 (m)))
    (first | exact hSd | assumption | exact OpSt.alloc (w2 := w2) (n := n) (a := a) (b := b) (c := c) (m := m) (by assumption) _)
    (first
      | (go_at_call 80; refine (reg_any _ _ (by omega)).mono ?_; rintro e wx ⟨rfl, hbx⟩; have hSx := OpSt.below (w2 := w2) (n := n) (a := a) (b := b) (c := c) (m := m) (by assumption) hbx))
  all_goals
    go_wp2_with fail
    go_ret
    rw [← hn] at hSx
    exact OpsR.new (l := [([114], a), ([114], b), ([114], c)]) (hB0'.out.trans (hSx.1.mono hB0'.out.size)) rfl

set_option maxRecDepth 100000 in
set_option maxHeartbeats 2000000 in
theorem operands_load (a b m : Int) (w : World) (ha : 0 ≤ a ∧ a < 8) (hb : 0 ≤ b ∧ b < 8) (_hm : 0 ≤ m ∧ m < 4294967296) : Calls Tryz.prog 59 #[.agg #[.int .i64 11, .int .i64 a, .int .i64 b, .int .i64 0, .int .u32 m]] w (OpsR w [([114], a), ([114], b), ([], m)]) := by
  have hS0 := opSt_start w (11) (a) (b) (0) (m)
  have hB0 := ((Below.refl _ w).alloc (Nat.le_refl _) (.cells #[.int .i64 (11), .int .i64 (a), .int .i64 (b), .int .i64 (0), .int .u32 (m)] 73)).alloc (by simp) (.cells #[.string ⟨#[]⟩, .int .u32 (m)] 110)
  have hB0' := Lib.hid hB0
  have hS0' := Lib.hid hS0
  clear hB0 hS0
  go_enter Tryz.func59, Tryz.ntmps59
  go_wp2_with fail
  have hB0 := hB0'.out
  have hS0 := hS0'.out
  obtain ⟨w2, hw2⟩ : ∃ x, (w.alloc (.cells #[.int .i64 (11), .int .i64 (a), .int .i64 (b), .int .i64 (0), .int .u32 (m)] 73)).alloc (.cells #[.string ⟨#[]⟩, .int .u32 (m)] 110) = x := ⟨_, rfl⟩
  obtain ⟨n, hn⟩ : ∃ n, w.heap.size = n := ⟨_, rfl⟩
  rw [hw2] at hB0 hS0 ⊢
  rw [hn] at hS0
  simp only [hn]
  clear hw2 hB0' hS0'
  have hB0' := Lib.hid hB0
  clear hB0
  have hSd := hS0.drew
  obtain ⟨s1, s2, s3, s4, s5, s6⟩ := hS0
  go_region_held3 (fun w' => Below w2.heap.size w2 w' ∧ w'.cell? ⟨n, 1, none⟩ = some (.int .i64 (a)) ∧ w'.cell? ⟨n, 2, none⟩ = some (.int .i64 (b)) ∧ w'.cell? ⟨n, 3, none⟩ = some (.int .i64 (0)) ∧ w'.cell? ⟨n + 1, 0, none⟩ = some (.string ⟨#[]⟩) ∧ w'.cell? ⟨n + 1, 1, none⟩ = some (.int .u32 (m)))
    (first | exact hSd | assumption | exact OpSt.alloc (w2 := w2) (n := n) (a := a) (b := b) (c := 0) (m := m) (by assumption) _)
    (first
      | (go_at_call 80; refine (reg_any _ _ (by omega)).mono ?_; rintro e wx ⟨rfl, hbx⟩; have hSx := OpSt.below (w2 := w2) (n := n) (a := a) (b := b) (c := 0) (m := m) (by assumption) hbx))
  all_goals
    go_wp2_with fail
    go_ret
    rw [← hn] at hSx
    exact OpsR.new (l := [([114], a), ([114], b), ([], m)]) (hB0'.out.trans (hSx.1.mono hB0'.out.size)) rfl

set_option maxRecDepth 100000 in
set_option maxHeartbeats 2000000 in
theorem operands_store (a b m : Int) (w : World) (ha : 0 ≤ a ∧ a < 8) (hb : 0 ≤ b ∧ b < 8) (_hm : 0 ≤ m ∧ m < 4294967296) : Calls Tryz.prog 59 #[.agg #[.int .i64 12, .int .i64 a, .int .i64 b, .int .i64 0, .int .u32 m]] w (OpsR w [([114], a), ([114], b), ([], m)]) := by
  have hS0 := opSt_start w (12) (a) (b) (0) (m)
  have hB0 := ((Below.refl _ w).alloc (Nat.le_refl _) (.cells #[.int .i64 (12), .int .i64 (a), .int .i64 (b), .int .i64 (0), .int .u32 (m)] 73)).alloc (by simp) (.cells #[.string ⟨#[]⟩, .int .u32 (m)] 110)
  have hB0' := Lib.hid hB0
  have hS0' := Lib.hid hS0
  clear hB0 hS0
  go_enter Tryz.func59, Tryz.ntmps59
  go_wp2_with fail
  have hB0 := hB0'.out
  have hS0 := hS0'.out
  obtain ⟨w2, hw2⟩ : ∃ x, (w.alloc (.cells #[.int .i64 (12), .int .i64 (a), .int .i64 (b), .int .i64 (0), .int .u32 (m)] 73)).alloc (.cells #[.string ⟨#[]⟩, .int .u32 (m)] 110) = x := ⟨_, rfl⟩
  obtain ⟨n, hn⟩ : ∃ n, w.heap.size = n := ⟨_, rfl⟩
  rw [hw2] at hB0 hS0 ⊢
  rw [hn] at hS0
  simp only [hn]
  clear hw2 hB0' hS0'
  have hB0' := Lib.hid hB0
  clear hB0
  have hSd := hS0.drew
  obtain ⟨s1, s2, s3, s4, s5, s6⟩ := hS0
  go_region_held3 (fun w' => Below w2.heap.size w2 w' ∧ w'.cell? ⟨n, 1, none⟩ = some (.int .i64 (a)) ∧ w'.cell? ⟨n, 2, none⟩ = some (.int .i64 (b)) ∧ w'.cell? ⟨n, 3, none⟩ = some (.int .i64 (0)) ∧ w'.cell? ⟨n + 1, 0, none⟩ = some (.string ⟨#[]⟩) ∧ w'.cell? ⟨n + 1, 1, none⟩ = some (.int .u32 (m)))
    (first | exact hSd | assumption | exact OpSt.alloc (w2 := w2) (n := n) (a := a) (b := b) (c := 0) (m := m) (by assumption) _)
    (first
      | (go_at_call 80; refine (reg_any _ _ (by omega)).mono ?_; rintro e wx ⟨rfl, hbx⟩; have hSx := OpSt.below (w2 := w2) (n := n) (a := a) (b := b) (c := 0) (m := m) (by assumption) hbx))
  all_goals
    go_wp2_with fail
    go_ret
    rw [← hn] at hSx
    exact OpsR.new (l := [([114], a), ([114], b), ([], m)]) (hB0'.out.trans (hSx.1.mono hB0'.out.size)) rfl

set_option maxRecDepth 100000 in
set_option maxHeartbeats 2000000 in
theorem operands_cas (a b c m : Int) (w : World) (ha : 0 ≤ a ∧ a < 8) (hb : 0 ≤ b ∧ b < 8) (hc : 0 ≤ c ∧ c < 8) (_hm : 0 ≤ m ∧ m < 4294967296) : Calls Tryz.prog 59 #[.agg #[.int .i64 13, .int .i64 a, .int .i64 b, .int .i64 c, .int .u32 m]] w (OpsR w [([114], a), ([114], b), ([114], c), ([], m)]) := by
  have hS0 := opSt_start w (13) (a) (b) (c) (m)
  have hB0 := ((Below.refl _ w).alloc (Nat.le_refl _) (.cells #[.int .i64 (13), .int .i64 (a), .int .i64 (b), .int .i64 (c), .int .u32 (m)] 73)).alloc (by simp) (.cells #[.string ⟨#[]⟩, .int .u32 (m)] 110)
  have hB0' := Lib.hid hB0
  have hS0' := Lib.hid hS0
  clear hB0 hS0
  go_enter Tryz.func59, Tryz.ntmps59
  go_wp2_with fail
  have hB0 := hB0'.out
  have hS0 := hS0'.out
  obtain ⟨w2, hw2⟩ : ∃ x, (w.alloc (.cells #[.int .i64 (13), .int .i64 (a), .int .i64 (b), .int .i64 (c), .int .u32 (m)] 73)).alloc (.cells #[.string ⟨#[]⟩, .int .u32 (m)] 110) = x := ⟨_, rfl⟩
  obtain ⟨n, hn⟩ : ∃ n, w.heap.size = n := ⟨_, rfl⟩
  rw [hw2] at hB0 hS0 ⊢
  rw [hn] at hS0
  simp only [hn]
  clear hw2 hB0' hS0'
  have hB0' := Lib.hid hB0
  clear hB0
  have hSd := hS0.drew
  obtain ⟨s1, s2, s3, s4, s5, s6⟩ := hS0
  go_region_held3 (fun w' => Below w2.heap.size w2 w' ∧ w'.cell? ⟨n, 1, none⟩ = some (.int .i64 (a)) ∧ w'.cell? ⟨n, 2, none⟩ = some (.int .i64 (b)) ∧ w'.cell? ⟨n, 3, none⟩ = some (.int .i64 (c)) ∧ w'.cell? ⟨n + 1, 0, none⟩ = some (.string ⟨#[]⟩) ∧ w'.cell? ⟨n + 1, 1, none⟩ = some (.int .u32 (m)))
    (first | exact hSd | assumption | exact OpSt.alloc (w2 := w2) (n := n) (a := a) (b := b) (c := c) (m := m) (by assumption) _)
    (first
      | (go_at_call 80; refine (reg_any _ _ (by omega)).mono ?_; rintro e wx ⟨rfl, hbx⟩; have hSx := OpSt.below (w2 := w2) (n := n) (a := a) (b := b) (c := c) (m := m) (by assumption) hbx))
  all_goals
    go_wp2_with fail
    go_ret
    rw [← hn] at hSx
    exact OpsR.new (l := [([114], a), ([114], b), ([114], c), ([], m)]) (hB0'.out.trans (hSx.1.mono hB0'.out.size)) rfl

set_option maxRecDepth 100000 in
set_option maxHeartbeats 2000000 in
theorem operands_jump (m : Int) (w : World) (_hm : 0 ≤ m ∧ m < 4294967296) : Calls Tryz.prog 59 #[.agg #[.int .i64 14, .int .i64 0, .int .i64 0, .int .i64 0, .int .u32 m]] w (OpsR w [([], m)]) := by
  have hS0 := opSt_start w (14) (0) (0) (0) (m)
  have hB0 := ((Below.refl _ w).alloc (Nat.le_refl _) (.cells #[.int .i64 (14), .int .i64 (0), .int .i64 (0), .int .i64 (0), .int .u32 (m)] 73)).alloc (by simp) (.cells #[.string ⟨#[]⟩, .int .u32 (m)] 110)
  have hB0' := Lib.hid hB0
  have hS0' := Lib.hid hS0
  clear hB0 hS0
  go_enter Tryz.func59, Tryz.ntmps59
  go_wp2_with fail
  go_ret
  exact OpsR.new2 (l := [([], m)]) (cs := #[.string ⟨#[]⟩, .int .u32 m]) hB0'.out (by simp) rfl

set_option maxRecDepth 100000 in
set_option maxHeartbeats 2000000 in
theorem operands_back (c m : Int) (w : World) (hc : 1 ≤ c ∧ c ≤ 255) (_hm : 0 ≤ m ∧ m < 4294967296) : Calls Tryz.prog 59 #[.agg #[.int .i64 16, .int .i64 0, .int .i64 0, .int .i64 c, .int .u32 m]] w (OpsR w [([], m), ([], c)]) := by
  have hcw : IntKind.u32.wrap c = c := wrap_u32 (by omega) (by omega)
  have hS0 := opSt_start w (16) (0) (0) (c) (m)
  have hB0 := ((Below.refl _ w).alloc (Nat.le_refl _) (.cells #[.int .i64 (16), .int .i64 (0), .int .i64 (0), .int .i64 (c), .int .u32 (m)] 73)).alloc (by simp) (.cells #[.string ⟨#[]⟩, .int .u32 (m)] 110)
  have hB0' := Lib.hid hB0
  have hS0' := Lib.hid hS0
  clear hB0 hS0
  go_enter Tryz.func59, Tryz.ntmps59
  go_wp2_with fail
  go_ret
  exact OpsR.new2 (l := [([], m), ([], c)]) (cs := #[.string ⟨#[]⟩, .int .u32 m, .string ⟨#[]⟩, .int .u32 c]) hB0'.out (by simp) rfl

set_option maxRecDepth 100000 in
set_option maxHeartbeats 2000000 in
theorem operands_call (op a b m : Int) (w : World) (ho : 17 ≤ op ∧ op ≤ 20) (ha : 0 ≤ a ∧ a < 8) (hb : 0 ≤ b ∧ b < 8) (_hm : 0 ≤ m ∧ m < 4294967296) : Calls Tryz.prog 59 #[.agg #[.int .i64 op, .int .i64 a, .int .i64 b, .int .i64 0, .int .u32 m]] w (OpsR w [([114], a), ([111], b), ([], m)]) := by
  have x1 : (op == 1) = false := by rw [beq_eq_false_iff_ne]; omega
  have x2 : (op == 2) = false := by rw [beq_eq_false_iff_ne]; omega
  have x11 : (op == 11) = false := by rw [beq_eq_false_iff_ne]; omega
  have x12 : (op == 12) = false := by rw [beq_eq_false_iff_ne]; omega
  have x13 : (op == 13) = false := by rw [beq_eq_false_iff_ne]; omega
  have x14 : (op == 14) = false := by rw [beq_eq_false_iff_ne]; omega
  have x15 : (op == 15) = false := by rw [beq_eq_false_iff_ne]; omega
  have x16 : (op == 16) = false := by rw [beq_eq_false_iff_ne]; omega
  have y1 : decide (3 ≤ op) = true := decide_eq_true (by omega)
  have y2 : decide (op ≤ 10) = false := decide_eq_false (by omega)
  have y3 : decide (17 ≤ op) = true := decide_eq_true ho.1
  have y4 : decide (op ≤ 20) = true := decide_eq_true ho.2
  have hbw : IntKind.u32.wrap b = b := wrap_u32 (by omega) (by omega)
  have hS0 := opSt_start w (op) (a) (b) (0) (m)
  have hB0 := ((Below.refl _ w).alloc (Nat.le_refl _) (.cells #[.int .i64 (op), .int .i64 (a), .int .i64 (b), .int .i64 (0), .int .u32 (m)] 73)).alloc (by simp) (.cells #[.string ⟨#[]⟩, .int .u32 (m)] 110)
  have hB0' := Lib.hid hB0
  have hS0' := Lib.hid hS0
  clear hB0 hS0
  go_enter Tryz.func59, Tryz.ntmps59
  go_wp2_with fail
  have hB0 := hB0'.out
  have hS0 := hS0'.out
  obtain ⟨w2, hw2⟩ : ∃ x, (w.alloc (.cells #[.int .i64 (op), .int .i64 (a), .int .i64 (b), .int .i64 (0), .int .u32 (m)] 73)).alloc (.cells #[.string ⟨#[]⟩, .int .u32 (m)] 110) = x := ⟨_, rfl⟩
  obtain ⟨n, hn⟩ : ∃ n, w.heap.size = n := ⟨_, rfl⟩
  rw [hw2] at hB0 hS0 ⊢
  rw [hn] at hS0
  simp only [hn]
  clear hw2 hB0' hS0'
  have hB0' := Lib.hid hB0
  clear hB0
  have hSd := hS0.drew
  obtain ⟨s1, s2, s3, s4, s5, s6⟩ := hS0
  go_region_held3 (fun w' => Below w2.heap.size w2 w' ∧ w'.cell? ⟨n, 1, none⟩ = some (.int .i64 (a)) ∧ w'.cell? ⟨n, 2, none⟩ = some (.int .i64 (b)) ∧ w'.cell? ⟨n, 3, none⟩ = some (.int .i64 (0)) ∧ w'.cell? ⟨n + 1, 0, none⟩ = some (.string ⟨#[]⟩) ∧ w'.cell? ⟨n + 1, 1, none⟩ = some (.int .u32 (m)))
    (first | exact hSd | assumption | exact OpSt.alloc (w2 := w2) (n := n) (a := a) (b := b) (c := 0) (m := m) (by assumption) _)
    (first
      | (go_at_call 80; refine (reg_any _ _ (by omega)).mono ?_; rintro e wx ⟨rfl, hbx⟩; have hSx := OpSt.below (w2 := w2) (n := n) (a := a) (b := b) (c := 0) (m := m) (by assumption) hbx))
  all_goals
    go_wp2_with fail
    go_ret
    rw [← hn] at hSx
    exact OpsR.new (l := [([114], a), ([111], b), ([], m)]) (hB0'.out.trans (hSx.1.mono hB0'.out.size)) rfl

theorem operands_none (op : Int) (w : World) (ho : op = 0 ∨ op = 21) : Calls Tryz.prog 59 #[.agg #[.int .i64 op, .int .i64 0, .int .i64 0, .int .i64 0, .int .u32 0]] w (OpsR w []) := by
  rcases ho with rfl | rfl
  all_goals
    go_enter Tryz.func59, Tryz.ntmps59
    go_wp2_with fail
    go_ret
    exact ⟨none, rfl, ⟨SlOf.nil, fun p hp => by cases hp⟩, ((Below.refl _ w).alloc (Nat.le_refl _) _).alloc (by simp) _⟩

theorem operands_any {i : Ins} (h : insB i = true) (hn : i.ok) (w : World) : Calls Tryz.prog 59 #[insV i] w (OpsR w (opsL i)) := by
  have hm := u32_of hn.2.2.2.2
  cases shaped h hn with
  | none op ho => exact (show opsL ⟨op, 0, 0, 0, 0⟩ = [] by rcases ho with rfl | rfl <;> rfl) ▸ operands_none op w ho
  | set op a n ho ha =>
    rcases ho with rfl | rfl
    · exact operands_set a n w ha hm
    · exact operands_zero a n w ha hm
  | move a b ha hb => exact operands_move a b 0 w ha hb hm
  | three op a b c ho ha hb hc =>
    have : opsL ⟨op, a, b, c, 0⟩ = [([114], a), ([114], b), ([114], c)] := by
      unfold opsL
      rw [if_neg (show ¬ op = 1 by omega), if_neg (show ¬ op = 2 by omega), if_pos ho]
    rw [this]
    exact operands_three op a b c 0 w ho ha hb hc hm
  | load op a b n ho ha hb =>
    rcases ho with rfl | rfl
    · exact operands_load a b n w ha hb hm
    · exact operands_store a b n w ha hb hm
  | cas a b c n ha hb hc => exact operands_cas a b c n w ha hb hc hm
  | jump n => exact operands_jump n w hm
  | back c n hc => exact operands_back c n w hc hm
  | call op a b n ho ha hb =>
    have : opsL ⟨op, a, b, 0, n⟩ = [([114], a), ([111], b), ([], n)] := by
      unfold opsL
      rw [if_neg (show ¬ op = 1 by omega), if_neg (show ¬ op = 2 by omega), if_neg (show ¬ (3 ≤ op ∧ op ≤ 10) by omega), if_neg (show ¬ (op = 11 ∨ op = 12) by omega), if_neg (show ¬ op = 13 by omega), if_neg (show ¬ op = 14 by omega), if_neg (show ¬ op = 15 by omega), if_neg (show ¬ op = 16 by omega), if_pos ho]
    rw [this]
    exact operands_call op a b n w ho ha hb hm

end Go.Proofs.YtfgmebjbibbpdaaGreatDoor

namespace Go.Proofs.YtfgmebjbibbpdaaGreatDoor
open Go.RowKit

def Ws (w : World) (B : Nat) (A : Option Addr) (l : List Int) : Prop := SlOf (ints .u32) w B A l ∧ ∀ z ∈ l, (Lit.int .u32 z).wf = true
theorem Ws.below {w w' : World} {B B' : Nat} {A : Option Addr} {l : List Int} (h : Ws w B A l) (hb : Below B w w') (hB : B ≤ B') : Ws w' B' A l := ⟨h.1.below hb hB, h.2⟩
theorem Ws.get {w : World} {B : Nat} {A : Option Addr} {l : List Int} (h : Ws w B A l) {k : Nat} {z : Int} (hk : l[k]? = some z) : ((Lit.int .u32 z).wf = true ∧ 0 ≤ z ∧ z < 4294967296) ∧ ∃ b off, A = some ⟨b, off, none⟩ ∧ b < B ∧
    w.cell? ⟨b, off + k, none⟩ = some (.int .u32 z) := by
  obtain ⟨b, off, hA, hlt, hc⟩ := h.1 k z hk
  have hw := h.2 z (List.mem_of_getElem? hk)
  have := hc 0 _ rfl
  refine ⟨⟨hw, ?_⟩, b, off, hA, hlt, by simpa [ints, Enc.of1] using this⟩
  simp [Lit.wf, IntKind.min, IntKind.max, IntKind.signed, IntKind.bits] at hw
  omega

theorem u32Ty : ElemTy Tryz.prog 39 38 1 4 := ElemTy.of (z := .int .u32 0) Tryz.underlying39 (by kernel_rfl) rfl (by omega)

def OwnW (base : Nat) (w : World) (v : Value) (l : List Int) : Prop := Own (ints .u32) 38 base w v l ∧ ∀ z ∈ l, (Lit.int .u32 z).wf = true
theorem OwnW.ws {base : Nat} {w : World} {v : Value} {l : List Int} (h : OwnW base w v l) : ∃ A c, v = .slice A l.length c ∧ (l.length ≤ c ∧ c ≤ maxLen) ∧ Ws w w.heap.size A l := by
  obtain ⟨A, c, h1, h2, _, h3⟩ := h.1.sl
  exact ⟨A, c, h1, ⟨h2.1, h2.2⟩, h3, h.2⟩
theorem OwnW.below {base B : Nat} {w w' : World} {v : Value} {l : List Int} (h : OwnW base w v l) (hb : Below B w w') (hB : w.heap.size ≤ B) : OwnW base w' v l := ⟨h.1.below hb hB, h.2⟩


end Go.Proofs.YtfgmebjbibbpdaaGreatDoor

namespace Go.Proofs.YtfgmebjbibbpdaaGreatDoor
open Go.RowKit Go.Sort Go.Lib

theorem holds_zero0 (w : World) (T : TypeId) (nd : Nat) (hs : nd ≤ 24) : Holds (fun (b : UInt8) => Value.int .u8 (b.toNat : Int)) (w.alloc (.cells zeros24 T)) w.heap.size 0 (Array.replicate nd (0 : UInt8)) := fun j hj => by
  have hj' : j < nd := by simpa using hj
  refine ⟨?_, World.frozen?_alloc_new _ _ _ _⟩
  rw [World.cell?_alloc_new, zeros24_at _ (by omega), getElem!_pos _ j hj]
  simp
theorem fin_pos0 (w : World) (o : Obj) (dk : Array UInt8) (k : Nat) : ∃ os, (putRow (fun (b : UInt8) => Value.int .u8 (b.toNat : Int)) (w.alloc o) w.heap.size 0 dk).drewN k = grow (w.drewN k) os := by
  rw [alloc_eq_grow]
  obtain ⟨os', _, e⟩ := putRow_grow_new (fun (b : UInt8) => Value.int .u8 (b.toNat : Int)) w #[o] w.heap.size 0 dk (Nat.le_refl _)
  exact ⟨os', by rw [e]; rfl⟩

set_option maxHeartbeats 2000000 in
set_option maxRecDepth 100000 in
theorem ifmtU_any (u : Nat) (hu64 : u < 18446744073709551616) (w : World) (htab : Lib.TabIs Tryz.prog w "internal/strconv.uint64pow10" .u64 Lib.pow10Tab) :
    Calls Tryz.prog 96 #[.int .u64 u, .int .i64 10] w fun e w' => e = .returned (.string (numS u)) ∧ Below w.heap.size w w' := by
  by_cases hs : u < 100
  · go_enter Tryz.func96, Tryz.ntmps96
    go_wp2_with fail
    refine (Tryz.internal_strconv_small u hs _).mono ?_
    rintro e w' ⟨rfl, rfl⟩
    go_wp2_with fail
    go_ret
    exact ⟨rfl, Below.refl _ _⟩
  · have hu1 : 1 ≤ u := by omega
    have hnd20 : Lib.nDigits u ≤ 20 := by have := Lib.numDigits_eq u hu1 hu64; split at this <;> omega
    have hal : Tryz.prog.arrayLen 148 = 24 := by kernel_rfl
    have hsl1 : ∀ W, (Instr.sliceAt 148 (.pointer (some ⟨w.heap.size, 0, none⟩)) none (some (.int .i64 (Lib.nDigits u : Int))) none).run Tryz.prog W = .ok (.slice (some ⟨w.heap.size, 0, none⟩) (Lib.nDigits u) 24) W := fun W => by
      rw [run_sliceAt_array_h W 148 ⟨w.heap.size, 0, none⟩ (by simp [Program.arrayLen, Program.elem, Tryz.underlying148]) .i64 (Lib.nDigits u : Int) (by omega) (by rw [hal]; omega)]
      go_simp
    have hH0 := holds_zero0 w 148 (Lib.nDigits u) (by omega)
    have hfmt := Tryz.internal_strconv_formatBase10 w.heap.size 0 24 u (Array.replicate (Lib.nDigits u) 0) (w.alloc (.cells Lib.zeros24 148)) hH0 (by rw [Array.size_replicate]; exact Lib.lt_pow_nDigits u) hu64 (by rw [Array.size_replicate]; omega)
    rw [Array.size_replicate] at hfmt
    have HH0 := Lib.hid hH0
    clear hH0 hal
    go_enter Tryz.func96, Tryz.ntmps96
    go_wp2_with fail
    refine (Tryz.internal_strconv_numDigits u hu1 hu64 _ (Lib.tabIs_alloc htab _)).mono ?_
    rintro e w' ⟨rfl, rfl⟩
    go_wp2_with fail
    refine hfmt.mono ?_
    rintro e w' ⟨rfl, k, v', dk, rfl, hF⟩
    have hcv : (convert 48 9 (.slice (some ⟨w.heap.size, 0, none⟩) (Lib.nDigits u) 24)).run Tryz.prog ((putRow (fun (b : UInt8) => Value.int .u8 (b.toNat : Int)) (w.alloc (.cells Lib.zeros24 148)) w.heap.size 0 dk).drewN k) = .ok (.string ⟨(Lib.decDigits u).toArray⟩) ((putRow (fun (b : UInt8) => Value.int .u8 (b.toNat : Int)) (w.alloc (.cells Lib.zeros24 148)) w.heap.size 0 dk).drewN k) := by
      have h := run_convert_bytes_back (P := Tryz.prog) ((putRow (fun (b : UInt8) => Value.int .u8 (b.toNat : Int)) (w.alloc (.cells Lib.zeros24 148)) w.heap.size 0 dk).drewN k) 48 9 5 ⟨w.heap.size, 0, none⟩ 24 (Lib.decDigits u) Tryz.underlying48 Tryz.underlying5 Tryz.underlying9 (fun j hj => by
        rw [Lib.row_is_numeral hF j hj, Lib.add_plain, World.cell?_drewN]
        exact cell?_putRow (fun (b : UInt8) => Value.int .u8 (b.toNat : Int)) _ w.heap.size 0 _ dk HH0.out (by rw [hF.size, Array.size_replicate]) j (by rw [hF.size]; rw [Lib.decDigits_length] at hj; exact hj))
      rw [Lib.decDigits_length] at h
      exact h
    go_wp2
    go_ret
    obtain ⟨os, eo⟩ := fin_pos0 w (.cells Lib.zeros24 148) dk k
    refine ⟨rfl, ?_⟩
    rw [eo]
    exact lt_grow k os (Nat.le_refl _)

theorem fmtU_any (u : Nat) (hu64 : u < 18446744073709551616) (w : World) (htab : Lib.TabIs Tryz.prog w "internal/strconv.uint64pow10" .u64 Lib.pow10Tab) :
    Calls Tryz.prog 81 #[.int .u64 u, .int .i64 10] w fun e w' => e = .returned (.string (numS u)) ∧ Below w.heap.size w w' := by
  go_enter Tryz.func81, Tryz.ntmps81
  go_wp2_with fail
  refine (ifmtU_any u hu64 _ htab).mono ?_
  rintro e w' ⟨rfl, hb⟩
  go_wp2_with fail
  go_ret
  exact ⟨rfl, hb⟩

end Go.Proofs.YtfgmebjbibbpdaaGreatDoor

namespace Go.Proofs.YtfgmebjbibbpdaaGreatDoor
open Go.RowKit

def wordS (z : Int) : ByteArray := numS z.toNat
def showL (l : List Int) : List UInt8 := Lib.join (l.map fun z => Lib.decDigits z.toNat) [32]
def showS (l : List Int) : ByteArray := ⟨(showL l).toArray⟩
theorem digits_le (z : Int) (h : z < 4294967296) : (Lib.decDigits z.toNat).length ≤ 20 := by
  rw [Lib.decDigits_length]
  exact Lib.nDigits_le20 _ (by omega)
theorem lens_le {xs : List (List UInt8)} {m : Nat} (h : ∀ x ∈ xs, x.length ≤ m) : Lib.lens xs ≤ xs.length * m := by
  induction xs with
  | nil => simp [Lib.lens]
  | cons x xs ih =>
    have h1 := h x (by simp)
    have h2 := ih (fun y hy => h y (by simp [hy]))
    have : Lib.lens (x :: xs) = x.length + Lib.lens xs := by simp [Lib.lens]
    rw [this, List.length_cons, Nat.add_mul]; omega
theorem join_le {xs : List (List UInt8)} {m : Nat} (h : ∀ x ∈ xs, x.length ≤ m) : (Lib.join xs [32]).length ≤ xs.length * (m + 1) := by
  cases xs with
  | nil => simp [Lib.join]
  | cons x xs =>
    have h1 := h x (by simp)
    have h2 := lens_le (fun y hy => h y (by simp [hy]) : ∀ y ∈ xs, y.length ≤ m)
    rw [Lib.join_cons, List.length_append, Lib.joinTail_length]
    simp only [List.length_cons, List.length_nil]
    have e1 : (xs.length + 1) * (m + 1) = xs.length * m + xs.length + (m + 1) := by rw [Nat.add_mul, Nat.mul_add]; omega
    rw [e1]
    omega

theorem strs_all (l : List ByteArray) : strs.all l = l.map Value.string := of1_all _ _ l

set_option maxHeartbeats 400000 in
theorem show_any (A : Option Addr) (c : Nat) (l : List Int) (w : World) (hn : l.length ≤ 60) (hl : Ws w w.heap.size A l) (hT : Tab w) :
    Calls Tryz.prog 60 #[.slice A l.length c] w fun e w' => e = .returned (.string (showS l)) ∧ Below w.heap.size w w' := by
  go_enter Tryz.func60, Tryz.ntmps60
  go_wp2_with fail
  go_loopw [3, 5, 8] (fun v _ j wr => ∃ k : Nat, k ≤ l.length ∧ j = .int .i64 k ∧ Own strs 9 w.heap.size wr v ((l.take k).map wordS) ∧ Below w.heap.size w wr) (fun _ _ j _ => l.length - (intOf j).toNat)
  case atStart => exact ⟨0, Nat.zero_le _, rfl, Own.nil _ _, Below.refl _ _⟩
  case round =>
    obtain ⟨k, hk, rfl, hown, hb⟩ := hrel
    by_cases hlt : k < l.length
    · obtain ⟨z, hz⟩ := get_some hlt
      obtain ⟨⟨_, hz0, hz1⟩, b, off, rfl, hlb, hc⟩ := (hl.below hb (Nat.le_refl _)).get hz
      have hts := Lib.hid (show (l.take (k + 1)).map wordS = (l.take k).map wordS ++ [wordS z] by rw [take_snoc hz, List.map_append]; rfl)
      have hTw := Lib.hid (hT.below hb)
      have hlen := Lib.hid (show ((l.take k).map wordS).length = k by simp; omega)
      have hbs := hb.size
      clear hz
      obtain ⟨u, rfl⟩ := Int.eq_ofNat_of_zero_le hz0
      go_wp2_with fail
      refine (fmtU_any u (by omega) _ hTw.out).mono ?_
      rintro e w1 ⟨rfl, hb1⟩
      have hown1 := hown.below hb1 (Nat.le_refl _)
      have hbs1 := hb1.size
      have hk60 : ((l.take k).map wordS).length ≤ 60 := by rw [hlen.out]; omega
      go_wp2_with (first
        | (at_builtin; refine wpList_app1 rfl _ _ 70 rfl strTy w.heap.size hown1 rfl rfl rfl rfl (by unfold maxLen; omega) (by omega) (by omega) ?_; intro v' w2 hown2 hbel2 _)
        | go_in)
      go_roundw
      case rel => exact ⟨k + 1, by omega, by go_num, by rw [hts.out]; exact Own.app hown2 (by rfl), (hb.trans (hb1.mono hbs)).trans hbel2⟩
      case measure => simp [intOf]; omega
    · have ht := take_all hlt
      rw [ht] at hown
      obtain ⟨A', c', rfl, hcl, hne, hsl⟩ := hown.sl
      have hlen := Lib.hid (show (l.map wordS).length = l.length by simp)
      have hbs := hb.size
      by_cases h0 : l.length = 0
      · have e0 := List.eq_nil_of_length_eq_zero h0
        have h0' := Lib.hid h0
        clear h0
        subst e0
        go_wp2_with fail
        refine (Tryz.strings_Join_none _ _ _ _).mono ?_
        rintro e w1 ⟨rfl, rfl⟩
        go_wp2_with fail
        go_ret
        exact ⟨rfl, hb⟩
      · obtain ⟨s0, hs0⟩ := get_some (show 0 < (l.map wordS).length by rw [hlen.out]; omega)
        obtain ⟨bk, o, rfl, hbk, _⟩ := hsl 0 s0 hs0
        have hcells : ∀ (j : Nat) x, (l.map wordS)[j]? = some x → wr.cell? ⟨bk, o + j, none⟩ = some (.string x) := by
          intro j x hx
          obtain ⟨b1, o1, e1, _, hc1⟩ := hsl j x hx
          injection e1 with e1
          injection e1 with e1 e2
          subst e1 e2
          have := hc1 0 _ rfl
          simpa [strs, Enc.of1] using this
        have hj : (l.map wordS).map (·.data.toList) = l.map fun z => Lib.decDigits z.toNat := by
          rw [List.map_map]; apply List.map_congr_left; intro z _; simp [wordS, numS]
        have hjl : (Lib.join ((l.map wordS).map (·.data.toList)) [32]).length ≤ 1260 := by
          rw [hj]
          have := join_le (xs := l.map fun z => Lib.decDigits z.toNat) (m := 20) (fun x hx => by
            obtain ⟨z, hz, rfl⟩ := List.mem_map.1 hx
            obtain ⟨i, hi⟩ := List.getElem?_of_mem hz
            exact digits_le z (hl.get hi).1.2.2)
          rw [List.length_map] at this
          omega
        have hfin := Lib.hid (show (⟨(Lib.join ((l.map wordS).map (·.data.toList)) [32]).toArray⟩ : ByteArray) = showS l by rw [hj]; rfl)
        have hcon := Tryz.strings_Join bk o c' (l.map wordS) ⟨#[32]⟩ wr hcells hbk (by rw [hlen.out]; omega) hcl.1 (Nat.le_trans hjl (by omega))
        rw [List.length_map] at hcon
        rw [show (⟨#[32]⟩ : ByteArray).data.toList = [32] from rfl, hfin.out] at hcon
        have hcon' := Lib.hid hcon
        clear hcon hjl hj hcells hs0
        go_wp2_with fail
        refine hcon'.out.mono ?_
        rintro e w1 ⟨rfl, hb1⟩
        go_wp2_with fail
        go_ret
        exact ⟨rfl, hb.trans (hb1.mono hbs)⟩


end Go.Proofs.YtfgmebjbibbpdaaGreatDoor

namespace Go.Proofs.YtfgmebjbibbpdaaGreatDoor
open Go.RowKit

/-- 'append(out, x...)' in a region that draws its order; what is no row of out's stands as it stood. -/
theorem step_app2 {P : Program} {w : World} {ops : Array Oper} {o : Oper} {a : Act} {K : Act → World → Prop} {Q : Exit → Act → World → Prop} {E : Prop} (hgd : o.guard = none) (s x : Operand) (t : TypeId)
    (ho : o.op = .call { callee := .builtin .append, args := #[s, x], argTypes := #[t, t] }) {e : TypeId} {size bytes : Nat} (hT : ElemTy P t e size bytes) (base : Nat)
    {v : Value} {n : Nat} {xs : List Value} (hown : w.ownsRow base e size v n xs) (hs : a.eval s = v) {ad : Addr} {m c : Nat} {news : List Value} (hnews : ∀ j u, news[j]? = some u → w.cell? (ad.add j) = some u) (hx : a.eval x = .slice (some ad) m c) (hl : news.length = m * size) (h1 : ∀ u ∈ news, u.oneCell' = true)
    (h63 : n + m ≤ maxLen) (hbytes : (n + m) * bytes ≤ 140737488355328) (hbase : base ≤ w.heap.size)
    (h : ∀ v' w', w'.ownsRow base e size v' (n + m) (xs ++ news) → Below base w w' → (∀ k, k < w.heap.size → some k ≠ v.ownBlock → w'.heap[k]? = w.heap[k]?) → (v'.ownBlock = v.ownBlock ∨ v'.ownBlock = some w.heap.size) → K (a.put o.dst v') w') : if Region.wanted o (yielded ops a.tmps) = true then Oper.wp P o a w K Q else E := by
  have hw : Region.wanted o (yielded ops a.tmps) = true := by simp [Region.wanted, hgd]
  rw [if_pos hw]
  obtain ⟨ht, i, z, hi, hz, hsize, hby, hzs, hsz⟩ := hT
  obtain ⟨v', w', hr, h2, h3, h4, h5⟩ := run_append_own_at (P := P) w base t o.type e i z size bytes ht hi hz hsize hby hzs hsz v n xs hown ad m c news hl hnews h1 h63 hbytes hbase
  unfold Oper.wp execOp
  simp only [ho, resolve, invoke, builtin, Sem.run_bind, Sem.run_pure, Result.andThen_ok, List.map_toArray, List.map_cons, List.map_nil, hs, hx, hr]
  exact h v' w' h2 (grown_below hown h3 (Nat.le_refl _) hbase) h3.block h5

def Fresh (N2 N3 : Nat) (v : Value) : Prop := ∃ g, v.ownBlock = some g ∧ (g = N2 ∨ N3 ≤ g)
def Kept (N2 N3 : Nat) (w3 wr : World) : Prop := ∀ j, N2 < j → j < N3 → wr.heap[j]? = w3.heap[j]?
theorem Kept.below {N2 N3 : Nat} {w3 w w' : World} (h : Kept N2 N3 w3 w) (hb : Below w.heap.size w w') (hs : N3 ≤ w.heap.size) : Kept N2 N3 w3 w' := fun j h1 h2 => (hb.block j (by omega)).trans (h j h1 h2)
theorem Fresh.ne {N2 N3 : Nat} {v : Value} (h : Fresh N2 N3 v) {j : Nat} (h1 : N2 < j) (h2 : j < N3) : some j ≠ v.ownBlock := by
  obtain ⟨g, e, hg⟩ := h
  rw [e]
  intro h
  cases h
  omega
def LnSt (base : Nat) (w1 : World) (nb N2 N3 : Nat) (w3 : World) (x : ByteArray) (z : Int) (w' : World) : Prop :=
  Below base w1 w' ∧ w'.cell? ⟨nb, 0, none⟩ = some (.string x) ∧ w'.cell? ⟨nb, 1, none⟩ = some (.int .u32 z) ∧ Kept N2 N3 w3 w'
section
variable {base nb N2 N3 : Nat} {w1 w3 w w' : World} {x : ByteArray} {z : Int}
theorem LnSt.below (h : LnSt base w1 nb N2 N3 w3 x z w) (hs : base ≤ N3 ∧ N3 ≤ w1.heap.size) (hb : Below w.heap.size w w') : LnSt base w1 nb N2 N3 w3 x z w' := by
  obtain ⟨h1, h2, h3, h4⟩ := h
  have hsz := h1.size
  refine ⟨h1.trans (hb.mono (by omega)), ?_, ?_, h4.below hb (by omega)⟩
  · exact (hb.cell (p := ⟨nb, 0, none⟩) (cell_lt h2)).trans h2
  · exact (hb.cell (p := ⟨nb, 1, none⟩) (cell_lt h3)).trans h3
theorem LnSt.drew (h : LnSt base w1 nb N2 N3 w3 x z w) : LnSt base w1 nb N2 N3 w3 x z w.drew := ⟨h.1.drew, h.2⟩
theorem LnSt.alloc (h : LnSt base w1 nb N2 N3 w3 x z w) (hs : base ≤ N3 ∧ N3 ≤ w1.heap.size) (o : Obj) : LnSt base w1 nb N2 N3 w3 x z (w.alloc o) := h.below hs ((Below.refl _ w).alloc (Nat.le_refl _) o)
theorem LnSt.app {v : Value} (h : LnSt base w1 nb N2 N3 w3 x z w) (hs : N3 ≤ w1.heap.size) (hb : Below base w w') (hk : ∀ k, k < w.heap.size → some k ≠ v.ownBlock → w'.heap[k]? = w.heap[k]?) (hne : some nb ≠ v.ownBlock) (hf : Fresh N2 N3 v) : LnSt base w1 nb N2 N3 w3 x z w' := by
  obtain ⟨h1, h2, h3, h4⟩ := h
  have key := hk nb (cell_lt h2) hne
  have hsz := h1.size
  exact ⟨h1.trans hb, (World.cell?_of_block (a := ⟨nb, 0, none⟩) key).trans h2, (World.cell?_of_block (a := ⟨nb, 1, none⟩) key).trans h3, fun j g1 g2 => (hk j (by omega) (hf.ne g1 g2)).trans (h4 j g1 g2)⟩
end

theorem ws_one (W : World) (z : Int) (h : 0 ≤ z ∧ z < 4294967296) : Ws (W.alloc (.cells #[.int .u32 z] 38)) (W.alloc (.cells #[.int .u32 z] 38)).heap.size (some ⟨W.heap.size, 0, none⟩) [z] :=
  ⟨by rw [World.size_alloc]; exact SlOf.new W _ _ [z] rfl, fun x hx => by rw [List.mem_singleton.1 hx]; exact u32_to h.1 h.2⟩
theorem show_one (z : Int) : showS [z] = numS z.toNat := by
  unfold showS showL numS
  simp [Lib.join]
theorem show1 (W : World) (z : Int) (h : 0 ≤ z ∧ z < 4294967296) (hT : Tab W) :
    Calls Tryz.prog 60 #[.slice (some ⟨W.heap.size, 0, none⟩) 1 1] (W.alloc (.cells #[.int .u32 z] 38)) fun e w' => e = .returned (.string (numS z.toNat)) ∧ Below (W.alloc (.cells #[.int .u32 z] 38)).heap.size (W.alloc (.cells #[.int .u32 z] 38)) w' := by
  rw [← show_one]
  exact show_any (some ⟨W.heap.size, 0, none⟩) 1 [z] (W.alloc (.cells #[.int .u32 z] 38)) (by simp) (ws_one W z h) (hT.below ((Below.refl _ W).alloc (Nat.le_refl _) _))

theorem show1d (W : World) (z : Int) (h : 0 ≤ z ∧ z < 4294967296) (hT : Tab W) :
    Calls Tryz.prog 60 #[.slice (some ⟨W.heap.size, 0, none⟩) 1 1] ((W.alloc (.cells #[.int .u32 z] 38)).drew) fun e w' => e = .returned (.string (numS z.toNat)) ∧ Below ((W.alloc (.cells #[.int .u32 z] 38)).drew).heap.size ((W.alloc (.cells #[.int .u32 z] 38)).drew) w' := by
  rw [← show_one]
  exact show_any (some ⟨W.heap.size, 0, none⟩) 1 [z] _ (by simp) ((ws_one W z h).below (Below.refl _ _).drew (Nat.le_refl _)) (hT.below ((Below.refl _ W).alloc (Nat.le_refl _) _).drew)

theorem numS_len {z : Int} (h : 0 ≤ z ∧ z < 4294967296) : (numS z.toNat).size ≤ 10 := by
  have h1 := dd_len 9 z.toNat (by omega)
  have : (numS z.toNat).size = (Lib.decDigits z.toNat).length := by simp [numS, ByteArray.size]
  omega
def partS (p : List UInt8 × Int) : ByteArray := ⟨(partL p).toArray⟩
theorem partS_eq (p : List UInt8 × Int) : (⟨p.1.toArray⟩ : ByteArray) ++ numS p.2.toNat = partS p := by
  refine ByteArray.ext ?_
  simp [partS, partL, numS]

theorem line_no (i : Ins) (w : World) (hk : i.ok) (h : insB i = false) : Calls Tryz.prog 33 #[insV i] w fun r w' => r = .returned (.tuple #[.string ⟨#[]⟩, .bool false]) ∧ Below w.heap.size w w' := by
  have hr := fun W => right_any i W (u32_of hk.2.2.2.2)
  rw [h] at hr
  obtain ⟨op, a, b, c, m⟩ := i
  unfold insV at hr ⊢
  simp only at hr ⊢
  have hr' := Lib.hid hr
  clear hr h hk
  go_enter Tryz.func33, Tryz.ntmps33
  go_wp2_with (go_at_call 57; refine (hr'.out _).mono ?_; rintro e w1 ⟨rfl, hb⟩)
  go_ret2
  exact ⟨rfl, ((Below.refl _ w).alloc (Nat.le_refl _) _).trans (hb.mono (by simp))⟩

set_option maxRecDepth 100000 in
set_option maxHeartbeats 4000000 in
theorem line_yes (i : Ins) (w : World) (hk : i.ok) (h : insB i = true) (hT : Tab w) : Calls Tryz.prog 33 #[insV i] w fun r w' => r = .returned (.tuple #[.string (lineS i), .bool true]) ∧ Below w.heap.size w w' := by
  have hr := fun W => right_any i W (u32_of hk.2.2.2.2)
  rw [h] at hr
  have hwd := fun W => word_any i.op W (ins_bd h hk).1
  have hop := fun W => operands_any h hk W
  have hbd := ops_bd h hk
  have hol := ops_len i
  have hpl : lineL i = Lib.join (partsL i) [32] := rfl
  have hlen := lineL_len h hk
  unfold lineS
  rw [hpl] at hlen ⊢
  have hle := fun p hp => opsL_letter i p hp
  obtain ⟨L, hL⟩ : ∃ L, opsL i = L := ⟨_, rfl⟩
  unfold partsL at hlen ⊢
  rw [hL] at hop hbd hol hlen hle ⊢
  have hwb : (shOf i.op).w = (wordB i.op).data.toList := by simp [wordB]
  rw [hwb] at hlen ⊢
  obtain ⟨op, a, b, c, m⟩ := i
  unfold insV at hr hop ⊢
  simp only at hr hwd hop hlen ⊢
  obtain ⟨WD, hWD⟩ : ∃ x, wordB op = x := ⟨_, rfl⟩
  rw [hWD] at hwd hlen ⊢
  have hr' := Lib.hid hr
  have hwd' := Lib.hid hwd
  have hop' := Lib.hid hop
  have hlen' := Lib.hid hlen
  clear hr h hk hwd hop hL hpl hwb hWD hlen
  have hbx := InBox.new w ⟨op, a, b, c, m⟩
  simp only at hbx
  have hbx' := Lib.hid hbx
  clear hbx
  go_enter Tryz.func33, Tryz.ntmps33
  go_wp2_with (go_at_call 57; refine (hr'.out _).mono ?_; rintro e w1 ⟨rfl, hb⟩; have hbx1 := hbx'.out.kept hb; obtain ⟨c0, c1, c2, c3, c4⟩ := hbx1.cells)
  refine (hwd'.out _).mono ?_
  rintro e w2 ⟨rfl, hb2⟩
  have hB1 := ((Below.refl _ w).alloc (Nat.le_refl _) (.cells #[.int .i64 op, .int .i64 a, .int .i64 b, .int .i64 c, .int .u32 m] 73)).trans (hb.mono (by simp))
  have hB2 := hB1.trans (hb2.mono hB1.size)
  have hbx2 := hbx1.kept hb2
  clear c0 c1 c2 c3 c4 hb hb2 hbx1 hB1
  obtain ⟨c0, c1, c2, c3, c4⟩ := hbx2.cells
  have hlt := hbx2.lt
  have hne : w.heap.size ≠ w2.heap.size := by omega
  have hown0 : Own strs 9 w.heap.size (w2.alloc (.cells #[.string WD] 9)) (.slice (some ⟨w2.heap.size, 0, none⟩) 1 1) [WD] := World.ownsRow_lit w2 #[.string WD] 1 hB2.size (by unfold maxLen; omega) rfl
  go_wp2_with fail
  refine (hop'.out _).mono ?_
  rintro e w3 ⟨A3, rfl, ⟨hsl3, hA3⟩, hb3⟩
  have hs3 : w2.heap.size + 1 ≤ w3.heap.size := by have := hb3.size; rw [World.size_alloc] at this; exact this
  have hB3 : Below w.heap.size w w3 := (hB2.alloc hB2.size _).trans (hb3.mono (by rw [World.size_alloc]; have := hB2.size; omega))
  have hown3 : Own strs 9 w.heap.size w3 (.slice (some ⟨w2.heap.size, 0, none⟩) 1 1) [WD] := hown0.below hb3 (Nat.le_refl _)
  rw [World.size_alloc] at hA3
  have hsl3' := Lib.hid hsl3
  have hA3' := Lib.hid hA3
  have hbd' := Lib.hid hbd
  have hle' := Lib.hid hle
  have hB3' := Lib.hid hB3
  clear c0 c1 c2 c3 c4 hbx2 hne hown0 hb3 hop' hr' hwd' hbx' hsl3 hA3 hbd hle
  go_wp2_with fail
  go_loopw [4, 6, 17] (fun v _ j wr => ∃ k : Nat, k ≤ L.length ∧ j = .int .i64 k ∧ Own strs 9 w.heap.size wr v (WD :: (L.take k).map partS) ∧ Fresh w2.heap.size w3.heap.size v ∧ Kept w2.heap.size w3.heap.size w3 wr ∧ Below w.heap.size w wr ∧ w3.heap.size ≤ wr.heap.size) (fun _ _ j _ => L.length - (intOf j).toNat)
  case atStart => exact ⟨0, Nat.zero_le _, rfl, hown3, ⟨_, rfl, .inl rfl⟩, fun j _ _ => rfl, hB3, Nat.le_refl _⟩
  case round =>
    obtain ⟨k, hk, rfl, hown, hfr, hkp, hb, hsw⟩ := hrel
    by_cases hlt2 : k < L.length
    · obtain ⟨p, hp⟩ := get_some hlt2
      have hpm := List.mem_of_getElem? hp
      have hz := hbd'.out p hpm
      have hlt1 := hle'.out p hpm
      obtain ⟨b1, off, hA, hbl, hc⟩ := hsl3'.out k p hp
      have hb1 := hA3'.out _ hA
      have hblk := hkp b1 (by simp only at hb1; omega) hbl
      have g0 := (World.cell?_of_block (a := ⟨b1, off + (k * 2 + 0), none⟩) hblk).trans (hc 0 _ rfl)
      have g1 := (World.cell?_of_block (a := ⟨b1, off + (k * 2 + 1), none⟩) hblk).trans (hc 1 _ rfl)
      have htk := Lib.hid (show WD :: (L.take (k + 1)).map partS = (WD :: (L.take k).map partS) ++ [partS p] by rw [take_snoc hp, List.map_append]; rfl)
      have hpe := Lib.hid (partS_eq p)
      obtain ⟨ls, z⟩ := p
      simp only at hz hlt1 g0 g1 hpe
      have hD := numS_len hz
      have hX : (⟨ls.toArray⟩ : ByteArray).size ≤ 1 := by rcases hlt1 with e | e | e <;> rw [e] <;> simp [ByteArray.size]
      have hsh := fun W hT => show1 W z hz hT
      obtain ⟨X, hXe⟩ : ∃ X, (⟨ls.toArray⟩ : ByteArray) = X := ⟨_, rfl⟩
      obtain ⟨D, hDe⟩ : ∃ D, numS z.toNat = D := ⟨_, rfl⟩
      rw [hXe] at g0 hX
      rw [hDe] at hD hsh
      rw [hXe, hDe] at hpe
      have hsh' := Lib.hid hsh
      have hshd := fun W hT => show1d W z hz hT
      rw [hDe] at hshd
      have hshd' := Lib.hid hshd
      subst hA
      have hxd : ¬ 9223372036854775807 < X.size + D.size := by omega
      have e0 : off + (k * 2 + 0) = off + k * 2 := by omega
      have e1 : off + (k * 2 + 1) = off + k * 2 + 1 := by omega
      rw [e0] at g0
      rw [e1] at g1
      have hown' := Lib.hid hown
      clear hc hpm hsh hshd hlt1 hXe hDe hblk hown hp
      go_wp2_with fail
      have hSd0 : LnSt w.heap.size (wr.alloc (.cells #[.string X, .int .u32 z] 110)) wr.heap.size w2.heap.size w3.heap.size w3 X z (wr.alloc (.cells #[.string X, .int .u32 z] 110)) := ⟨Below.refl _ _, by simp, by simp, hkp.below ((Below.refl _ wr).alloc (Nat.le_refl _) _) hsw⟩
      have hsb : w.heap.size ≤ w3.heap.size ∧ w3.heap.size ≤ (wr.alloc (.cells #[.string X, .int .u32 z] 110)).heap.size := by rw [World.size_alloc]; exact ⟨hB3'.out.size, by omega⟩
      have hownb := hown'.out.alloc (.cells #[.string X, .int .u32 z] 110)
      have hBb := hb.alloc hb.size (.cells #[.string X, .int .u32 z] 110)
      have hnbv : some wr.heap.size ≠ u4.ownBlock := fun e => by have := (hown'.out.lt _ e.symm).2; omega
      have hlk : (WD :: (L.take k).map partS).length = k + 1 := by simp; omega
      obtain ⟨wb, hwb⟩ : ∃ x, wr.alloc (.cells #[.string X, .int .u32 z] 110) = x := ⟨_, rfl⟩
      obtain ⟨nb, hnb⟩ : ∃ n, wr.heap.size = n := ⟨_, rfl⟩
      rw [hwb] at hSd0 hsb hownb hBb ⊢
      rw [hnb] at hSd0 hnbv
      simp only [hnb]
      clear hwb
      have hSd := hSd0.drew
      have hTb := hT.below hBb
      have hTbd := hTb.below (Below.refl _ wb).drew
      have hownb' := Lib.hid hownb
      have hTb' := Lib.hid hTb
      have hTbd' := Lib.hid hTbd
      have hBb' := Lib.hid hBb
      have hkp' := Lib.hid hkp
      obtain ⟨s1, s2, s3, s4⟩ := hSd0
      clear hownb hTb hTbd hBb hkp hb g0 g1 hbl hb1
      go_region_held3 (fun w' => Below w.heap.size wb w' ∧ w'.cell? ⟨nb, 0, none⟩ = some (.string X) ∧ w'.cell? ⟨nb, 1, none⟩ = some (.int .u32 z) ∧ Kept w2.heap.size w3.heap.size w3 w')
        (first | exact hSd | assumption | exact LnSt.alloc (base := w.heap.size) (w1 := wb) (nb := nb) (N2 := w2.heap.size) (N3 := w3.heap.size) (w3 := w3) (x := X) (z := z) (by assumption) hsb _)
        (first
          | (go_at_call 60; refine (hsh'.out _ hTb'.out).mono ?_; rintro e wx ⟨rfl, hbx⟩; have hSx := LnSt.below (base := w.heap.size) (w1 := wb) (nb := nb) (N2 := w2.heap.size) (N3 := w3.heap.size) (w3 := w3) (x := X) (z := z) (by assumption) hsb hbx; have hq := ((Below.refl _ wb).alloc (Nat.le_refl _) (.cells #[.int .u32 z] 38)).trans (hbx.mono (by simp)))
          | (go_at_call 60; refine (hsh'.out _ hTbd'.out).mono ?_; rintro e wx ⟨rfl, hbx⟩; have hSx := LnSt.below (base := w.heap.size) (w1 := wb) (nb := nb) (N2 := w2.heap.size) (N3 := w3.heap.size) (w3 := w3) (x := X) (z := z) (by assumption) hsb hbx; have hq := ((Below.refl _ wb).drew.alloc (by simp) (.cells #[.int .u32 z] 38)).trans (hbx.mono (by simp)))
          | (go_at_call 60; refine (hshd'.out _ hTb'.out).mono ?_; rintro e wx ⟨rfl, hbx⟩; have hSx := LnSt.below (base := w.heap.size) (w1 := wb) (nb := nb) (N2 := w2.heap.size) (N3 := w3.heap.size) (w3 := w3) (x := X) (z := z) (by assumption) hsb hbx; have hq := ((Below.refl _ wb).alloc (Nat.le_refl _) (.cells #[.int .u32 z] 38)).drew.trans (hbx.mono (by simp)))
          | (refine step_app2 (by rfl) (.tmp 21) (.tmp 29) 70 (by rfl) strTy w.heap.size ((hownb'.out.below hq (Nat.le_refl _)).alloc _) (by rfl) (cells_new' wx [.string (X ++ D)] _ _ rfl) (by rfl) (by rfl) (by simp [Value.oneCell']) (by unfold maxLen; omega) (by omega) (Nat.le_trans (Nat.le_trans hBb'.out.size hq.size) (by simp)) ?_
             intro v' w9 hown9 hb9 hblk9 hob9
             have hS9 := LnSt.app (base := w.heap.size) (w1 := wb) (nb := nb) (N2 := w2.heap.size) (N3 := w3.heap.size) (w3 := w3) (x := X) (z := z) (by assumption) hsb.2 hb9 hblk9 hnbv hfr))
      all_goals
        go_wp2_with fail
        go_roundw
        case rel =>
          refine ⟨k + 1, by omega, by go_num, ?_, ?_, hS9.2.2.2, hBb'.out.trans hS9.1, Nat.le_trans hsb.2 hS9.1.size⟩
          · rw [htk.out, ← hpe.out]
            exact Own.app hown9 rfl
          · rcases hob9 with e | e
            · obtain ⟨g, hg1, hg2⟩ := hfr
              exact ⟨g, e.trans hg1, hg2⟩
            · exact ⟨_, e, .inr (Nat.le_trans (Nat.le_trans hsb.2 hq.size) (by simp))⟩
        case measure => simp [intOf]; omega
    · have ht := take_all hlt2
      rw [ht] at hown
      obtain ⟨A', c', rfl, hcl, hne, hsl⟩ := hown.sl
      have hll := Lib.hid (show (WD :: L.map partS).length = L.length + 1 by simp)
      have hbs := hb.size
      obtain ⟨s0, hs0⟩ := get_some (show 0 < (WD :: L.map partS).length by rw [hll.out]; omega)
      obtain ⟨bk, o, rfl, hbk, _⟩ := hsl 0 s0 hs0
      have hcells : ∀ (j : Nat) x, (WD :: L.map partS)[j]? = some x → wr.cell? ⟨bk, o + j, none⟩ = some (.string x) := by
        intro j x hx
        obtain ⟨b1, o1, e1, _, hc1⟩ := hsl j x hx
        injection e1 with e1
        injection e1 with e1 e2
        subst e1 e2
        have := hc1 0 _ rfl
        simpa [strs, Enc.of1] using this
      have hj : (WD :: L.map partS).map (·.data.toList) = WD.data.toList :: L.map partL := by
        rw [List.map_cons, List.map_map]
        rfl
      have hcon := Tryz.strings_Join bk o c' (WD :: L.map partS) ⟨#[32]⟩ wr hcells hbk (by rw [hll.out]; omega) hcl.1 (by rw [hj]; exact Nat.le_trans hlen'.out (by omega))
      rw [hj, show (⟨#[32]⟩ : ByteArray).data.toList = [32] from rfl, hll.out] at hcon
      have hll2 : (WD :: L.map partS).length = L.length + 1 := hll.out
      have hcon' := Lib.hid hcon
      clear hcon hj hcells hs0 hne hsl hown
      simp only [hll2]
      go_wp2_with fail
      refine hcon'.out.mono ?_
      rintro e w1 ⟨rfl, hb1⟩
      go_wp2_with fail
      go_ret2
      exact ⟨rfl, hb.trans (hb1.mono hbs)⟩

theorem line_any (i : Ins) (hk : i.ok) (w : World) (hT : Tab w) : Calls Tryz.prog 33 #[insV i] w fun r w' => r = .returned (.tuple #[.string (if insB i = true then lineS i else ⟨#[]⟩), .bool (insB i)]) ∧ Below w.heap.size w w' := by
  rcases h : insB i with _ | _
  · exact line_no i w hk h
  · exact line_yes i w hk h hT

end Go.Proofs.YtfgmebjbibbpdaaGreatDoor

namespace Go.Proofs.YtfgmebjbibbpdaaGreatDoor
open Go.RowKit
attribute [local go_sem] Oper.semAt_some

/-- A line that is being made, in a block. -/
def LnB (N b : Nat) (ps : List ByteArray) (odd : Bool) (w0 w : World) : Prop := ∃ v, RowB w b #[v, .bool odd] 100 ∧ Own strs 9 (b + 1) w v ps ∧ Below N w0 w
theorem LnB.kept {N b : Nat} {ps : List ByteArray} {odd : Bool} {w0 w w' : World} (h : LnB N b ps odd w0 w) (hb : Below w.heap.size w w') (hN : N ≤ b) : LnB N b ps odd w0 w' := by
  obtain ⟨v, h1, h2, h3⟩ := h
  have := h1.lt
  exact ⟨v, h1.kept hb, h2.below hb (Nat.le_refl _), h3.trans (hb.mono (by omega))⟩
theorem own_set {b size n : Nat} {e : TypeId} {w : World} {v : Value} {xs : List Value} (h : w.ownsRow (b + 1) e size v n xs) (_hb : b < b + 1) (j : Nat) (u : Value) : (w.setCell ⟨b, j, none⟩ u).ownsRow (b + 1) e size v n xs := by
  refine ⟨h.1, ?_⟩
  rcases h.2 with h2 | ⟨g, cap, cur, hv, hg, hh, r⟩
  · exact .inl h2
  · exact .inr ⟨g, cap, cur, hv, hg, (heap_set w b j u g (by omega)).trans hh, r⟩
theorem emp_iff (s : ByteArray) : (s.toList == []) = s.toList.isEmpty := by cases s.toList <;> rfl
set_option maxRecDepth 100000 in
set_option maxHeartbeats 1000000 in
theorem lword_any (N b : Nat) (ps : List ByteArray) (odd : Bool) (s : ByteArray) (w0 w : World) (h : LnB N b ps odd w0 w) (hN : N ≤ b) (hlen : ps.length ≤ 100000) :
    Calls Tryz.prog 53 #[.pointer (some ⟨b, 0, none⟩), .string s] w fun e w' => e = .returned (.tuple #[]) ∧ LnB N b (ps ++ [s]) (odd || s.toList.isEmpty) w0 w' := by
  obtain ⟨v, hr, hown, hb0⟩ := h
  have hlt := hr.lt
  have c0 : w.cell? ⟨b, 0, none⟩ = some v := (hr.cell 0).trans rfl
  have c1 : w.cell? ⟨b, 1, none⟩ = some (.bool odd) := (hr.cell 1).trans rfl
  have hown' := Lib.hid hown
  have HR := Lib.hid hr
  have HB0 := Lib.hid hb0
  have hfin : ∀ (w1 : World) (v' : Value) (o2 : Bool), RowB w1 b #[v, .bool odd] 100 → w1.ownsRow (b + 1) 9 1 v' (ps.length + 1) (strs.all ps ++ [.string s]) → Below (b + 1) w w1 → LnB N b (ps ++ [s]) o2 w0 ((w1.setCell ⟨b, 0, none⟩ v').setCell ⟨b, 1, none⟩ (.bool o2)) := fun w1 v' o2 h1 h2 h3 => by
    refine ⟨v', (h1.set 0 v').set 1 (.bool o2), ?_, below_set1 (below_set1 (HB0.out.trans (h3.mono (by omega))) b 0 hN _) b 1 hN _⟩
    have h4 : Own strs 9 (b + 1) w1 v' (ps ++ [s]) := Own.app h2 rfl
    exact own_set (own_set h4 (Nat.lt_succ_self b) 0 _) (Nat.lt_succ_self b) 1 _
  have HF := Lib.hid hfin
  clear hr hown hb0 hfin
  cases odd with
  | true =>
    go_enter Tryz.func53, Tryz.ntmps53
    go_wp2_with (at_builtin; refine wpList_app1 rfl _ _ 70 rfl strTy (b + 1) hown'.out rfl rfl rfl rfl (by unfold maxLen; omega) (by omega) (by omega) ?_; intro v' w1 hown1 hbel1 _; have hr1 := HR.out.below hbel1 (Nat.lt_succ_self b); have e0 : w1.cell? ⟨b, 0, none⟩ = some v := (hr1.cell 0).trans rfl; have e1 : w1.cell? ⟨b, 1, none⟩ = some (.bool true) := (hr1.cell 1).trans rfl; have f0 : w1.frozen? ⟨b, 0, none⟩ = false := hr1.frozen 0; have f1 : w1.frozen? ⟨b, 1, none⟩ = false := hr1.frozen 1; have HR1 := Lib.hid hr1; obtain ⟨A', c', rfl⟩ := own_slice hown1; have HO1 := Lib.hid hown1; have HB1 := Lib.hid hbel1; clear hr1 hown1 hbel1 c0 c1)
    go_end0
    exact ⟨rfl, HF.out _ _ _ HR1.out HO1.out HB1.out⟩
  | false =>
    cases hs : s.toList.isEmpty with
    | true =>
      go_enter Tryz.func53, Tryz.ntmps53
      go_wp2_with (at_builtin; refine wpList_app1 rfl _ _ 70 rfl strTy (b + 1) hown'.out rfl rfl rfl rfl (by unfold maxLen; omega) (by omega) (by omega) ?_; intro v' w1 hown1 hbel1 _; have hr1 := HR.out.below hbel1 (Nat.lt_succ_self b); have e0 : w1.cell? ⟨b, 0, none⟩ = some v := (hr1.cell 0).trans rfl; have e1 : w1.cell? ⟨b, 1, none⟩ = some (.bool false) := (hr1.cell 1).trans rfl; have f0 : w1.frozen? ⟨b, 0, none⟩ = false := hr1.frozen 0; have f1 : w1.frozen? ⟨b, 1, none⟩ = false := hr1.frozen 1; have HR1 := Lib.hid hr1; obtain ⟨A', c', rfl⟩ := own_slice hown1; have HO1 := Lib.hid hown1; have HB1 := Lib.hid hbel1; clear hr1 hown1 hbel1 c0 c1)
      go_end0
      exact ⟨rfl, HF.out _ _ _ HR1.out HO1.out HB1.out⟩
    | false =>
      go_enter Tryz.func53, Tryz.ntmps53
      go_wp2_with (at_builtin; refine wpList_app1 rfl _ _ 70 rfl strTy (b + 1) hown'.out rfl rfl rfl rfl (by unfold maxLen; omega) (by omega) (by omega) ?_; intro v' w1 hown1 hbel1 _; have hr1 := HR.out.below hbel1 (Nat.lt_succ_self b); have e0 : w1.cell? ⟨b, 0, none⟩ = some v := (hr1.cell 0).trans rfl; have e1 : w1.cell? ⟨b, 1, none⟩ = some (.bool false) := (hr1.cell 1).trans rfl; have f0 : w1.frozen? ⟨b, 0, none⟩ = false := hr1.frozen 0; have f1 : w1.frozen? ⟨b, 1, none⟩ = false := hr1.frozen 1; have HR1 := Lib.hid hr1; obtain ⟨A', c', rfl⟩ := own_slice hown1; have HO1 := Lib.hid hown1; have HB1 := Lib.hid hbel1; clear hr1 hown1 hbel1 c0 c1)
      go_end0
      exact ⟨rfl, HF.out _ _ _ HR1.out HO1.out HB1.out⟩

end Go.Proofs.YtfgmebjbibbpdaaGreatDoor

namespace Go.Proofs.YtfgmebjbibbpdaaGreatDoor
open Go.RowKit
attribute [local go_sem] Oper.semAt_some

/-- What holds numbers stays as it is. -/
def KeepI (w w' : World) : Prop := ∀ (g : Nat) (cs : Array Value) (fr : Nat × Nat), w.heap[g]? = some (.cells cs 3 fr) → w'.heap[g]? = w.heap[g]?
theorem KeepI.refl (w : World) : KeepI w w := fun _ _ _ _ => rfl
theorem KeepI.trans {w w' w'' : World} (h : KeepI w w') (h' : KeepI w' w'') : KeepI w w'' := fun g cs fr hg => (h' g cs fr ((h g cs fr hg).trans hg)).trans (h g cs fr hg)
theorem keep_app {wr wy w9 : World} {b n : Nat} {v : Value} {xs : List Value} (hb : Below wr.heap.size wr wy) (ho : wr.ownsRow (b + 1) 9 1 v n xs) (hk : ∀ k, k < wy.heap.size → some k ≠ v.ownBlock → w9.heap[k]? = wy.heap[k]?) : KeepI wr w9 := fun g cs fr hg => by
  have hlt := (Array.getElem?_eq_some_iff.1 hg).1
  rw [hk g (by have := hb.size; omega) ?_]
  · exact hb.block g hlt
  · intro e
    rcases ho.2 with ⟨rfl, _⟩ | ⟨g', cap, cur, rfl, _, hh, _⟩
    · simp [Value.ownBlock] at e
    · obtain rfl : g = g' := by simpa [Value.ownBlock] using e
      rw [hh] at hg
      injection hg with hg
      injection hg with _ h2
      exact absurd h2 (by decide)
/-- Numbers that are handed on. -/
def ArgI (b : Nat) (w : World) (A : Option Addr) (l : List Int) : Prop := ∀ k z, l[k]? = some z → ∃ g off, A = some ⟨g, off, none⟩ ∧ w.cell? ⟨g, off + k, none⟩ = some (.int .i64 z) ∧ (g < b ∨ ∃ (cs : Array Value) (fr : Nat × Nat), w.heap[g]? = some (.cells cs 3 fr))
theorem ArgI.to {b : Nat} {w w' : World} {A : Option Addr} {l : List Int} (h : ArgI b w A l) (hb : Below b w w') (hk : KeepI w w') {k : Nat} {z : Int} (hz : l[k]? = some z) : ∃ g off, A = some ⟨g, off, none⟩ ∧ w'.cell? ⟨g, off + k, none⟩ = some (.int .i64 z) := by
  obtain ⟨g, off, hA, hc, hg⟩ := h k z hz
  refine ⟨g, off, hA, ?_⟩
  rcases hg with hg | ⟨cs, fr, hg⟩
  · exact (hb.cell (p := ⟨g, off + k, none⟩) hg).trans hc
  · exact (World.cell?_of_block (a := ⟨g, off + k, none⟩) (hk g cs fr hg)).trans hc
theorem lnb_end {N b : Nat} {ps : List ByteArray} {s : ByteArray} {odd o2 : Bool} {w0 wr w9 : World} {v v' : Value} (hb0 : Below N w0 wr) (hN : N ≤ b) (hr : RowB w9 b #[v, .bool odd] 100) (ho : w9.ownsRow (b + 1) 9 1 v' (ps.length + 1) (strs.all ps ++ [.string s])) (hb : Below (b + 1) wr w9) (hk : KeepI wr w9) :
    LnB N b (ps ++ [s]) o2 w0 ((w9.setCell ⟨b, 0, none⟩ v').setCell ⟨b, 1, none⟩ (.bool o2)) ∧ Below b wr ((w9.setCell ⟨b, 0, none⟩ v').setCell ⟨b, 1, none⟩ (.bool o2)) ∧ KeepI wr ((w9.setCell ⟨b, 0, none⟩ v').setCell ⟨b, 1, none⟩ (.bool o2)) := by
  refine ⟨⟨v', (hr.set 0 v').set 1 (.bool o2), ?_, below_set1 (below_set1 (hb0.trans (hb.mono (by omega))) b 0 hN _) b 1 hN _⟩, below_set1 (below_set1 (hb.mono (Nat.le_succ b)) b 0 (Nat.le_refl _) _) b 1 (Nat.le_refl _) _, fun g cs fr hg => ?_⟩
  · have h4 : Own strs 9 (b + 1) w9 v' (ps ++ [s]) := Own.app ho rfl
    exact own_set (own_set h4 (Nat.lt_succ_self b) 0 _) (Nat.lt_succ_self b) 1 _
  · have h9 := hk g cs fr hg
    have hne : g ≠ b := fun e => by
      subst e
      have h1 : w9.heap[g]? = some (.cells #[v, .bool odd] 100 (0, 0)) := hr
      rw [h9, hg] at h1
      injection h1 with h1
      injection h1 with _ h2
      exact absurd h2 (by decide)
    exact (heap_set _ _ _ _ _ hne).trans ((heap_set _ _ _ _ _ hne).trans h9)
theorem itoa_all (n : Int) (w : World) (h0 : -9223372036854775808 ≤ n) (h1 : n ≤ 9223372036854775807) (hT : Tab w) :
    Calls Tryz.prog 76 #[.int .i64 n] w fun e w' => e = .returned (.string ⟨(Lib.itoa n).toArray⟩) ∧ Below w.heap.size w w' :=
  (Tryz.strconv_Itoa n h0 h1 w hT).mono fun e w' ⟨he, k, os, hw⟩ => by
    subst he hw
    exact ⟨rfl, lt_grow k os (Nat.le_refl _)⟩
set_option maxRecDepth 100000 in
set_option maxHeartbeats 8000000 in
theorem lnums_any (b : Nat) (ps : List ByteArray) (odd : Bool) (l : List Int) (A : Option Addr) (c : Nat) (w0 w : World) (h : LnB w0.heap.size b ps odd w0 w) (hN : w0.heap.size ≤ b) (hlen : ps.length + l.length ≤ 100000) (hA : ArgI b w A l) (hw : ∀ z ∈ l, -9223372036854775808 ≤ z ∧ z ≤ 9223372036854775807) (hT : Tab w0) :
    Calls Tryz.prog 55 #[.pointer (some ⟨b, 0, none⟩), .slice A l.length c] w fun e w' => e = .returned (.tuple #[]) ∧ LnB w0.heap.size b (ps ++ l.map (fun z : Int => (⟨(Lib.itoa z).toArray⟩ : ByteArray))) (odd || l.any fun x => !topB x) w0 w' := by
  have hb00 : b < w.heap.size := by obtain ⟨v, h1, _⟩ := h; exact h1.lt
  have H := Lib.hid h
  have HA := Lib.hid hA
  have HW := Lib.hid hw
  have HT0 := Lib.hid hT
  clear h hA hw hT
  go_enter Tryz.func55, Tryz.ntmps55
  go_wp2_with fail
  go_loopw [5, 8] (fun _ j wr => ∃ k : Nat, k ≤ l.length ∧ j = .int .i64 k ∧ LnB w0.heap.size b (ps ++ (l.take k).map (fun z : Int => (⟨(Lib.itoa z).toArray⟩ : ByteArray))) (odd || (l.take k).any fun x => !topB x) w0 wr ∧ Below b w wr ∧ KeepI w wr) (fun _ j _ => l.length - (intOf j).toNat)
  case atStart => exact ⟨0, Nat.zero_le _, rfl, by simpa using H.out, Below.refl _ _, KeepI.refl _⟩
  case round =>
    obtain ⟨k, hk, rfl, hst, hbw, hkw⟩ := hrel
    by_cases hlt : k < l.length
    · obtain ⟨z, hz⟩ := get_some hlt
      have hzw := HW.out z (List.mem_of_getElem? hz)
      obtain ⟨g, off, hAe, hcz⟩ := HA.out.to hbw hkw hz
      subst hAe
      obtain ⟨v, hr, hown, hb0⟩ := hst
      have hlt2 := hr.lt
      have c0 : wr.cell? ⟨b, 0, none⟩ = some v := (hr.cell 0).trans rfl
      have hito := Lib.hid (fun W hT => itoa_all z W hzw.1 hzw.2 hT)
      have hplen : (ps ++ (l.take k).map (fun z : Int => (⟨(Lib.itoa z).toArray⟩ : ByteArray))).length ≤ 100000 := by simp; omega
      have HTK := Lib.hid (show ps ++ (l.take (k + 1)).map (fun z : Int => (⟨(Lib.itoa z).toArray⟩ : ByteArray)) = (ps ++ (l.take k).map (fun z : Int => (⟨(Lib.itoa z).toArray⟩ : ByteArray))) ++ [⟨(Lib.itoa z).toArray⟩] by rw [take_snoc hz, List.map_append, List.append_assoc]; rfl)
      have HBT : Below b w wr := hbw
      have HLT := Lib.hid (show b + 1 ≤ wr.heap.size from hlt2)
      have HR := Lib.hid hr
      have HO := Lib.hid hown
      have HB0 := Lib.hid hb0
      have HBw := Lib.hid hbw
      have HKw := Lib.hid hkw
      have HT := Lib.hid (HT0.out.below hb0)
      clear hr hown hb0 hbw hkw HBT
      cases hq : (odd || (l.take k).any fun x => !topB x) with
      | true =>
        rw [hq] at HR
        have HQ := Lib.hid (show (odd || (l.take (k + 1)).any fun x => !topB x) = true by rw [take_snoc hz, List.any_append, ← Bool.or_assoc, hq]; simp [topB])
        clear hz
        go_wp2_with fail
        refine wp_region_held_drew (S := (fun _ : World => True)) (by kernel_rfl) trivial (fun hHeld => ?_)
        have HBd := Lib.hid (Below.refl wr.heap.size wr).drew
        have cd : wr.drew.cell? ⟨b, 0, none⟩ = some v := c0
        generalize wr.drew = wd at HBd cd ⊢
        refine tkH 0 ?_
        try simp only [Act.put, List.setIfInBounds_toArray, List.set_cons_zero, List.set_cons_succ]
        refine tkH 1 ?_
        try simp only [Act.put, List.setIfInBounds_toArray, List.set_cons_zero, List.set_cons_succ]
        refine tkH 2 ?_
        try simp only [Act.put, List.setIfInBounds_toArray, List.set_cons_zero, List.set_cons_succ]
        refine tkH 3 ?_
        try simp only [Act.put, List.setIfInBounds_toArray, List.set_cons_zero, List.set_cons_succ]
        refine tkH 5 ?_
        try simp only [Act.put, List.setIfInBounds_toArray, List.set_cons_zero, List.set_cons_succ]
        refine wpAnyH_ready (rs := [4, 6]) (by kernel_rfl) (by simp) ?_
        refine AllReadyH.cons (o := ?_) ?_ (fun K hK => ?_) ?_
        rotate_left
        · (simp only [List.getElem?_toArray, List.getElem?_cons_succ, List.getElem?_cons_zero]; rfl)
        · go_simp
          refine hK.out _ _ trivial (fun hHeld => ?_)
          clear hK K
          try simp only [Act.put, List.setIfInBounds_toArray, List.set_cons_zero, List.set_cons_succ]
          refine wpAnyH_ready (rs := [6]) (by kernel_rfl) (by simp) ?_
          refine AllReadyH.cons (o := ?_) ?_ (fun K hK => ?_) AllReadyH.nil
          rotate_left
          · (simp only [List.getElem?_toArray, List.getElem?_cons_succ, List.getElem?_cons_zero]; rfl)
          · go_simp
            go_at_call 76
            refine (hito.out _ (HT.out.below HBd.out)).mono ?_
            rintro ex wx1 ⟨rfl, hbx⟩
            have HBx := Lib.hid (HBd.out.trans (hbx.mono HBd.out.size))
            have cx : wx1.cell? ⟨b, 0, none⟩ = some v := (hbx.cell (p := ⟨b, 0, none⟩) (cell_lt cd)).trans cd
            clear hbx
            refine hK.out _ _ trivial (fun hHeld => ?_)
            clear hK K
            try simp only [Act.put, List.setIfInBounds_toArray, List.set_cons_zero, List.set_cons_succ]
            refine wpAnyH_ready (rs := [7]) (by kernel_rfl) (by simp) ?_
            refine AllReadyH.cons (o := ?_) ?_ (fun K hK => ?_) AllReadyH.nil
            rotate_left
            · (simp only [List.getElem?_toArray, List.getElem?_cons_succ, List.getElem?_cons_zero]; rfl)
            · go_simp
              have HBy := Lib.hid ((HBx.out).alloc HBx.out.size (.cells #[.string ⟨(Lib.itoa z).toArray⟩] 9))
              have cy : (wx1.alloc (.cells #[.string ⟨(Lib.itoa z).toArray⟩] 9)).cell? ⟨b, 0, none⟩ = some v := (World.cell?_alloc_lt wx1 _ _ (cell_lt cx)).trans cx
              refine hK.out _ _ trivial (fun hHeld => ?_)
              clear hK K
              try simp only [Act.put, List.setIfInBounds_toArray, List.set_cons_zero, List.set_cons_succ]
              refine wpAnyH_ready (rs := [8]) (by kernel_rfl) (by simp) ?_
              refine AllReadyH.cons (o := ?_) ?_ (fun K hK => ?_) AllReadyH.nil
              rotate_left
              · (simp only [List.getElem?_toArray, List.getElem?_cons_succ, List.getElem?_cons_zero]; rfl)
              · refine step_app2 (by rfl) (.tmp 16) (.tmp 19) 70 (by rfl) strTy (b + 1) ((HO.out.below HBx.out (Nat.le_refl _)).alloc _) (by rfl) (cells_new' wx1 [.string ⟨(Lib.itoa z).toArray⟩] _ _ rfl) (by rfl) (by rfl) (by simp [Value.oneCell']) (by unfold maxLen; omega) (by omega) (by have := HLT.out; have := HBx.out.size; simp; omega) ?_
                intro v' w9 hown9 hb9 hblk9 _
                obtain ⟨M, A', c', rfl⟩ : ∃ M A' c', v' = .slice A' M c' := (by obtain ⟨A', c', h⟩ := own_slice hown9; exact ⟨_, A', c', h⟩)
                have hr9 := (HR.out.below (HBy.out.mono (show b + 1 ≤ wr.heap.size from HLT.out)) (Nat.lt_succ_self b)).below hb9 (Nat.lt_succ_self b)
                have c9 : w9.cell? ⟨b, 0, none⟩ = some v := (hr9.cell 0).trans rfl
                have f9 : w9.frozen? ⟨b, 0, none⟩ = false := hr9.frozen 0
                have hk9 : KeepI wr w9 := keep_app HBy.out HO.out hblk9
                have hb9' : Below (b + 1) wr w9 := (HBy.out.mono (show b + 1 ≤ wr.heap.size from HLT.out)).trans hb9
                have HR9 := Lib.hid hr9
                have HO9 := Lib.hid hown9
                have HB9 := Lib.hid hb9'
                have HK9 := Lib.hid hk9
                clear hr9 hown9 hb9 hblk9 hk9 hb9'
                refine hK.out _ _ trivial (fun hHeld => ?_)
                clear hK K
                try simp only [Act.put, List.setIfInBounds_toArray, List.set_cons_zero, List.set_cons_succ]
                refine tkH 9 ?_
                try simp only [Act.put, List.setIfInBounds_toArray, List.set_cons_zero, List.set_cons_succ]
                refine tkH 10 ?_
                try simp only [Act.put, List.setIfInBounds_toArray, List.set_cons_zero, List.set_cons_succ]
                refine wpAnyH_ready (rs := [11]) (by kernel_rfl) (by simp) ?_
                refine AllReadyH.cons (o := ?_) ?_ (fun K hK => ?_) AllReadyH.nil
                rotate_left
                · (simp only [List.getElem?_toArray, List.getElem?_cons_succ, List.getElem?_cons_zero]; rfl)
                · go_simp
                  refine hK.out _ _ trivial (fun hHeld => ?_)
                  clear hK K
                  try simp only [Act.put, List.setIfInBounds_toArray, List.set_cons_zero, List.set_cons_succ]
                  refine wpAnyH_done (by kernel_rfl) ?_ _
                  have HF9 := Lib.hid (lnb_end (s := ⟨(Lib.itoa z).toArray⟩) (o2 := true) HB0.out hN HR9.out HO9.out HB9.out HK9.out)
                  have hr10 := HR9.out.set 0 (.slice A' M c')
                  have e1 : (w9.setCell ⟨b, 0, none⟩ (.slice A' M c')).cell? ⟨b, 1, none⟩ = some (.bool true) := (hr10.cell 1).trans rfl
                  have f1 : (w9.setCell ⟨b, 0, none⟩ (.slice A' M c')).frozen? ⟨b, 1, none⟩ = false := hr10.frozen 1
                  obtain ⟨w10, hw10⟩ : ∃ x, w9.setCell ⟨b, 0, none⟩ (.slice A' M c') = x := ⟨_, rfl⟩
                  rw [hw10] at e1 f1 HF9 ⊢
                  clear hr10 HR9 HO9 HB9 HK9 hw10 cd c9 f9
                  go_wp2_with fail
                  go_roundw
                  case rel => exact ⟨k + 1, by omega, by go_num, by rw [HQ.out, HTK.out]; exact HF9.out.1, HBw.out.trans (HF9.out.2.1), HKw.out.trans HF9.out.2.2⟩
                  case measure => simp [intOf]; omega
        · refine AllReadyH.cons (o := ?_) ?_ (fun K hK => ?_) AllReadyH.nil
          rotate_left
          · (simp only [List.getElem?_toArray, List.getElem?_cons_succ, List.getElem?_cons_zero]; rfl)
          · go_simp
            go_at_call 76
            refine (hito.out _ (HT.out.below HBd.out)).mono ?_
            rintro ex wx1 ⟨rfl, hbx⟩
            have HBx := Lib.hid (HBd.out.trans (hbx.mono HBd.out.size))
            have cx : wx1.cell? ⟨b, 0, none⟩ = some v := (hbx.cell (p := ⟨b, 0, none⟩) (cell_lt cd)).trans cd
            clear hbx
            refine hK.out _ _ trivial (fun hHeld => ?_)
            clear hK K
            try simp only [Act.put, List.setIfInBounds_toArray, List.set_cons_zero, List.set_cons_succ]
            refine wpAnyH_ready (rs := [4, 7]) (by kernel_rfl) (by simp) ?_
            refine AllReadyH.cons (o := ?_) ?_ (fun K hK => ?_) ?_
            rotate_left
            · (simp only [List.getElem?_toArray, List.getElem?_cons_succ, List.getElem?_cons_zero]; rfl)
            · go_simp
              refine hK.out _ _ trivial (fun hHeld => ?_)
              clear hK K
              try simp only [Act.put, List.setIfInBounds_toArray, List.set_cons_zero, List.set_cons_succ]
              refine wpAnyH_ready (rs := [7]) (by kernel_rfl) (by simp) ?_
              refine AllReadyH.cons (o := ?_) ?_ (fun K hK => ?_) AllReadyH.nil
              rotate_left
              · (simp only [List.getElem?_toArray, List.getElem?_cons_succ, List.getElem?_cons_zero]; rfl)
              · go_simp
                have HBy := Lib.hid ((HBx.out).alloc HBx.out.size (.cells #[.string ⟨(Lib.itoa z).toArray⟩] 9))
                have cy : (wx1.alloc (.cells #[.string ⟨(Lib.itoa z).toArray⟩] 9)).cell? ⟨b, 0, none⟩ = some v := (World.cell?_alloc_lt wx1 _ _ (cell_lt cx)).trans cx
                refine hK.out _ _ trivial (fun hHeld => ?_)
                clear hK K
                try simp only [Act.put, List.setIfInBounds_toArray, List.set_cons_zero, List.set_cons_succ]
                refine wpAnyH_ready (rs := [8]) (by kernel_rfl) (by simp) ?_
                refine AllReadyH.cons (o := ?_) ?_ (fun K hK => ?_) AllReadyH.nil
                rotate_left
                · (simp only [List.getElem?_toArray, List.getElem?_cons_succ, List.getElem?_cons_zero]; rfl)
                · refine step_app2 (by rfl) (.tmp 16) (.tmp 19) 70 (by rfl) strTy (b + 1) ((HO.out.below HBx.out (Nat.le_refl _)).alloc _) (by rfl) (cells_new' wx1 [.string ⟨(Lib.itoa z).toArray⟩] _ _ rfl) (by rfl) (by rfl) (by simp [Value.oneCell']) (by unfold maxLen; omega) (by omega) (by have := HLT.out; have := HBx.out.size; simp; omega) ?_
                  intro v' w9 hown9 hb9 hblk9 _
                  obtain ⟨M, A', c', rfl⟩ : ∃ M A' c', v' = .slice A' M c' := (by obtain ⟨A', c', h⟩ := own_slice hown9; exact ⟨_, A', c', h⟩)
                  have hr9 := (HR.out.below (HBy.out.mono (show b + 1 ≤ wr.heap.size from HLT.out)) (Nat.lt_succ_self b)).below hb9 (Nat.lt_succ_self b)
                  have c9 : w9.cell? ⟨b, 0, none⟩ = some v := (hr9.cell 0).trans rfl
                  have f9 : w9.frozen? ⟨b, 0, none⟩ = false := hr9.frozen 0
                  have hk9 : KeepI wr w9 := keep_app HBy.out HO.out hblk9
                  have hb9' : Below (b + 1) wr w9 := (HBy.out.mono (show b + 1 ≤ wr.heap.size from HLT.out)).trans hb9
                  have HR9 := Lib.hid hr9
                  have HO9 := Lib.hid hown9
                  have HB9 := Lib.hid hb9'
                  have HK9 := Lib.hid hk9
                  clear hr9 hown9 hb9 hblk9 hk9 hb9'
                  refine hK.out _ _ trivial (fun hHeld => ?_)
                  clear hK K
                  try simp only [Act.put, List.setIfInBounds_toArray, List.set_cons_zero, List.set_cons_succ]
                  refine tkH 9 ?_
                  try simp only [Act.put, List.setIfInBounds_toArray, List.set_cons_zero, List.set_cons_succ]
                  refine tkH 10 ?_
                  try simp only [Act.put, List.setIfInBounds_toArray, List.set_cons_zero, List.set_cons_succ]
                  refine wpAnyH_ready (rs := [11]) (by kernel_rfl) (by simp) ?_
                  refine AllReadyH.cons (o := ?_) ?_ (fun K hK => ?_) AllReadyH.nil
                  rotate_left
                  · (simp only [List.getElem?_toArray, List.getElem?_cons_succ, List.getElem?_cons_zero]; rfl)
                  · go_simp
                    refine hK.out _ _ trivial (fun hHeld => ?_)
                    clear hK K
                    try simp only [Act.put, List.setIfInBounds_toArray, List.set_cons_zero, List.set_cons_succ]
                    refine wpAnyH_done (by kernel_rfl) ?_ _
                    have HF9 := Lib.hid (lnb_end (s := ⟨(Lib.itoa z).toArray⟩) (o2 := true) HB0.out hN HR9.out HO9.out HB9.out HK9.out)
                    have hr10 := HR9.out.set 0 (.slice A' M c')
                    have e1 : (w9.setCell ⟨b, 0, none⟩ (.slice A' M c')).cell? ⟨b, 1, none⟩ = some (.bool true) := (hr10.cell 1).trans rfl
                    have f1 : (w9.setCell ⟨b, 0, none⟩ (.slice A' M c')).frozen? ⟨b, 1, none⟩ = false := hr10.frozen 1
                    obtain ⟨w10, hw10⟩ : ∃ x, w9.setCell ⟨b, 0, none⟩ (.slice A' M c') = x := ⟨_, rfl⟩
                    rw [hw10] at e1 f1 HF9 ⊢
                    clear hr10 HR9 HO9 HB9 HK9 hw10 cd c9 f9
                    go_wp2_with fail
                    go_roundw
                    case rel => exact ⟨k + 1, by omega, by go_num, by rw [HQ.out, HTK.out]; exact HF9.out.1, HBw.out.trans (HF9.out.2.1), HKw.out.trans HF9.out.2.2⟩
                    case measure => simp [intOf]; omega
            · refine AllReadyH.cons (o := ?_) ?_ (fun K hK => ?_) AllReadyH.nil
              rotate_left
              · (simp only [List.getElem?_toArray, List.getElem?_cons_succ, List.getElem?_cons_zero]; rfl)
              · go_simp
                have HBy := Lib.hid ((HBx.out).alloc HBx.out.size (.cells #[.string ⟨(Lib.itoa z).toArray⟩] 9))
                have cy : (wx1.alloc (.cells #[.string ⟨(Lib.itoa z).toArray⟩] 9)).cell? ⟨b, 0, none⟩ = some v := (World.cell?_alloc_lt wx1 _ _ (cell_lt cx)).trans cx
                refine hK.out _ _ trivial (fun hHeld => ?_)
                clear hK K
                try simp only [Act.put, List.setIfInBounds_toArray, List.set_cons_zero, List.set_cons_succ]
                refine wpAnyH_ready (rs := [4]) (by kernel_rfl) (by simp) ?_
                refine AllReadyH.cons (o := ?_) ?_ (fun K hK => ?_) AllReadyH.nil
                rotate_left
                · (simp only [List.getElem?_toArray, List.getElem?_cons_succ, List.getElem?_cons_zero]; rfl)
                · go_simp
                  refine hK.out _ _ trivial (fun hHeld => ?_)
                  clear hK K
                  try simp only [Act.put, List.setIfInBounds_toArray, List.set_cons_zero, List.set_cons_succ]
                  refine wpAnyH_ready (rs := [8]) (by kernel_rfl) (by simp) ?_
                  refine AllReadyH.cons (o := ?_) ?_ (fun K hK => ?_) AllReadyH.nil
                  rotate_left
                  · (simp only [List.getElem?_toArray, List.getElem?_cons_succ, List.getElem?_cons_zero]; rfl)
                  · refine step_app2 (by rfl) (.tmp 16) (.tmp 19) 70 (by rfl) strTy (b + 1) ((HO.out.below HBx.out (Nat.le_refl _)).alloc _) (by rfl) (cells_new' wx1 [.string ⟨(Lib.itoa z).toArray⟩] _ _ rfl) (by rfl) (by rfl) (by simp [Value.oneCell']) (by unfold maxLen; omega) (by omega) (by have := HLT.out; have := HBx.out.size; simp; omega) ?_
                    intro v' w9 hown9 hb9 hblk9 _
                    obtain ⟨M, A', c', rfl⟩ : ∃ M A' c', v' = .slice A' M c' := (by obtain ⟨A', c', h⟩ := own_slice hown9; exact ⟨_, A', c', h⟩)
                    have hr9 := (HR.out.below (HBy.out.mono (show b + 1 ≤ wr.heap.size from HLT.out)) (Nat.lt_succ_self b)).below hb9 (Nat.lt_succ_self b)
                    have c9 : w9.cell? ⟨b, 0, none⟩ = some v := (hr9.cell 0).trans rfl
                    have f9 : w9.frozen? ⟨b, 0, none⟩ = false := hr9.frozen 0
                    have hk9 : KeepI wr w9 := keep_app HBy.out HO.out hblk9
                    have hb9' : Below (b + 1) wr w9 := (HBy.out.mono (show b + 1 ≤ wr.heap.size from HLT.out)).trans hb9
                    have HR9 := Lib.hid hr9
                    have HO9 := Lib.hid hown9
                    have HB9 := Lib.hid hb9'
                    have HK9 := Lib.hid hk9
                    clear hr9 hown9 hb9 hblk9 hk9 hb9'
                    refine hK.out _ _ trivial (fun hHeld => ?_)
                    clear hK K
                    try simp only [Act.put, List.setIfInBounds_toArray, List.set_cons_zero, List.set_cons_succ]
                    refine tkH 9 ?_
                    try simp only [Act.put, List.setIfInBounds_toArray, List.set_cons_zero, List.set_cons_succ]
                    refine tkH 10 ?_
                    try simp only [Act.put, List.setIfInBounds_toArray, List.set_cons_zero, List.set_cons_succ]
                    refine wpAnyH_ready (rs := [11]) (by kernel_rfl) (by simp) ?_
                    refine AllReadyH.cons (o := ?_) ?_ (fun K hK => ?_) AllReadyH.nil
                    rotate_left
                    · (simp only [List.getElem?_toArray, List.getElem?_cons_succ, List.getElem?_cons_zero]; rfl)
                    · go_simp
                      refine hK.out _ _ trivial (fun hHeld => ?_)
                      clear hK K
                      try simp only [Act.put, List.setIfInBounds_toArray, List.set_cons_zero, List.set_cons_succ]
                      refine wpAnyH_done (by kernel_rfl) ?_ _
                      have HF9 := Lib.hid (lnb_end (s := ⟨(Lib.itoa z).toArray⟩) (o2 := true) HB0.out hN HR9.out HO9.out HB9.out HK9.out)
                      have hr10 := HR9.out.set 0 (.slice A' M c')
                      have e1 : (w9.setCell ⟨b, 0, none⟩ (.slice A' M c')).cell? ⟨b, 1, none⟩ = some (.bool true) := (hr10.cell 1).trans rfl
                      have f1 : (w9.setCell ⟨b, 0, none⟩ (.slice A' M c')).frozen? ⟨b, 1, none⟩ = false := hr10.frozen 1
                      obtain ⟨w10, hw10⟩ : ∃ x, w9.setCell ⟨b, 0, none⟩ (.slice A' M c') = x := ⟨_, rfl⟩
                      rw [hw10] at e1 f1 HF9 ⊢
                      clear hr10 HR9 HO9 HB9 HK9 hw10 cd c9 f9
                      go_wp2_with fail
                      go_roundw
                      case rel => exact ⟨k + 1, by omega, by go_num, by rw [HQ.out, HTK.out]; exact HF9.out.1, HBw.out.trans (HF9.out.2.1), HKw.out.trans HF9.out.2.2⟩
                      case measure => simp [intOf]; omega
      | false =>
        rw [hq] at HR
        by_cases h0 : z < 0
        · have h1 : ¬ 1099511627776 < z := by omega
          have t0 : decide (z < 0) = true := decide_eq_true h0
          have HQ := Lib.hid (show (odd || (l.take (k + 1)).any fun x => !topB x) = true by rw [take_snoc hz, List.any_append, ← Bool.or_assoc, hq]; simp [topB, h0, h1])
          clear hz
          go_wp2_with fail
          refine wp_region_held_drew (S := (fun _ : World => True)) (by kernel_rfl) trivial (fun hHeld => ?_)
          have HBd := Lib.hid (Below.refl wr.heap.size wr).drew
          have cd : wr.drew.cell? ⟨b, 0, none⟩ = some v := c0
          generalize wr.drew = wd at HBd cd ⊢
          refine tkH 0 ?_
          try simp only [Act.put, List.setIfInBounds_toArray, List.set_cons_zero, List.set_cons_succ]
          refine tkH 1 ?_
          try simp only [Act.put, List.setIfInBounds_toArray, List.set_cons_zero, List.set_cons_succ]
          refine tkH 2 ?_
          try simp only [Act.put, List.setIfInBounds_toArray, List.set_cons_zero, List.set_cons_succ]
          refine tkH 3 ?_
          try simp only [Act.put, List.setIfInBounds_toArray, List.set_cons_zero, List.set_cons_succ]
          refine tkH 5 ?_
          try simp only [Act.put, List.setIfInBounds_toArray, List.set_cons_zero, List.set_cons_succ]
          refine wpAnyH_ready (rs := [4, 6]) (by kernel_rfl) (by simp) ?_
          refine AllReadyH.cons (o := ?_) ?_ (fun K hK => ?_) ?_
          rotate_left
          · (simp only [List.getElem?_toArray, List.getElem?_cons_succ, List.getElem?_cons_zero]; rfl)
          · go_simp
            refine hK.out _ _ trivial (fun hHeld => ?_)
            clear hK K
            try simp only [Act.put, List.setIfInBounds_toArray, List.set_cons_zero, List.set_cons_succ]
            refine wpAnyH_ready (rs := [6]) (by kernel_rfl) (by simp) ?_
            refine AllReadyH.cons (o := ?_) ?_ (fun K hK => ?_) AllReadyH.nil
            rotate_left
            · (simp only [List.getElem?_toArray, List.getElem?_cons_succ, List.getElem?_cons_zero]; rfl)
            · go_simp
              go_at_call 76
              refine (hito.out _ (HT.out.below HBd.out)).mono ?_
              rintro ex wx1 ⟨rfl, hbx⟩
              have HBx := Lib.hid (HBd.out.trans (hbx.mono HBd.out.size))
              have cx : wx1.cell? ⟨b, 0, none⟩ = some v := (hbx.cell (p := ⟨b, 0, none⟩) (cell_lt cd)).trans cd
              clear hbx
              refine hK.out _ _ trivial (fun hHeld => ?_)
              clear hK K
              try simp only [Act.put, List.setIfInBounds_toArray, List.set_cons_zero, List.set_cons_succ]
              refine wpAnyH_ready (rs := [7]) (by kernel_rfl) (by simp) ?_
              refine AllReadyH.cons (o := ?_) ?_ (fun K hK => ?_) AllReadyH.nil
              rotate_left
              · (simp only [List.getElem?_toArray, List.getElem?_cons_succ, List.getElem?_cons_zero]; rfl)
              · go_simp
                have HBy := Lib.hid ((HBx.out).alloc HBx.out.size (.cells #[.string ⟨(Lib.itoa z).toArray⟩] 9))
                have cy : (wx1.alloc (.cells #[.string ⟨(Lib.itoa z).toArray⟩] 9)).cell? ⟨b, 0, none⟩ = some v := (World.cell?_alloc_lt wx1 _ _ (cell_lt cx)).trans cx
                refine hK.out _ _ trivial (fun hHeld => ?_)
                clear hK K
                try simp only [Act.put, List.setIfInBounds_toArray, List.set_cons_zero, List.set_cons_succ]
                refine wpAnyH_ready (rs := [8]) (by kernel_rfl) (by simp) ?_
                refine AllReadyH.cons (o := ?_) ?_ (fun K hK => ?_) AllReadyH.nil
                rotate_left
                · (simp only [List.getElem?_toArray, List.getElem?_cons_succ, List.getElem?_cons_zero]; rfl)
                · refine step_app2 (by rfl) (.tmp 16) (.tmp 19) 70 (by rfl) strTy (b + 1) ((HO.out.below HBx.out (Nat.le_refl _)).alloc _) (by rfl) (cells_new' wx1 [.string ⟨(Lib.itoa z).toArray⟩] _ _ rfl) (by rfl) (by rfl) (by simp [Value.oneCell']) (by unfold maxLen; omega) (by omega) (by have := HLT.out; have := HBx.out.size; simp; omega) ?_
                  intro v' w9 hown9 hb9 hblk9 _
                  obtain ⟨M, A', c', rfl⟩ : ∃ M A' c', v' = .slice A' M c' := (by obtain ⟨A', c', h⟩ := own_slice hown9; exact ⟨_, A', c', h⟩)
                  have hr9 := (HR.out.below (HBy.out.mono (show b + 1 ≤ wr.heap.size from HLT.out)) (Nat.lt_succ_self b)).below hb9 (Nat.lt_succ_self b)
                  have c9 : w9.cell? ⟨b, 0, none⟩ = some v := (hr9.cell 0).trans rfl
                  have f9 : w9.frozen? ⟨b, 0, none⟩ = false := hr9.frozen 0
                  have hk9 : KeepI wr w9 := keep_app HBy.out HO.out hblk9
                  have hb9' : Below (b + 1) wr w9 := (HBy.out.mono (show b + 1 ≤ wr.heap.size from HLT.out)).trans hb9
                  have HR9 := Lib.hid hr9
                  have HO9 := Lib.hid hown9
                  have HB9 := Lib.hid hb9'
                  have HK9 := Lib.hid hk9
                  clear hr9 hown9 hb9 hblk9 hk9 hb9'
                  refine hK.out _ _ trivial (fun hHeld => ?_)
                  clear hK K
                  try simp only [Act.put, List.setIfInBounds_toArray, List.set_cons_zero, List.set_cons_succ]
                  refine tkH 9 ?_
                  try simp only [Act.put, List.setIfInBounds_toArray, List.set_cons_zero, List.set_cons_succ]
                  refine tkH 10 ?_
                  try simp only [Act.put, List.setIfInBounds_toArray, List.set_cons_zero, List.set_cons_succ]
                  refine wpAnyH_ready (rs := [11]) (by kernel_rfl) (by simp) ?_
                  refine AllReadyH.cons (o := ?_) ?_ (fun K hK => ?_) AllReadyH.nil
                  rotate_left
                  · (simp only [List.getElem?_toArray, List.getElem?_cons_succ, List.getElem?_cons_zero]; rfl)
                  · go_simp
                    refine hK.out _ _ trivial (fun hHeld => ?_)
                    clear hK K
                    try simp only [Act.put, List.setIfInBounds_toArray, List.set_cons_zero, List.set_cons_succ]
                    refine wpAnyH_done (by kernel_rfl) ?_ _
                    have HF9 := Lib.hid (lnb_end (s := ⟨(Lib.itoa z).toArray⟩) (o2 := true) HB0.out hN HR9.out HO9.out HB9.out HK9.out)
                    have hr10 := HR9.out.set 0 (.slice A' M c')
                    have e1 : (w9.setCell ⟨b, 0, none⟩ (.slice A' M c')).cell? ⟨b, 1, none⟩ = some (.bool false) := (hr10.cell 1).trans rfl
                    have f1 : (w9.setCell ⟨b, 0, none⟩ (.slice A' M c')).frozen? ⟨b, 1, none⟩ = false := hr10.frozen 1
                    obtain ⟨w10, hw10⟩ : ∃ x, w9.setCell ⟨b, 0, none⟩ (.slice A' M c') = x := ⟨_, rfl⟩
                    rw [hw10] at e1 f1 HF9 ⊢
                    clear hr10 HR9 HO9 HB9 HK9 hw10 cd c9 f9
                    go_wp2_with fail
                    go_roundw
                    case rel => exact ⟨k + 1, by omega, by go_num, by rw [HQ.out, HTK.out]; exact HF9.out.1, HBw.out.trans (HF9.out.2.1), HKw.out.trans HF9.out.2.2⟩
                    case measure => simp [intOf]; omega
          · refine AllReadyH.cons (o := ?_) ?_ (fun K hK => ?_) AllReadyH.nil
            rotate_left
            · (simp only [List.getElem?_toArray, List.getElem?_cons_succ, List.getElem?_cons_zero]; rfl)
            · go_simp
              go_at_call 76
              refine (hito.out _ (HT.out.below HBd.out)).mono ?_
              rintro ex wx1 ⟨rfl, hbx⟩
              have HBx := Lib.hid (HBd.out.trans (hbx.mono HBd.out.size))
              have cx : wx1.cell? ⟨b, 0, none⟩ = some v := (hbx.cell (p := ⟨b, 0, none⟩) (cell_lt cd)).trans cd
              clear hbx
              refine hK.out _ _ trivial (fun hHeld => ?_)
              clear hK K
              try simp only [Act.put, List.setIfInBounds_toArray, List.set_cons_zero, List.set_cons_succ]
              refine wpAnyH_ready (rs := [4, 7]) (by kernel_rfl) (by simp) ?_
              refine AllReadyH.cons (o := ?_) ?_ (fun K hK => ?_) ?_
              rotate_left
              · (simp only [List.getElem?_toArray, List.getElem?_cons_succ, List.getElem?_cons_zero]; rfl)
              · go_simp
                refine hK.out _ _ trivial (fun hHeld => ?_)
                clear hK K
                try simp only [Act.put, List.setIfInBounds_toArray, List.set_cons_zero, List.set_cons_succ]
                refine wpAnyH_ready (rs := [7]) (by kernel_rfl) (by simp) ?_
                refine AllReadyH.cons (o := ?_) ?_ (fun K hK => ?_) AllReadyH.nil
                rotate_left
                · (simp only [List.getElem?_toArray, List.getElem?_cons_succ, List.getElem?_cons_zero]; rfl)
                · go_simp
                  have HBy := Lib.hid ((HBx.out).alloc HBx.out.size (.cells #[.string ⟨(Lib.itoa z).toArray⟩] 9))
                  have cy : (wx1.alloc (.cells #[.string ⟨(Lib.itoa z).toArray⟩] 9)).cell? ⟨b, 0, none⟩ = some v := (World.cell?_alloc_lt wx1 _ _ (cell_lt cx)).trans cx
                  refine hK.out _ _ trivial (fun hHeld => ?_)
                  clear hK K
                  try simp only [Act.put, List.setIfInBounds_toArray, List.set_cons_zero, List.set_cons_succ]
                  refine wpAnyH_ready (rs := [8]) (by kernel_rfl) (by simp) ?_
                  refine AllReadyH.cons (o := ?_) ?_ (fun K hK => ?_) AllReadyH.nil
                  rotate_left
                  · (simp only [List.getElem?_toArray, List.getElem?_cons_succ, List.getElem?_cons_zero]; rfl)
                  · refine step_app2 (by rfl) (.tmp 16) (.tmp 19) 70 (by rfl) strTy (b + 1) ((HO.out.below HBx.out (Nat.le_refl _)).alloc _) (by rfl) (cells_new' wx1 [.string ⟨(Lib.itoa z).toArray⟩] _ _ rfl) (by rfl) (by rfl) (by simp [Value.oneCell']) (by unfold maxLen; omega) (by omega) (by have := HLT.out; have := HBx.out.size; simp; omega) ?_
                    intro v' w9 hown9 hb9 hblk9 _
                    obtain ⟨M, A', c', rfl⟩ : ∃ M A' c', v' = .slice A' M c' := (by obtain ⟨A', c', h⟩ := own_slice hown9; exact ⟨_, A', c', h⟩)
                    have hr9 := (HR.out.below (HBy.out.mono (show b + 1 ≤ wr.heap.size from HLT.out)) (Nat.lt_succ_self b)).below hb9 (Nat.lt_succ_self b)
                    have c9 : w9.cell? ⟨b, 0, none⟩ = some v := (hr9.cell 0).trans rfl
                    have f9 : w9.frozen? ⟨b, 0, none⟩ = false := hr9.frozen 0
                    have hk9 : KeepI wr w9 := keep_app HBy.out HO.out hblk9
                    have hb9' : Below (b + 1) wr w9 := (HBy.out.mono (show b + 1 ≤ wr.heap.size from HLT.out)).trans hb9
                    have HR9 := Lib.hid hr9
                    have HO9 := Lib.hid hown9
                    have HB9 := Lib.hid hb9'
                    have HK9 := Lib.hid hk9
                    clear hr9 hown9 hb9 hblk9 hk9 hb9'
                    refine hK.out _ _ trivial (fun hHeld => ?_)
                    clear hK K
                    try simp only [Act.put, List.setIfInBounds_toArray, List.set_cons_zero, List.set_cons_succ]
                    refine tkH 9 ?_
                    try simp only [Act.put, List.setIfInBounds_toArray, List.set_cons_zero, List.set_cons_succ]
                    refine tkH 10 ?_
                    try simp only [Act.put, List.setIfInBounds_toArray, List.set_cons_zero, List.set_cons_succ]
                    refine wpAnyH_ready (rs := [11]) (by kernel_rfl) (by simp) ?_
                    refine AllReadyH.cons (o := ?_) ?_ (fun K hK => ?_) AllReadyH.nil
                    rotate_left
                    · (simp only [List.getElem?_toArray, List.getElem?_cons_succ, List.getElem?_cons_zero]; rfl)
                    · go_simp
                      refine hK.out _ _ trivial (fun hHeld => ?_)
                      clear hK K
                      try simp only [Act.put, List.setIfInBounds_toArray, List.set_cons_zero, List.set_cons_succ]
                      refine wpAnyH_done (by kernel_rfl) ?_ _
                      have HF9 := Lib.hid (lnb_end (s := ⟨(Lib.itoa z).toArray⟩) (o2 := true) HB0.out hN HR9.out HO9.out HB9.out HK9.out)
                      have hr10 := HR9.out.set 0 (.slice A' M c')
                      have e1 : (w9.setCell ⟨b, 0, none⟩ (.slice A' M c')).cell? ⟨b, 1, none⟩ = some (.bool false) := (hr10.cell 1).trans rfl
                      have f1 : (w9.setCell ⟨b, 0, none⟩ (.slice A' M c')).frozen? ⟨b, 1, none⟩ = false := hr10.frozen 1
                      obtain ⟨w10, hw10⟩ : ∃ x, w9.setCell ⟨b, 0, none⟩ (.slice A' M c') = x := ⟨_, rfl⟩
                      rw [hw10] at e1 f1 HF9 ⊢
                      clear hr10 HR9 HO9 HB9 HK9 hw10 cd c9 f9
                      go_wp2_with fail
                      go_roundw
                      case rel => exact ⟨k + 1, by omega, by go_num, by rw [HQ.out, HTK.out]; exact HF9.out.1, HBw.out.trans (HF9.out.2.1), HKw.out.trans HF9.out.2.2⟩
                      case measure => simp [intOf]; omega
              · refine AllReadyH.cons (o := ?_) ?_ (fun K hK => ?_) AllReadyH.nil
                rotate_left
                · (simp only [List.getElem?_toArray, List.getElem?_cons_succ, List.getElem?_cons_zero]; rfl)
                · go_simp
                  have HBy := Lib.hid ((HBx.out).alloc HBx.out.size (.cells #[.string ⟨(Lib.itoa z).toArray⟩] 9))
                  have cy : (wx1.alloc (.cells #[.string ⟨(Lib.itoa z).toArray⟩] 9)).cell? ⟨b, 0, none⟩ = some v := (World.cell?_alloc_lt wx1 _ _ (cell_lt cx)).trans cx
                  refine hK.out _ _ trivial (fun hHeld => ?_)
                  clear hK K
                  try simp only [Act.put, List.setIfInBounds_toArray, List.set_cons_zero, List.set_cons_succ]
                  refine wpAnyH_ready (rs := [4]) (by kernel_rfl) (by simp) ?_
                  refine AllReadyH.cons (o := ?_) ?_ (fun K hK => ?_) AllReadyH.nil
                  rotate_left
                  · (simp only [List.getElem?_toArray, List.getElem?_cons_succ, List.getElem?_cons_zero]; rfl)
                  · go_simp
                    refine hK.out _ _ trivial (fun hHeld => ?_)
                    clear hK K
                    try simp only [Act.put, List.setIfInBounds_toArray, List.set_cons_zero, List.set_cons_succ]
                    refine wpAnyH_ready (rs := [8]) (by kernel_rfl) (by simp) ?_
                    refine AllReadyH.cons (o := ?_) ?_ (fun K hK => ?_) AllReadyH.nil
                    rotate_left
                    · (simp only [List.getElem?_toArray, List.getElem?_cons_succ, List.getElem?_cons_zero]; rfl)
                    · refine step_app2 (by rfl) (.tmp 16) (.tmp 19) 70 (by rfl) strTy (b + 1) ((HO.out.below HBx.out (Nat.le_refl _)).alloc _) (by rfl) (cells_new' wx1 [.string ⟨(Lib.itoa z).toArray⟩] _ _ rfl) (by rfl) (by rfl) (by simp [Value.oneCell']) (by unfold maxLen; omega) (by omega) (by have := HLT.out; have := HBx.out.size; simp; omega) ?_
                      intro v' w9 hown9 hb9 hblk9 _
                      obtain ⟨M, A', c', rfl⟩ : ∃ M A' c', v' = .slice A' M c' := (by obtain ⟨A', c', h⟩ := own_slice hown9; exact ⟨_, A', c', h⟩)
                      have hr9 := (HR.out.below (HBy.out.mono (show b + 1 ≤ wr.heap.size from HLT.out)) (Nat.lt_succ_self b)).below hb9 (Nat.lt_succ_self b)
                      have c9 : w9.cell? ⟨b, 0, none⟩ = some v := (hr9.cell 0).trans rfl
                      have f9 : w9.frozen? ⟨b, 0, none⟩ = false := hr9.frozen 0
                      have hk9 : KeepI wr w9 := keep_app HBy.out HO.out hblk9
                      have hb9' : Below (b + 1) wr w9 := (HBy.out.mono (show b + 1 ≤ wr.heap.size from HLT.out)).trans hb9
                      have HR9 := Lib.hid hr9
                      have HO9 := Lib.hid hown9
                      have HB9 := Lib.hid hb9'
                      have HK9 := Lib.hid hk9
                      clear hr9 hown9 hb9 hblk9 hk9 hb9'
                      refine hK.out _ _ trivial (fun hHeld => ?_)
                      clear hK K
                      try simp only [Act.put, List.setIfInBounds_toArray, List.set_cons_zero, List.set_cons_succ]
                      refine tkH 9 ?_
                      try simp only [Act.put, List.setIfInBounds_toArray, List.set_cons_zero, List.set_cons_succ]
                      refine tkH 10 ?_
                      try simp only [Act.put, List.setIfInBounds_toArray, List.set_cons_zero, List.set_cons_succ]
                      refine wpAnyH_ready (rs := [11]) (by kernel_rfl) (by simp) ?_
                      refine AllReadyH.cons (o := ?_) ?_ (fun K hK => ?_) AllReadyH.nil
                      rotate_left
                      · (simp only [List.getElem?_toArray, List.getElem?_cons_succ, List.getElem?_cons_zero]; rfl)
                      · go_simp
                        refine hK.out _ _ trivial (fun hHeld => ?_)
                        clear hK K
                        try simp only [Act.put, List.setIfInBounds_toArray, List.set_cons_zero, List.set_cons_succ]
                        refine wpAnyH_done (by kernel_rfl) ?_ _
                        have HF9 := Lib.hid (lnb_end (s := ⟨(Lib.itoa z).toArray⟩) (o2 := true) HB0.out hN HR9.out HO9.out HB9.out HK9.out)
                        have hr10 := HR9.out.set 0 (.slice A' M c')
                        have e1 : (w9.setCell ⟨b, 0, none⟩ (.slice A' M c')).cell? ⟨b, 1, none⟩ = some (.bool false) := (hr10.cell 1).trans rfl
                        have f1 : (w9.setCell ⟨b, 0, none⟩ (.slice A' M c')).frozen? ⟨b, 1, none⟩ = false := hr10.frozen 1
                        obtain ⟨w10, hw10⟩ : ∃ x, w9.setCell ⟨b, 0, none⟩ (.slice A' M c') = x := ⟨_, rfl⟩
                        rw [hw10] at e1 f1 HF9 ⊢
                        clear hr10 HR9 HO9 HB9 HK9 hw10 cd c9 f9
                        go_wp2_with fail
                        go_roundw
                        case rel => exact ⟨k + 1, by omega, by go_num, by rw [HQ.out, HTK.out]; exact HF9.out.1, HBw.out.trans (HF9.out.2.1), HKw.out.trans HF9.out.2.2⟩
                        case measure => simp [intOf]; omega
        · by_cases h1 : 1099511627776 < z
          · have t0 : decide (z < 0) = false := decide_eq_false h0
            have t1 : decide (1099511627776 < z) = true := decide_eq_true h1
            have HQ := Lib.hid (show (odd || (l.take (k + 1)).any fun x => !topB x) = true by rw [take_snoc hz, List.any_append, ← Bool.or_assoc, hq]; simp [topB, h0, h1])
            clear hz
            go_wp2_with fail
            refine wp_region_held_drew (S := (fun _ : World => True)) (by kernel_rfl) trivial (fun hHeld => ?_)
            have HBd := Lib.hid (Below.refl wr.heap.size wr).drew
            have cd : wr.drew.cell? ⟨b, 0, none⟩ = some v := c0
            generalize wr.drew = wd at HBd cd ⊢
            refine tkH 0 ?_
            try simp only [Act.put, List.setIfInBounds_toArray, List.set_cons_zero, List.set_cons_succ]
            refine tkH 1 ?_
            try simp only [Act.put, List.setIfInBounds_toArray, List.set_cons_zero, List.set_cons_succ]
            refine tkH 2 ?_
            try simp only [Act.put, List.setIfInBounds_toArray, List.set_cons_zero, List.set_cons_succ]
            refine tkH 3 ?_
            try simp only [Act.put, List.setIfInBounds_toArray, List.set_cons_zero, List.set_cons_succ]
            refine tkH 5 ?_
            try simp only [Act.put, List.setIfInBounds_toArray, List.set_cons_zero, List.set_cons_succ]
            refine wpAnyH_ready (rs := [4, 6]) (by kernel_rfl) (by simp) ?_
            refine AllReadyH.cons (o := ?_) ?_ (fun K hK => ?_) ?_
            rotate_left
            · (simp only [List.getElem?_toArray, List.getElem?_cons_succ, List.getElem?_cons_zero]; rfl)
            · go_simp
              refine hK.out _ _ trivial (fun hHeld => ?_)
              clear hK K
              try simp only [Act.put, List.setIfInBounds_toArray, List.set_cons_zero, List.set_cons_succ]
              refine wpAnyH_ready (rs := [6]) (by kernel_rfl) (by simp) ?_
              refine AllReadyH.cons (o := ?_) ?_ (fun K hK => ?_) AllReadyH.nil
              rotate_left
              · (simp only [List.getElem?_toArray, List.getElem?_cons_succ, List.getElem?_cons_zero]; rfl)
              · go_simp
                go_at_call 76
                refine (hito.out _ (HT.out.below HBd.out)).mono ?_
                rintro ex wx1 ⟨rfl, hbx⟩
                have HBx := Lib.hid (HBd.out.trans (hbx.mono HBd.out.size))
                have cx : wx1.cell? ⟨b, 0, none⟩ = some v := (hbx.cell (p := ⟨b, 0, none⟩) (cell_lt cd)).trans cd
                clear hbx
                refine hK.out _ _ trivial (fun hHeld => ?_)
                clear hK K
                try simp only [Act.put, List.setIfInBounds_toArray, List.set_cons_zero, List.set_cons_succ]
                refine wpAnyH_ready (rs := [7]) (by kernel_rfl) (by simp) ?_
                refine AllReadyH.cons (o := ?_) ?_ (fun K hK => ?_) AllReadyH.nil
                rotate_left
                · (simp only [List.getElem?_toArray, List.getElem?_cons_succ, List.getElem?_cons_zero]; rfl)
                · go_simp
                  have HBy := Lib.hid ((HBx.out).alloc HBx.out.size (.cells #[.string ⟨(Lib.itoa z).toArray⟩] 9))
                  have cy : (wx1.alloc (.cells #[.string ⟨(Lib.itoa z).toArray⟩] 9)).cell? ⟨b, 0, none⟩ = some v := (World.cell?_alloc_lt wx1 _ _ (cell_lt cx)).trans cx
                  refine hK.out _ _ trivial (fun hHeld => ?_)
                  clear hK K
                  try simp only [Act.put, List.setIfInBounds_toArray, List.set_cons_zero, List.set_cons_succ]
                  refine wpAnyH_ready (rs := [8]) (by kernel_rfl) (by simp) ?_
                  refine AllReadyH.cons (o := ?_) ?_ (fun K hK => ?_) AllReadyH.nil
                  rotate_left
                  · (simp only [List.getElem?_toArray, List.getElem?_cons_succ, List.getElem?_cons_zero]; rfl)
                  · refine step_app2 (by rfl) (.tmp 16) (.tmp 19) 70 (by rfl) strTy (b + 1) ((HO.out.below HBx.out (Nat.le_refl _)).alloc _) (by rfl) (cells_new' wx1 [.string ⟨(Lib.itoa z).toArray⟩] _ _ rfl) (by rfl) (by rfl) (by simp [Value.oneCell']) (by unfold maxLen; omega) (by omega) (by have := HLT.out; have := HBx.out.size; simp; omega) ?_
                    intro v' w9 hown9 hb9 hblk9 _
                    obtain ⟨M, A', c', rfl⟩ : ∃ M A' c', v' = .slice A' M c' := (by obtain ⟨A', c', h⟩ := own_slice hown9; exact ⟨_, A', c', h⟩)
                    have hr9 := (HR.out.below (HBy.out.mono (show b + 1 ≤ wr.heap.size from HLT.out)) (Nat.lt_succ_self b)).below hb9 (Nat.lt_succ_self b)
                    have c9 : w9.cell? ⟨b, 0, none⟩ = some v := (hr9.cell 0).trans rfl
                    have f9 : w9.frozen? ⟨b, 0, none⟩ = false := hr9.frozen 0
                    have hk9 : KeepI wr w9 := keep_app HBy.out HO.out hblk9
                    have hb9' : Below (b + 1) wr w9 := (HBy.out.mono (show b + 1 ≤ wr.heap.size from HLT.out)).trans hb9
                    have HR9 := Lib.hid hr9
                    have HO9 := Lib.hid hown9
                    have HB9 := Lib.hid hb9'
                    have HK9 := Lib.hid hk9
                    clear hr9 hown9 hb9 hblk9 hk9 hb9'
                    refine hK.out _ _ trivial (fun hHeld => ?_)
                    clear hK K
                    try simp only [Act.put, List.setIfInBounds_toArray, List.set_cons_zero, List.set_cons_succ]
                    refine tkH 9 ?_
                    try simp only [Act.put, List.setIfInBounds_toArray, List.set_cons_zero, List.set_cons_succ]
                    refine tkH 10 ?_
                    try simp only [Act.put, List.setIfInBounds_toArray, List.set_cons_zero, List.set_cons_succ]
                    refine wpAnyH_ready (rs := [11]) (by kernel_rfl) (by simp) ?_
                    refine AllReadyH.cons (o := ?_) ?_ (fun K hK => ?_) AllReadyH.nil
                    rotate_left
                    · (simp only [List.getElem?_toArray, List.getElem?_cons_succ, List.getElem?_cons_zero]; rfl)
                    · go_simp
                      refine hK.out _ _ trivial (fun hHeld => ?_)
                      clear hK K
                      try simp only [Act.put, List.setIfInBounds_toArray, List.set_cons_zero, List.set_cons_succ]
                      refine wpAnyH_done (by kernel_rfl) ?_ _
                      have HF9 := Lib.hid (lnb_end (s := ⟨(Lib.itoa z).toArray⟩) (o2 := true) HB0.out hN HR9.out HO9.out HB9.out HK9.out)
                      have hr10 := HR9.out.set 0 (.slice A' M c')
                      have e1 : (w9.setCell ⟨b, 0, none⟩ (.slice A' M c')).cell? ⟨b, 1, none⟩ = some (.bool false) := (hr10.cell 1).trans rfl
                      have f1 : (w9.setCell ⟨b, 0, none⟩ (.slice A' M c')).frozen? ⟨b, 1, none⟩ = false := hr10.frozen 1
                      obtain ⟨w10, hw10⟩ : ∃ x, w9.setCell ⟨b, 0, none⟩ (.slice A' M c') = x := ⟨_, rfl⟩
                      rw [hw10] at e1 f1 HF9 ⊢
                      clear hr10 HR9 HO9 HB9 HK9 hw10 cd c9 f9
                      go_wp2_with fail
                      go_roundw
                      case rel => exact ⟨k + 1, by omega, by go_num, by rw [HQ.out, HTK.out]; exact HF9.out.1, HBw.out.trans (HF9.out.2.1), HKw.out.trans HF9.out.2.2⟩
                      case measure => simp [intOf]; omega
            · refine AllReadyH.cons (o := ?_) ?_ (fun K hK => ?_) AllReadyH.nil
              rotate_left
              · (simp only [List.getElem?_toArray, List.getElem?_cons_succ, List.getElem?_cons_zero]; rfl)
              · go_simp
                go_at_call 76
                refine (hito.out _ (HT.out.below HBd.out)).mono ?_
                rintro ex wx1 ⟨rfl, hbx⟩
                have HBx := Lib.hid (HBd.out.trans (hbx.mono HBd.out.size))
                have cx : wx1.cell? ⟨b, 0, none⟩ = some v := (hbx.cell (p := ⟨b, 0, none⟩) (cell_lt cd)).trans cd
                clear hbx
                refine hK.out _ _ trivial (fun hHeld => ?_)
                clear hK K
                try simp only [Act.put, List.setIfInBounds_toArray, List.set_cons_zero, List.set_cons_succ]
                refine wpAnyH_ready (rs := [4, 7]) (by kernel_rfl) (by simp) ?_
                refine AllReadyH.cons (o := ?_) ?_ (fun K hK => ?_) ?_
                rotate_left
                · (simp only [List.getElem?_toArray, List.getElem?_cons_succ, List.getElem?_cons_zero]; rfl)
                · go_simp
                  refine hK.out _ _ trivial (fun hHeld => ?_)
                  clear hK K
                  try simp only [Act.put, List.setIfInBounds_toArray, List.set_cons_zero, List.set_cons_succ]
                  refine wpAnyH_ready (rs := [7]) (by kernel_rfl) (by simp) ?_
                  refine AllReadyH.cons (o := ?_) ?_ (fun K hK => ?_) AllReadyH.nil
                  rotate_left
                  · (simp only [List.getElem?_toArray, List.getElem?_cons_succ, List.getElem?_cons_zero]; rfl)
                  · go_simp
                    have HBy := Lib.hid ((HBx.out).alloc HBx.out.size (.cells #[.string ⟨(Lib.itoa z).toArray⟩] 9))
                    have cy : (wx1.alloc (.cells #[.string ⟨(Lib.itoa z).toArray⟩] 9)).cell? ⟨b, 0, none⟩ = some v := (World.cell?_alloc_lt wx1 _ _ (cell_lt cx)).trans cx
                    refine hK.out _ _ trivial (fun hHeld => ?_)
                    clear hK K
                    try simp only [Act.put, List.setIfInBounds_toArray, List.set_cons_zero, List.set_cons_succ]
                    refine wpAnyH_ready (rs := [8]) (by kernel_rfl) (by simp) ?_
                    refine AllReadyH.cons (o := ?_) ?_ (fun K hK => ?_) AllReadyH.nil
                    rotate_left
                    · (simp only [List.getElem?_toArray, List.getElem?_cons_succ, List.getElem?_cons_zero]; rfl)
                    · refine step_app2 (by rfl) (.tmp 16) (.tmp 19) 70 (by rfl) strTy (b + 1) ((HO.out.below HBx.out (Nat.le_refl _)).alloc _) (by rfl) (cells_new' wx1 [.string ⟨(Lib.itoa z).toArray⟩] _ _ rfl) (by rfl) (by rfl) (by simp [Value.oneCell']) (by unfold maxLen; omega) (by omega) (by have := HLT.out; have := HBx.out.size; simp; omega) ?_
                      intro v' w9 hown9 hb9 hblk9 _
                      obtain ⟨M, A', c', rfl⟩ : ∃ M A' c', v' = .slice A' M c' := (by obtain ⟨A', c', h⟩ := own_slice hown9; exact ⟨_, A', c', h⟩)
                      have hr9 := (HR.out.below (HBy.out.mono (show b + 1 ≤ wr.heap.size from HLT.out)) (Nat.lt_succ_self b)).below hb9 (Nat.lt_succ_self b)
                      have c9 : w9.cell? ⟨b, 0, none⟩ = some v := (hr9.cell 0).trans rfl
                      have f9 : w9.frozen? ⟨b, 0, none⟩ = false := hr9.frozen 0
                      have hk9 : KeepI wr w9 := keep_app HBy.out HO.out hblk9
                      have hb9' : Below (b + 1) wr w9 := (HBy.out.mono (show b + 1 ≤ wr.heap.size from HLT.out)).trans hb9
                      have HR9 := Lib.hid hr9
                      have HO9 := Lib.hid hown9
                      have HB9 := Lib.hid hb9'
                      have HK9 := Lib.hid hk9
                      clear hr9 hown9 hb9 hblk9 hk9 hb9'
                      refine hK.out _ _ trivial (fun hHeld => ?_)
                      clear hK K
                      try simp only [Act.put, List.setIfInBounds_toArray, List.set_cons_zero, List.set_cons_succ]
                      refine tkH 9 ?_
                      try simp only [Act.put, List.setIfInBounds_toArray, List.set_cons_zero, List.set_cons_succ]
                      refine tkH 10 ?_
                      try simp only [Act.put, List.setIfInBounds_toArray, List.set_cons_zero, List.set_cons_succ]
                      refine wpAnyH_ready (rs := [11]) (by kernel_rfl) (by simp) ?_
                      refine AllReadyH.cons (o := ?_) ?_ (fun K hK => ?_) AllReadyH.nil
                      rotate_left
                      · (simp only [List.getElem?_toArray, List.getElem?_cons_succ, List.getElem?_cons_zero]; rfl)
                      · go_simp
                        refine hK.out _ _ trivial (fun hHeld => ?_)
                        clear hK K
                        try simp only [Act.put, List.setIfInBounds_toArray, List.set_cons_zero, List.set_cons_succ]
                        refine wpAnyH_done (by kernel_rfl) ?_ _
                        have HF9 := Lib.hid (lnb_end (s := ⟨(Lib.itoa z).toArray⟩) (o2 := true) HB0.out hN HR9.out HO9.out HB9.out HK9.out)
                        have hr10 := HR9.out.set 0 (.slice A' M c')
                        have e1 : (w9.setCell ⟨b, 0, none⟩ (.slice A' M c')).cell? ⟨b, 1, none⟩ = some (.bool false) := (hr10.cell 1).trans rfl
                        have f1 : (w9.setCell ⟨b, 0, none⟩ (.slice A' M c')).frozen? ⟨b, 1, none⟩ = false := hr10.frozen 1
                        obtain ⟨w10, hw10⟩ : ∃ x, w9.setCell ⟨b, 0, none⟩ (.slice A' M c') = x := ⟨_, rfl⟩
                        rw [hw10] at e1 f1 HF9 ⊢
                        clear hr10 HR9 HO9 HB9 HK9 hw10 cd c9 f9
                        go_wp2_with fail
                        go_roundw
                        case rel => exact ⟨k + 1, by omega, by go_num, by rw [HQ.out, HTK.out]; exact HF9.out.1, HBw.out.trans (HF9.out.2.1), HKw.out.trans HF9.out.2.2⟩
                        case measure => simp [intOf]; omega
                · refine AllReadyH.cons (o := ?_) ?_ (fun K hK => ?_) AllReadyH.nil
                  rotate_left
                  · (simp only [List.getElem?_toArray, List.getElem?_cons_succ, List.getElem?_cons_zero]; rfl)
                  · go_simp
                    have HBy := Lib.hid ((HBx.out).alloc HBx.out.size (.cells #[.string ⟨(Lib.itoa z).toArray⟩] 9))
                    have cy : (wx1.alloc (.cells #[.string ⟨(Lib.itoa z).toArray⟩] 9)).cell? ⟨b, 0, none⟩ = some v := (World.cell?_alloc_lt wx1 _ _ (cell_lt cx)).trans cx
                    refine hK.out _ _ trivial (fun hHeld => ?_)
                    clear hK K
                    try simp only [Act.put, List.setIfInBounds_toArray, List.set_cons_zero, List.set_cons_succ]
                    refine wpAnyH_ready (rs := [4]) (by kernel_rfl) (by simp) ?_
                    refine AllReadyH.cons (o := ?_) ?_ (fun K hK => ?_) AllReadyH.nil
                    rotate_left
                    · (simp only [List.getElem?_toArray, List.getElem?_cons_succ, List.getElem?_cons_zero]; rfl)
                    · go_simp
                      refine hK.out _ _ trivial (fun hHeld => ?_)
                      clear hK K
                      try simp only [Act.put, List.setIfInBounds_toArray, List.set_cons_zero, List.set_cons_succ]
                      refine wpAnyH_ready (rs := [8]) (by kernel_rfl) (by simp) ?_
                      refine AllReadyH.cons (o := ?_) ?_ (fun K hK => ?_) AllReadyH.nil
                      rotate_left
                      · (simp only [List.getElem?_toArray, List.getElem?_cons_succ, List.getElem?_cons_zero]; rfl)
                      · refine step_app2 (by rfl) (.tmp 16) (.tmp 19) 70 (by rfl) strTy (b + 1) ((HO.out.below HBx.out (Nat.le_refl _)).alloc _) (by rfl) (cells_new' wx1 [.string ⟨(Lib.itoa z).toArray⟩] _ _ rfl) (by rfl) (by rfl) (by simp [Value.oneCell']) (by unfold maxLen; omega) (by omega) (by have := HLT.out; have := HBx.out.size; simp; omega) ?_
                        intro v' w9 hown9 hb9 hblk9 _
                        obtain ⟨M, A', c', rfl⟩ : ∃ M A' c', v' = .slice A' M c' := (by obtain ⟨A', c', h⟩ := own_slice hown9; exact ⟨_, A', c', h⟩)
                        have hr9 := (HR.out.below (HBy.out.mono (show b + 1 ≤ wr.heap.size from HLT.out)) (Nat.lt_succ_self b)).below hb9 (Nat.lt_succ_self b)
                        have c9 : w9.cell? ⟨b, 0, none⟩ = some v := (hr9.cell 0).trans rfl
                        have f9 : w9.frozen? ⟨b, 0, none⟩ = false := hr9.frozen 0
                        have hk9 : KeepI wr w9 := keep_app HBy.out HO.out hblk9
                        have hb9' : Below (b + 1) wr w9 := (HBy.out.mono (show b + 1 ≤ wr.heap.size from HLT.out)).trans hb9
                        have HR9 := Lib.hid hr9
                        have HO9 := Lib.hid hown9
                        have HB9 := Lib.hid hb9'
                        have HK9 := Lib.hid hk9
                        clear hr9 hown9 hb9 hblk9 hk9 hb9'
                        refine hK.out _ _ trivial (fun hHeld => ?_)
                        clear hK K
                        try simp only [Act.put, List.setIfInBounds_toArray, List.set_cons_zero, List.set_cons_succ]
                        refine tkH 9 ?_
                        try simp only [Act.put, List.setIfInBounds_toArray, List.set_cons_zero, List.set_cons_succ]
                        refine tkH 10 ?_
                        try simp only [Act.put, List.setIfInBounds_toArray, List.set_cons_zero, List.set_cons_succ]
                        refine wpAnyH_ready (rs := [11]) (by kernel_rfl) (by simp) ?_
                        refine AllReadyH.cons (o := ?_) ?_ (fun K hK => ?_) AllReadyH.nil
                        rotate_left
                        · (simp only [List.getElem?_toArray, List.getElem?_cons_succ, List.getElem?_cons_zero]; rfl)
                        · go_simp
                          refine hK.out _ _ trivial (fun hHeld => ?_)
                          clear hK K
                          try simp only [Act.put, List.setIfInBounds_toArray, List.set_cons_zero, List.set_cons_succ]
                          refine wpAnyH_done (by kernel_rfl) ?_ _
                          have HF9 := Lib.hid (lnb_end (s := ⟨(Lib.itoa z).toArray⟩) (o2 := true) HB0.out hN HR9.out HO9.out HB9.out HK9.out)
                          have hr10 := HR9.out.set 0 (.slice A' M c')
                          have e1 : (w9.setCell ⟨b, 0, none⟩ (.slice A' M c')).cell? ⟨b, 1, none⟩ = some (.bool false) := (hr10.cell 1).trans rfl
                          have f1 : (w9.setCell ⟨b, 0, none⟩ (.slice A' M c')).frozen? ⟨b, 1, none⟩ = false := hr10.frozen 1
                          obtain ⟨w10, hw10⟩ : ∃ x, w9.setCell ⟨b, 0, none⟩ (.slice A' M c') = x := ⟨_, rfl⟩
                          rw [hw10] at e1 f1 HF9 ⊢
                          clear hr10 HR9 HO9 HB9 HK9 hw10 cd c9 f9
                          go_wp2_with fail
                          go_roundw
                          case rel => exact ⟨k + 1, by omega, by go_num, by rw [HQ.out, HTK.out]; exact HF9.out.1, HBw.out.trans (HF9.out.2.1), HKw.out.trans HF9.out.2.2⟩
                          case measure => simp [intOf]; omega
          · have t0 : decide (z < 0) = false := decide_eq_false h0
            have t1 : decide (1099511627776 < z) = false := decide_eq_false h1
            have HQ := Lib.hid (show (odd || (l.take (k + 1)).any fun x => !topB x) = false by rw [take_snoc hz, List.any_append, ← Bool.or_assoc, hq]; simp [topB]; omega)
            clear hz
            go_wp2_with fail
            refine wp_region_held_drew (S := (fun _ : World => True)) (by kernel_rfl) trivial (fun hHeld => ?_)
            have HBd := Lib.hid (Below.refl wr.heap.size wr).drew
            have cd : wr.drew.cell? ⟨b, 0, none⟩ = some v := c0
            generalize wr.drew = wd at HBd cd ⊢
            refine tkH 0 ?_
            try simp only [Act.put, List.setIfInBounds_toArray, List.set_cons_zero, List.set_cons_succ]
            refine tkH 1 ?_
            try simp only [Act.put, List.setIfInBounds_toArray, List.set_cons_zero, List.set_cons_succ]
            refine tkH 2 ?_
            try simp only [Act.put, List.setIfInBounds_toArray, List.set_cons_zero, List.set_cons_succ]
            refine tkH 3 ?_
            try simp only [Act.put, List.setIfInBounds_toArray, List.set_cons_zero, List.set_cons_succ]
            refine tkH 5 ?_
            try simp only [Act.put, List.setIfInBounds_toArray, List.set_cons_zero, List.set_cons_succ]
            refine wpAnyH_ready (rs := [4, 6]) (by kernel_rfl) (by simp) ?_
            refine AllReadyH.cons (o := ?_) ?_ (fun K hK => ?_) ?_
            rotate_left
            · (simp only [List.getElem?_toArray, List.getElem?_cons_succ, List.getElem?_cons_zero]; rfl)
            · go_simp
              refine hK.out _ _ trivial (fun hHeld => ?_)
              clear hK K
              try simp only [Act.put, List.setIfInBounds_toArray, List.set_cons_zero, List.set_cons_succ]
              refine wpAnyH_ready (rs := [6]) (by kernel_rfl) (by simp) ?_
              refine AllReadyH.cons (o := ?_) ?_ (fun K hK => ?_) AllReadyH.nil
              rotate_left
              · (simp only [List.getElem?_toArray, List.getElem?_cons_succ, List.getElem?_cons_zero]; rfl)
              · go_simp
                go_at_call 76
                refine (hito.out _ (HT.out.below HBd.out)).mono ?_
                rintro ex wx1 ⟨rfl, hbx⟩
                have HBx := Lib.hid (HBd.out.trans (hbx.mono HBd.out.size))
                have cx : wx1.cell? ⟨b, 0, none⟩ = some v := (hbx.cell (p := ⟨b, 0, none⟩) (cell_lt cd)).trans cd
                clear hbx
                refine hK.out _ _ trivial (fun hHeld => ?_)
                clear hK K
                try simp only [Act.put, List.setIfInBounds_toArray, List.set_cons_zero, List.set_cons_succ]
                refine wpAnyH_ready (rs := [7]) (by kernel_rfl) (by simp) ?_
                refine AllReadyH.cons (o := ?_) ?_ (fun K hK => ?_) AllReadyH.nil
                rotate_left
                · (simp only [List.getElem?_toArray, List.getElem?_cons_succ, List.getElem?_cons_zero]; rfl)
                · go_simp
                  have HBy := Lib.hid ((HBx.out).alloc HBx.out.size (.cells #[.string ⟨(Lib.itoa z).toArray⟩] 9))
                  have cy : (wx1.alloc (.cells #[.string ⟨(Lib.itoa z).toArray⟩] 9)).cell? ⟨b, 0, none⟩ = some v := (World.cell?_alloc_lt wx1 _ _ (cell_lt cx)).trans cx
                  refine hK.out _ _ trivial (fun hHeld => ?_)
                  clear hK K
                  try simp only [Act.put, List.setIfInBounds_toArray, List.set_cons_zero, List.set_cons_succ]
                  refine wpAnyH_ready (rs := [8]) (by kernel_rfl) (by simp) ?_
                  refine AllReadyH.cons (o := ?_) ?_ (fun K hK => ?_) AllReadyH.nil
                  rotate_left
                  · (simp only [List.getElem?_toArray, List.getElem?_cons_succ, List.getElem?_cons_zero]; rfl)
                  · refine step_app2 (by rfl) (.tmp 16) (.tmp 19) 70 (by rfl) strTy (b + 1) ((HO.out.below HBx.out (Nat.le_refl _)).alloc _) (by rfl) (cells_new' wx1 [.string ⟨(Lib.itoa z).toArray⟩] _ _ rfl) (by rfl) (by rfl) (by simp [Value.oneCell']) (by unfold maxLen; omega) (by omega) (by have := HLT.out; have := HBx.out.size; simp; omega) ?_
                    intro v' w9 hown9 hb9 hblk9 _
                    obtain ⟨M, A', c', rfl⟩ : ∃ M A' c', v' = .slice A' M c' := (by obtain ⟨A', c', h⟩ := own_slice hown9; exact ⟨_, A', c', h⟩)
                    have hr9 := (HR.out.below (HBy.out.mono (show b + 1 ≤ wr.heap.size from HLT.out)) (Nat.lt_succ_self b)).below hb9 (Nat.lt_succ_self b)
                    have c9 : w9.cell? ⟨b, 0, none⟩ = some v := (hr9.cell 0).trans rfl
                    have f9 : w9.frozen? ⟨b, 0, none⟩ = false := hr9.frozen 0
                    have hk9 : KeepI wr w9 := keep_app HBy.out HO.out hblk9
                    have hb9' : Below (b + 1) wr w9 := (HBy.out.mono (show b + 1 ≤ wr.heap.size from HLT.out)).trans hb9
                    have HR9 := Lib.hid hr9
                    have HO9 := Lib.hid hown9
                    have HB9 := Lib.hid hb9'
                    have HK9 := Lib.hid hk9
                    clear hr9 hown9 hb9 hblk9 hk9 hb9'
                    refine hK.out _ _ trivial (fun hHeld => ?_)
                    clear hK K
                    try simp only [Act.put, List.setIfInBounds_toArray, List.set_cons_zero, List.set_cons_succ]
                    refine tkH 9 ?_
                    try simp only [Act.put, List.setIfInBounds_toArray, List.set_cons_zero, List.set_cons_succ]
                    refine tkH 10 ?_
                    try simp only [Act.put, List.setIfInBounds_toArray, List.set_cons_zero, List.set_cons_succ]
                    refine wpAnyH_ready (rs := [11]) (by kernel_rfl) (by simp) ?_
                    refine AllReadyH.cons (o := ?_) ?_ (fun K hK => ?_) AllReadyH.nil
                    rotate_left
                    · (simp only [List.getElem?_toArray, List.getElem?_cons_succ, List.getElem?_cons_zero]; rfl)
                    · go_simp
                      refine hK.out _ _ trivial (fun hHeld => ?_)
                      clear hK K
                      try simp only [Act.put, List.setIfInBounds_toArray, List.set_cons_zero, List.set_cons_succ]
                      refine wpAnyH_done (by kernel_rfl) ?_ _
                      have HF9 := Lib.hid (lnb_end (s := ⟨(Lib.itoa z).toArray⟩) (o2 := false) HB0.out hN HR9.out HO9.out HB9.out HK9.out)
                      have hr10 := HR9.out.set 0 (.slice A' M c')
                      have e1 : (w9.setCell ⟨b, 0, none⟩ (.slice A' M c')).cell? ⟨b, 1, none⟩ = some (.bool false) := (hr10.cell 1).trans rfl
                      have f1 : (w9.setCell ⟨b, 0, none⟩ (.slice A' M c')).frozen? ⟨b, 1, none⟩ = false := hr10.frozen 1
                      obtain ⟨w10, hw10⟩ : ∃ x, w9.setCell ⟨b, 0, none⟩ (.slice A' M c') = x := ⟨_, rfl⟩
                      rw [hw10] at e1 f1 HF9 ⊢
                      clear hr10 HR9 HO9 HB9 HK9 hw10 cd c9 f9
                      go_wp2_with fail
                      go_roundw
                      case rel => exact ⟨k + 1, by omega, by go_num, by rw [HQ.out, HTK.out]; exact HF9.out.1, HBw.out.trans (HF9.out.2.1), HKw.out.trans HF9.out.2.2⟩
                      case measure => simp [intOf]; omega
            · refine AllReadyH.cons (o := ?_) ?_ (fun K hK => ?_) AllReadyH.nil
              rotate_left
              · (simp only [List.getElem?_toArray, List.getElem?_cons_succ, List.getElem?_cons_zero]; rfl)
              · go_simp
                go_at_call 76
                refine (hito.out _ (HT.out.below HBd.out)).mono ?_
                rintro ex wx1 ⟨rfl, hbx⟩
                have HBx := Lib.hid (HBd.out.trans (hbx.mono HBd.out.size))
                have cx : wx1.cell? ⟨b, 0, none⟩ = some v := (hbx.cell (p := ⟨b, 0, none⟩) (cell_lt cd)).trans cd
                clear hbx
                refine hK.out _ _ trivial (fun hHeld => ?_)
                clear hK K
                try simp only [Act.put, List.setIfInBounds_toArray, List.set_cons_zero, List.set_cons_succ]
                refine wpAnyH_ready (rs := [4, 7]) (by kernel_rfl) (by simp) ?_
                refine AllReadyH.cons (o := ?_) ?_ (fun K hK => ?_) ?_
                rotate_left
                · (simp only [List.getElem?_toArray, List.getElem?_cons_succ, List.getElem?_cons_zero]; rfl)
                · go_simp
                  refine hK.out _ _ trivial (fun hHeld => ?_)
                  clear hK K
                  try simp only [Act.put, List.setIfInBounds_toArray, List.set_cons_zero, List.set_cons_succ]
                  refine wpAnyH_ready (rs := [7]) (by kernel_rfl) (by simp) ?_
                  refine AllReadyH.cons (o := ?_) ?_ (fun K hK => ?_) AllReadyH.nil
                  rotate_left
                  · (simp only [List.getElem?_toArray, List.getElem?_cons_succ, List.getElem?_cons_zero]; rfl)
                  · go_simp
                    have HBy := Lib.hid ((HBx.out).alloc HBx.out.size (.cells #[.string ⟨(Lib.itoa z).toArray⟩] 9))
                    have cy : (wx1.alloc (.cells #[.string ⟨(Lib.itoa z).toArray⟩] 9)).cell? ⟨b, 0, none⟩ = some v := (World.cell?_alloc_lt wx1 _ _ (cell_lt cx)).trans cx
                    refine hK.out _ _ trivial (fun hHeld => ?_)
                    clear hK K
                    try simp only [Act.put, List.setIfInBounds_toArray, List.set_cons_zero, List.set_cons_succ]
                    refine wpAnyH_ready (rs := [8]) (by kernel_rfl) (by simp) ?_
                    refine AllReadyH.cons (o := ?_) ?_ (fun K hK => ?_) AllReadyH.nil
                    rotate_left
                    · (simp only [List.getElem?_toArray, List.getElem?_cons_succ, List.getElem?_cons_zero]; rfl)
                    · refine step_app2 (by rfl) (.tmp 16) (.tmp 19) 70 (by rfl) strTy (b + 1) ((HO.out.below HBx.out (Nat.le_refl _)).alloc _) (by rfl) (cells_new' wx1 [.string ⟨(Lib.itoa z).toArray⟩] _ _ rfl) (by rfl) (by rfl) (by simp [Value.oneCell']) (by unfold maxLen; omega) (by omega) (by have := HLT.out; have := HBx.out.size; simp; omega) ?_
                      intro v' w9 hown9 hb9 hblk9 _
                      obtain ⟨M, A', c', rfl⟩ : ∃ M A' c', v' = .slice A' M c' := (by obtain ⟨A', c', h⟩ := own_slice hown9; exact ⟨_, A', c', h⟩)
                      have hr9 := (HR.out.below (HBy.out.mono (show b + 1 ≤ wr.heap.size from HLT.out)) (Nat.lt_succ_self b)).below hb9 (Nat.lt_succ_self b)
                      have c9 : w9.cell? ⟨b, 0, none⟩ = some v := (hr9.cell 0).trans rfl
                      have f9 : w9.frozen? ⟨b, 0, none⟩ = false := hr9.frozen 0
                      have hk9 : KeepI wr w9 := keep_app HBy.out HO.out hblk9
                      have hb9' : Below (b + 1) wr w9 := (HBy.out.mono (show b + 1 ≤ wr.heap.size from HLT.out)).trans hb9
                      have HR9 := Lib.hid hr9
                      have HO9 := Lib.hid hown9
                      have HB9 := Lib.hid hb9'
                      have HK9 := Lib.hid hk9
                      clear hr9 hown9 hb9 hblk9 hk9 hb9'
                      refine hK.out _ _ trivial (fun hHeld => ?_)
                      clear hK K
                      try simp only [Act.put, List.setIfInBounds_toArray, List.set_cons_zero, List.set_cons_succ]
                      refine tkH 9 ?_
                      try simp only [Act.put, List.setIfInBounds_toArray, List.set_cons_zero, List.set_cons_succ]
                      refine tkH 10 ?_
                      try simp only [Act.put, List.setIfInBounds_toArray, List.set_cons_zero, List.set_cons_succ]
                      refine wpAnyH_ready (rs := [11]) (by kernel_rfl) (by simp) ?_
                      refine AllReadyH.cons (o := ?_) ?_ (fun K hK => ?_) AllReadyH.nil
                      rotate_left
                      · (simp only [List.getElem?_toArray, List.getElem?_cons_succ, List.getElem?_cons_zero]; rfl)
                      · go_simp
                        refine hK.out _ _ trivial (fun hHeld => ?_)
                        clear hK K
                        try simp only [Act.put, List.setIfInBounds_toArray, List.set_cons_zero, List.set_cons_succ]
                        refine wpAnyH_done (by kernel_rfl) ?_ _
                        have HF9 := Lib.hid (lnb_end (s := ⟨(Lib.itoa z).toArray⟩) (o2 := false) HB0.out hN HR9.out HO9.out HB9.out HK9.out)
                        have hr10 := HR9.out.set 0 (.slice A' M c')
                        have e1 : (w9.setCell ⟨b, 0, none⟩ (.slice A' M c')).cell? ⟨b, 1, none⟩ = some (.bool false) := (hr10.cell 1).trans rfl
                        have f1 : (w9.setCell ⟨b, 0, none⟩ (.slice A' M c')).frozen? ⟨b, 1, none⟩ = false := hr10.frozen 1
                        obtain ⟨w10, hw10⟩ : ∃ x, w9.setCell ⟨b, 0, none⟩ (.slice A' M c') = x := ⟨_, rfl⟩
                        rw [hw10] at e1 f1 HF9 ⊢
                        clear hr10 HR9 HO9 HB9 HK9 hw10 cd c9 f9
                        go_wp2_with fail
                        go_roundw
                        case rel => exact ⟨k + 1, by omega, by go_num, by rw [HQ.out, HTK.out]; exact HF9.out.1, HBw.out.trans (HF9.out.2.1), HKw.out.trans HF9.out.2.2⟩
                        case measure => simp [intOf]; omega
                · refine AllReadyH.cons (o := ?_) ?_ (fun K hK => ?_) AllReadyH.nil
                  rotate_left
                  · (simp only [List.getElem?_toArray, List.getElem?_cons_succ, List.getElem?_cons_zero]; rfl)
                  · go_simp
                    have HBy := Lib.hid ((HBx.out).alloc HBx.out.size (.cells #[.string ⟨(Lib.itoa z).toArray⟩] 9))
                    have cy : (wx1.alloc (.cells #[.string ⟨(Lib.itoa z).toArray⟩] 9)).cell? ⟨b, 0, none⟩ = some v := (World.cell?_alloc_lt wx1 _ _ (cell_lt cx)).trans cx
                    refine hK.out _ _ trivial (fun hHeld => ?_)
                    clear hK K
                    try simp only [Act.put, List.setIfInBounds_toArray, List.set_cons_zero, List.set_cons_succ]
                    refine wpAnyH_ready (rs := [4]) (by kernel_rfl) (by simp) ?_
                    refine AllReadyH.cons (o := ?_) ?_ (fun K hK => ?_) AllReadyH.nil
                    rotate_left
                    · (simp only [List.getElem?_toArray, List.getElem?_cons_succ, List.getElem?_cons_zero]; rfl)
                    · go_simp
                      refine hK.out _ _ trivial (fun hHeld => ?_)
                      clear hK K
                      try simp only [Act.put, List.setIfInBounds_toArray, List.set_cons_zero, List.set_cons_succ]
                      refine wpAnyH_ready (rs := [8]) (by kernel_rfl) (by simp) ?_
                      refine AllReadyH.cons (o := ?_) ?_ (fun K hK => ?_) AllReadyH.nil
                      rotate_left
                      · (simp only [List.getElem?_toArray, List.getElem?_cons_succ, List.getElem?_cons_zero]; rfl)
                      · refine step_app2 (by rfl) (.tmp 16) (.tmp 19) 70 (by rfl) strTy (b + 1) ((HO.out.below HBx.out (Nat.le_refl _)).alloc _) (by rfl) (cells_new' wx1 [.string ⟨(Lib.itoa z).toArray⟩] _ _ rfl) (by rfl) (by rfl) (by simp [Value.oneCell']) (by unfold maxLen; omega) (by omega) (by have := HLT.out; have := HBx.out.size; simp; omega) ?_
                        intro v' w9 hown9 hb9 hblk9 _
                        obtain ⟨M, A', c', rfl⟩ : ∃ M A' c', v' = .slice A' M c' := (by obtain ⟨A', c', h⟩ := own_slice hown9; exact ⟨_, A', c', h⟩)
                        have hr9 := (HR.out.below (HBy.out.mono (show b + 1 ≤ wr.heap.size from HLT.out)) (Nat.lt_succ_self b)).below hb9 (Nat.lt_succ_self b)
                        have c9 : w9.cell? ⟨b, 0, none⟩ = some v := (hr9.cell 0).trans rfl
                        have f9 : w9.frozen? ⟨b, 0, none⟩ = false := hr9.frozen 0
                        have hk9 : KeepI wr w9 := keep_app HBy.out HO.out hblk9
                        have hb9' : Below (b + 1) wr w9 := (HBy.out.mono (show b + 1 ≤ wr.heap.size from HLT.out)).trans hb9
                        have HR9 := Lib.hid hr9
                        have HO9 := Lib.hid hown9
                        have HB9 := Lib.hid hb9'
                        have HK9 := Lib.hid hk9
                        clear hr9 hown9 hb9 hblk9 hk9 hb9'
                        refine hK.out _ _ trivial (fun hHeld => ?_)
                        clear hK K
                        try simp only [Act.put, List.setIfInBounds_toArray, List.set_cons_zero, List.set_cons_succ]
                        refine tkH 9 ?_
                        try simp only [Act.put, List.setIfInBounds_toArray, List.set_cons_zero, List.set_cons_succ]
                        refine tkH 10 ?_
                        try simp only [Act.put, List.setIfInBounds_toArray, List.set_cons_zero, List.set_cons_succ]
                        refine wpAnyH_ready (rs := [11]) (by kernel_rfl) (by simp) ?_
                        refine AllReadyH.cons (o := ?_) ?_ (fun K hK => ?_) AllReadyH.nil
                        rotate_left
                        · (simp only [List.getElem?_toArray, List.getElem?_cons_succ, List.getElem?_cons_zero]; rfl)
                        · go_simp
                          refine hK.out _ _ trivial (fun hHeld => ?_)
                          clear hK K
                          try simp only [Act.put, List.setIfInBounds_toArray, List.set_cons_zero, List.set_cons_succ]
                          refine wpAnyH_done (by kernel_rfl) ?_ _
                          have HF9 := Lib.hid (lnb_end (s := ⟨(Lib.itoa z).toArray⟩) (o2 := false) HB0.out hN HR9.out HO9.out HB9.out HK9.out)
                          have hr10 := HR9.out.set 0 (.slice A' M c')
                          have e1 : (w9.setCell ⟨b, 0, none⟩ (.slice A' M c')).cell? ⟨b, 1, none⟩ = some (.bool false) := (hr10.cell 1).trans rfl
                          have f1 : (w9.setCell ⟨b, 0, none⟩ (.slice A' M c')).frozen? ⟨b, 1, none⟩ = false := hr10.frozen 1
                          obtain ⟨w10, hw10⟩ : ∃ x, w9.setCell ⟨b, 0, none⟩ (.slice A' M c') = x := ⟨_, rfl⟩
                          rw [hw10] at e1 f1 HF9 ⊢
                          clear hr10 HR9 HO9 HB9 HK9 hw10 cd c9 f9
                          go_wp2_with fail
                          go_roundw
                          case rel => exact ⟨k + 1, by omega, by go_num, by rw [HQ.out, HTK.out]; exact HF9.out.1, HBw.out.trans (HF9.out.2.1), HKw.out.trans HF9.out.2.2⟩
                          case measure => simp [intOf]; omega
    · obtain rfl : k = l.length := by omega
      rw [List.take_length] at hst
      have HS := Lib.hid hst
      clear hst hbw hkw
      have hnl : decide (l.length < l.length) = false := by simp
      go_wp2_with fail
      go_end0
      exact ⟨rfl, HS.out⟩

end Go.Proofs.YtfgmebjbibbpdaaGreatDoor
