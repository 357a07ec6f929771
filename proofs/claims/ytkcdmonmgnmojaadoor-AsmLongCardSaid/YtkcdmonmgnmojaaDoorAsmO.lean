/- asm.operands: an instruction's operands, as its line has them. -/
import Derived.Test.YtkcdmonmgnmojaaDoorAsmW
import Derived.Deep.RegionHeld3
namespace Go.Proofs.YtkcdmonmgnmojaaDoor
open Go.RowKit

def opCells (p : List UInt8 × Int) : List Value := [.string ⟨p.1.toArray⟩, .int .u32 p.2]
def opE : Enc (List UInt8 × Int) := ⟨opCells, 2, fun _ => rfl, fun x u hu => by
  simp only [opCells, List.mem_cons, List.not_mem_nil, or_false] at hu
  rcases hu with rfl | rfl <;> rfl, by omega⟩

theorem reg_any (z : Int) (w : World) (h : 0 ≤ z ∧ z < 4294967296) : Calls Tryd.prog 79 #[.int .i64 z] w fun e w' => e = .returned (.agg #[.string ⟨#[114]⟩, .int .u32 z]) ∧ Below w.heap.size w w' := by
  have hz : IntKind.u32.wrap z = z := wrap_u32 h.1 h.2
  go_enter Tryd.func79, Tryd.ntmps79
  go_wp2_with fail
  refine bodyPost_ret (v := .agg #[.string ⟨#[114]⟩, .int .u32 z]) (by simp [results, go_sem]) rfl ?_
  exact ⟨rfl, (Below.refl _ w).alloc (Nat.le_refl _) _⟩

def OpSt (w2 : World) (n : Nat) (a b c m : Int) (w' : World) : Prop :=
  Below w2.heap.size w2 w' ∧ w'.cell? ⟨n, 1, none⟩ = some (.int .i64 a) ∧ w'.cell? ⟨n, 2, none⟩ = some (.int .i64 b) ∧ w'.cell? ⟨n, 3, none⟩ = some (.int .i64 c) ∧ w'.cell? ⟨n + 1, 0, none⟩ = some (.string ⟨#[]⟩) ∧ w'.cell? ⟨n + 1, 1, none⟩ = some (.int .u32 m)
theorem OpSt.below {w2 w w' : World} {n : Nat} {a b c m : Int} (h : OpSt w2 n a b c m w) (hb : Below w.heap.size w w') : OpSt w2 n a b c m w' := by
  obtain ⟨h1, h2, h3, h4, h5, h6⟩ := h
  refine ⟨h1.trans (hb.mono h1.size), ?_, ?_, ?_, ?_, ?_⟩
  · exact (hb.cell (p := ⟨n, 1, none⟩) (cell_lt h2)).trans h2
  · exact (hb.cell (p := ⟨n, 2, none⟩) (cell_lt h3)).trans h3
  · exact (hb.cell (p := ⟨n, 3, none⟩) (cell_lt h4)).trans h4
  · exact (hb.cell (p := ⟨n + 1, 0, none⟩) (cell_lt h5)).trans h5
  · exact (hb.cell (p := ⟨n + 1, 1, none⟩) (cell_lt h6)).trans h6
theorem OpSt.drew {w2 w : World} {n : Nat} {a b c m : Int} (h : OpSt w2 n a b c m w) : OpSt w2 n a b c m w.drew := h.below (Below.refl _ w).drew
theorem OpSt.alloc {w2 w : World} {n : Nat} {a b c m : Int} (h : OpSt w2 n a b c m w) (o : Obj) : OpSt w2 n a b c m (w.alloc o) := h.below ((Below.refl _ w).alloc (Nat.le_refl _) o)
theorem opSt_start (w : World) (op a b c m : Int) : OpSt ((w.alloc (.cells #[.int .i64 op, .int .i64 a, .int .i64 b, .int .i64 c, .int .u32 m] 24)).alloc (.cells #[.string ⟨#[]⟩, .int .u32 m] 67)) w.heap.size a b c m ((w.alloc (.cells #[.int .i64 op, .int .i64 a, .int .i64 b, .int .i64 c, .int .u32 m] 24)).alloc (.cells #[.string ⟨#[]⟩, .int .u32 m] 67)) := by
  refine ⟨Below.refl _ _, ?_, ?_, ?_, ?_, ?_⟩ <;> simp

/-- What operands gives. -/
def OpsR (w : World) (l : List (List UInt8 × Int)) (r : Ending) (w' : World) : Prop := ∃ A, r = .returned (.slice A l.length l.length) ∧ (SlOf opE w' w'.heap.size A l ∧ ∀ p, A = some p → w.heap.size ≤ p.block) ∧ Below w.heap.size w w'
theorem OpsR.new {w w1 : World} {l : List (List UInt8 × Int)} {cs : Array Value} {t : TypeId} (hb : Below w.heap.size w w1) (hc : cs.toList = opE.all l) : OpsR w l (.returned (.slice (some ⟨w1.heap.size, 0, none⟩) l.length l.length)) (w1.alloc (.cells cs t)) :=
  ⟨_, rfl, ⟨by simpa using SlOf.new w1 cs t l hc, fun p hp => by cases hp; exact hb.size⟩, hb.alloc hb.size _⟩
theorem OpsR.new2 {w w1 : World} {N : Nat} {l : List (List UInt8 × Int)} {cs : Array Value} {t : TypeId} (hb : Below w.heap.size w w1) (hN : w1.heap.size = N) (hc : cs.toList = opE.all l) : OpsR w l (.returned (.slice (some ⟨N, 0, none⟩) l.length l.length)) (w1.alloc (.cells cs t)) := by
  subst hN
  exact OpsR.new hb hc

set_option maxRecDepth 100000 in
set_option maxHeartbeats 2000000 in
theorem operands_set (a m : Int) (w : World) (ha : 0 ≤ a ∧ a < 8) (_hm : 0 ≤ m ∧ m < 4294967296) : Calls Tryd.prog 39 #[.agg #[.int .i64 1, .int .i64 a, .int .i64 0, .int .i64 0, .int .u32 m]] w (OpsR w [([114], a), ([], m)]) := by
  have hS0 := opSt_start w (1) (a) (0) (0) (m)
  have hB0 := ((Below.refl _ w).alloc (Nat.le_refl _) (.cells #[.int .i64 (1), .int .i64 (a), .int .i64 (0), .int .i64 (0), .int .u32 (m)] 24)).alloc (by simp) (.cells #[.string ⟨#[]⟩, .int .u32 (m)] 67)
  have hB0' := Lib.hid hB0
  have hS0' := Lib.hid hS0
  clear hB0 hS0
  go_enter Tryd.func39, Tryd.ntmps39
  go_wp2_with fail
  have hB0 := hB0'.out
  have hS0 := hS0'.out
  obtain ⟨w2, hw2⟩ : ∃ x, (w.alloc (.cells #[.int .i64 (1), .int .i64 (a), .int .i64 (0), .int .i64 (0), .int .u32 (m)] 24)).alloc (.cells #[.string ⟨#[]⟩, .int .u32 (m)] 67) = x := ⟨_, rfl⟩
  obtain ⟨n, hn⟩ : ∃ n, w.heap.size = n := ⟨_, rfl⟩
  rw [hw2] at hB0 hS0 ⊢
  rw [hn] at hS0
  simp only [hn]
  clear hw2 hB0' hS0'
  have hB0' := Lib.hid hB0
  clear hB0
  have hSd := hS0.drew
  obtain ⟨s1, s2, s3, s4, s5, s6⟩ := hS0
  go_region_held3 (fun w' => Below w2.heap.size w2 w' ∧ w'.cell? ⟨n, 1, none⟩ = some (.int .i64 (a)) ∧ w'.cell? ⟨n, 2, none⟩ = some (.int .i64 (0)) ∧ w'.cell? ⟨n, 3, none⟩ = some (.int .i64 (0)) ∧ w'.cell? ⟨n + 1, 0, none⟩ = some (.string ⟨#[]⟩) ∧ w'.cell? ⟨n + 1, 1, none⟩ = some (.int .u32 (m)))
    (first | exact hSd | assumption | exact OpSt.alloc (w2 := w2) (n := n) (a := a) (b := 0) (c := 0) (m := m) (by assumption) _)
    (first
      | (go_at_call 79; refine (reg_any _ _ (by omega)).mono ?_; rintro e wx ⟨rfl, hbx⟩; have hSx := OpSt.below (w2 := w2) (n := n) (a := a) (b := 0) (c := 0) (m := m) (by assumption) hbx))
  all_goals
    go_wp2_with fail
    go_ret
    rw [← hn] at hSx
    exact OpsR.new (l := [([114], a), ([], m)]) (hB0'.out.trans (hSx.1.mono hB0'.out.size)) rfl

set_option maxRecDepth 100000 in
set_option maxHeartbeats 2000000 in
theorem operands_zero (a m : Int) (w : World) (ha : 0 ≤ a ∧ a < 8) (_hm : 0 ≤ m ∧ m < 4294967296) : Calls Tryd.prog 39 #[.agg #[.int .i64 15, .int .i64 a, .int .i64 0, .int .i64 0, .int .u32 m]] w (OpsR w [([114], a), ([], m)]) := by
  have hS0 := opSt_start w (15) (a) (0) (0) (m)
  have hB0 := ((Below.refl _ w).alloc (Nat.le_refl _) (.cells #[.int .i64 (15), .int .i64 (a), .int .i64 (0), .int .i64 (0), .int .u32 (m)] 24)).alloc (by simp) (.cells #[.string ⟨#[]⟩, .int .u32 (m)] 67)
  have hB0' := Lib.hid hB0
  have hS0' := Lib.hid hS0
  clear hB0 hS0
  go_enter Tryd.func39, Tryd.ntmps39
  go_wp2_with fail
  have hB0 := hB0'.out
  have hS0 := hS0'.out
  obtain ⟨w2, hw2⟩ : ∃ x, (w.alloc (.cells #[.int .i64 (15), .int .i64 (a), .int .i64 (0), .int .i64 (0), .int .u32 (m)] 24)).alloc (.cells #[.string ⟨#[]⟩, .int .u32 (m)] 67) = x := ⟨_, rfl⟩
  obtain ⟨n, hn⟩ : ∃ n, w.heap.size = n := ⟨_, rfl⟩
  rw [hw2] at hB0 hS0 ⊢
  rw [hn] at hS0
  simp only [hn]
  clear hw2 hB0' hS0'
  have hB0' := Lib.hid hB0
  clear hB0
  have hSd := hS0.drew
  obtain ⟨s1, s2, s3, s4, s5, s6⟩ := hS0
  go_region_held3 (fun w' => Below w2.heap.size w2 w' ∧ w'.cell? ⟨n, 1, none⟩ = some (.int .i64 (a)) ∧ w'.cell? ⟨n, 2, none⟩ = some (.int .i64 (0)) ∧ w'.cell? ⟨n, 3, none⟩ = some (.int .i64 (0)) ∧ w'.cell? ⟨n + 1, 0, none⟩ = some (.string ⟨#[]⟩) ∧ w'.cell? ⟨n + 1, 1, none⟩ = some (.int .u32 (m)))
    (first | exact hSd | assumption | exact OpSt.alloc (w2 := w2) (n := n) (a := a) (b := 0) (c := 0) (m := m) (by assumption) _)
    (first
      | (go_at_call 79; refine (reg_any _ _ (by omega)).mono ?_; rintro e wx ⟨rfl, hbx⟩; have hSx := OpSt.below (w2 := w2) (n := n) (a := a) (b := 0) (c := 0) (m := m) (by assumption) hbx))
  all_goals
    go_wp2_with fail
    go_ret
    rw [← hn] at hSx
    exact OpsR.new (l := [([114], a), ([], m)]) (hB0'.out.trans (hSx.1.mono hB0'.out.size)) rfl

set_option maxRecDepth 100000 in
set_option maxHeartbeats 2000000 in
theorem operands_move (a b m : Int) (w : World) (ha : 0 ≤ a ∧ a < 8) (hb : 0 ≤ b ∧ b < 8) (_hm : 0 ≤ m ∧ m < 4294967296) : Calls Tryd.prog 39 #[.agg #[.int .i64 2, .int .i64 a, .int .i64 b, .int .i64 0, .int .u32 m]] w (OpsR w [([114], a), ([114], b)]) := by
  have hS0 := opSt_start w (2) (a) (b) (0) (m)
  have hB0 := ((Below.refl _ w).alloc (Nat.le_refl _) (.cells #[.int .i64 (2), .int .i64 (a), .int .i64 (b), .int .i64 (0), .int .u32 (m)] 24)).alloc (by simp) (.cells #[.string ⟨#[]⟩, .int .u32 (m)] 67)
  have hB0' := Lib.hid hB0
  have hS0' := Lib.hid hS0
  clear hB0 hS0
  go_enter Tryd.func39, Tryd.ntmps39
  go_wp2_with fail
  have hB0 := hB0'.out
  have hS0 := hS0'.out
  obtain ⟨w2, hw2⟩ : ∃ x, (w.alloc (.cells #[.int .i64 (2), .int .i64 (a), .int .i64 (b), .int .i64 (0), .int .u32 (m)] 24)).alloc (.cells #[.string ⟨#[]⟩, .int .u32 (m)] 67) = x := ⟨_, rfl⟩
  obtain ⟨n, hn⟩ : ∃ n, w.heap.size = n := ⟨_, rfl⟩
  rw [hw2] at hB0 hS0 ⊢
  rw [hn] at hS0
  simp only [hn]
  clear hw2 hB0' hS0'
  have hB0' := Lib.hid hB0
  clear hB0
  have hSd := hS0.drew
  obtain ⟨s1, s2, s3, s4, s5, s6⟩ := hS0
  go_region_held3 (fun w' => Below w2.heap.size w2 w' ∧ w'.cell? ⟨n, 1, none⟩ = some (.int .i64 (a)) ∧ w'.cell? ⟨n, 2, none⟩ = some (.int .i64 (b)) ∧ w'.cell? ⟨n, 3, none⟩ = some (.int .i64 (0)) ∧ w'.cell? ⟨n + 1, 0, none⟩ = some (.string ⟨#[]⟩) ∧ w'.cell? ⟨n + 1, 1, none⟩ = some (.int .u32 (m)))
    (first | exact hSd | assumption | exact OpSt.alloc (w2 := w2) (n := n) (a := a) (b := b) (c := 0) (m := m) (by assumption) _)
    (first
      | (go_at_call 79; refine (reg_any _ _ (by omega)).mono ?_; rintro e wx ⟨rfl, hbx⟩; have hSx := OpSt.below (w2 := w2) (n := n) (a := a) (b := b) (c := 0) (m := m) (by assumption) hbx))
  all_goals
    go_wp2_with fail
    go_ret
    rw [← hn] at hSx
    exact OpsR.new (l := [([114], a), ([114], b)]) (hB0'.out.trans (hSx.1.mono hB0'.out.size)) rfl

set_option maxRecDepth 100000 in
set_option maxHeartbeats 2000000 in
theorem operands_three (op a b c m : Int) (w : World) (ho : 3 ≤ op ∧ op ≤ 10) (ha : 0 ≤ a ∧ a < 8) (hb : 0 ≤ b ∧ b < 8) (hc : 0 ≤ c ∧ c < 8) (_hm : 0 ≤ m ∧ m < 4294967296) : Calls Tryd.prog 39 #[.agg #[.int .i64 op, .int .i64 a, .int .i64 b, .int .i64 c, .int .u32 m]] w (OpsR w [([114], a), ([114], b), ([114], c)]) := by
  have x1 : (op == 1) = false := by rw [beq_eq_false_iff_ne]; omega
  have x2 : (op == 2) = false := by rw [beq_eq_false_iff_ne]; omega
  have x3 : decide (3 ≤ op) = true := decide_eq_true ho.1
  have x4 : decide (op ≤ 10) = true := decide_eq_true ho.2
  have hS0 := opSt_start w (op) (a) (b) (c) (m)
  have hB0 := ((Below.refl _ w).alloc (Nat.le_refl _) (.cells #[.int .i64 (op), .int .i64 (a), .int .i64 (b), .int .i64 (c), .int .u32 (m)] 24)).alloc (by simp) (.cells #[.string ⟨#[]⟩, .int .u32 (m)] 67)
  have hB0' := Lib.hid hB0
  have hS0' := Lib.hid hS0
  clear hB0 hS0
  go_enter Tryd.func39, Tryd.ntmps39
  go_wp2_with fail
  have hB0 := hB0'.out
  have hS0 := hS0'.out
  obtain ⟨w2, hw2⟩ : ∃ x, (w.alloc (.cells #[.int .i64 (op), .int .i64 (a), .int .i64 (b), .int .i64 (c), .int .u32 (m)] 24)).alloc (.cells #[.string ⟨#[]⟩, .int .u32 (m)] 67) = x := ⟨_, rfl⟩
  obtain ⟨n, hn⟩ : ∃ n, w.heap.size = n := ⟨_, rfl⟩
  rw [hw2] at hB0 hS0 ⊢
  rw [hn] at hS0
  simp only [hn]
  clear hw2 hB0' hS0'
  have hB0' := Lib.hid hB0
  clear hB0
  have hSd := hS0.drew
  obtain ⟨s1, s2, s3, s4, s5, s6⟩ := hS0
  go_region_held3 (fun w' => Below w2.heap.size w2 w' ∧ w'.cell? ⟨n, 1, none⟩ = some (.int .i64 (a)) ∧ w'.cell? ⟨n, 2, none⟩ = some (.int .i64 (b)) ∧ w'.cell? ⟨n, 3, none⟩ = some (.int .i64 (c)) ∧ w'.cell? ⟨n + 1, 0, none⟩ = some (.string ⟨#[]⟩) ∧ w'.cell? ⟨n + 1, 1, none⟩ = some (.int .u32 (m)))
    (first | exact hSd | assumption | exact OpSt.alloc (w2 := w2) (n := n) (a := a) (b := b) (c := c) (m := m) (by assumption) _)
    (first
      | (go_at_call 79; refine (reg_any _ _ (by omega)).mono ?_; rintro e wx ⟨rfl, hbx⟩; have hSx := OpSt.below (w2 := w2) (n := n) (a := a) (b := b) (c := c) (m := m) (by assumption) hbx))
  all_goals
    go_wp2_with fail
    go_ret
    rw [← hn] at hSx
    exact OpsR.new (l := [([114], a), ([114], b), ([114], c)]) (hB0'.out.trans (hSx.1.mono hB0'.out.size)) rfl

set_option maxRecDepth 100000 in
set_option maxHeartbeats 2000000 in
theorem operands_load (a b m : Int) (w : World) (ha : 0 ≤ a ∧ a < 8) (hb : 0 ≤ b ∧ b < 8) (_hm : 0 ≤ m ∧ m < 4294967296) : Calls Tryd.prog 39 #[.agg #[.int .i64 11, .int .i64 a, .int .i64 b, .int .i64 0, .int .u32 m]] w (OpsR w [([114], a), ([114], b), ([], m)]) := by
  have hS0 := opSt_start w (11) (a) (b) (0) (m)
  have hB0 := ((Below.refl _ w).alloc (Nat.le_refl _) (.cells #[.int .i64 (11), .int .i64 (a), .int .i64 (b), .int .i64 (0), .int .u32 (m)] 24)).alloc (by simp) (.cells #[.string ⟨#[]⟩, .int .u32 (m)] 67)
  have hB0' := Lib.hid hB0
  have hS0' := Lib.hid hS0
  clear hB0 hS0
  go_enter Tryd.func39, Tryd.ntmps39
  go_wp2_with fail
  have hB0 := hB0'.out
  have hS0 := hS0'.out
  obtain ⟨w2, hw2⟩ : ∃ x, (w.alloc (.cells #[.int .i64 (11), .int .i64 (a), .int .i64 (b), .int .i64 (0), .int .u32 (m)] 24)).alloc (.cells #[.string ⟨#[]⟩, .int .u32 (m)] 67) = x := ⟨_, rfl⟩
  obtain ⟨n, hn⟩ : ∃ n, w.heap.size = n := ⟨_, rfl⟩
  rw [hw2] at hB0 hS0 ⊢
  rw [hn] at hS0
  simp only [hn]
  clear hw2 hB0' hS0'
  have hB0' := Lib.hid hB0
  clear hB0
  have hSd := hS0.drew
  obtain ⟨s1, s2, s3, s4, s5, s6⟩ := hS0
  go_region_held3 (fun w' => Below w2.heap.size w2 w' ∧ w'.cell? ⟨n, 1, none⟩ = some (.int .i64 (a)) ∧ w'.cell? ⟨n, 2, none⟩ = some (.int .i64 (b)) ∧ w'.cell? ⟨n, 3, none⟩ = some (.int .i64 (0)) ∧ w'.cell? ⟨n + 1, 0, none⟩ = some (.string ⟨#[]⟩) ∧ w'.cell? ⟨n + 1, 1, none⟩ = some (.int .u32 (m)))
    (first | exact hSd | assumption | exact OpSt.alloc (w2 := w2) (n := n) (a := a) (b := b) (c := 0) (m := m) (by assumption) _)
    (first
      | (go_at_call 79; refine (reg_any _ _ (by omega)).mono ?_; rintro e wx ⟨rfl, hbx⟩; have hSx := OpSt.below (w2 := w2) (n := n) (a := a) (b := b) (c := 0) (m := m) (by assumption) hbx))
  all_goals
    go_wp2_with fail
    go_ret
    rw [← hn] at hSx
    exact OpsR.new (l := [([114], a), ([114], b), ([], m)]) (hB0'.out.trans (hSx.1.mono hB0'.out.size)) rfl

set_option maxRecDepth 100000 in
set_option maxHeartbeats 2000000 in
theorem operands_store (a b m : Int) (w : World) (ha : 0 ≤ a ∧ a < 8) (hb : 0 ≤ b ∧ b < 8) (_hm : 0 ≤ m ∧ m < 4294967296) : Calls Tryd.prog 39 #[.agg #[.int .i64 12, .int .i64 a, .int .i64 b, .int .i64 0, .int .u32 m]] w (OpsR w [([114], a), ([114], b), ([], m)]) := by
  have hS0 := opSt_start w (12) (a) (b) (0) (m)
  have hB0 := ((Below.refl _ w).alloc (Nat.le_refl _) (.cells #[.int .i64 (12), .int .i64 (a), .int .i64 (b), .int .i64 (0), .int .u32 (m)] 24)).alloc (by simp) (.cells #[.string ⟨#[]⟩, .int .u32 (m)] 67)
  have hB0' := Lib.hid hB0
  have hS0' := Lib.hid hS0
  clear hB0 hS0
  go_enter Tryd.func39, Tryd.ntmps39
  go_wp2_with fail
  have hB0 := hB0'.out
  have hS0 := hS0'.out
  obtain ⟨w2, hw2⟩ : ∃ x, (w.alloc (.cells #[.int .i64 (12), .int .i64 (a), .int .i64 (b), .int .i64 (0), .int .u32 (m)] 24)).alloc (.cells #[.string ⟨#[]⟩, .int .u32 (m)] 67) = x := ⟨_, rfl⟩
  obtain ⟨n, hn⟩ : ∃ n, w.heap.size = n := ⟨_, rfl⟩
  rw [hw2] at hB0 hS0 ⊢
  rw [hn] at hS0
  simp only [hn]
  clear hw2 hB0' hS0'
  have hB0' := Lib.hid hB0
  clear hB0
  have hSd := hS0.drew
  obtain ⟨s1, s2, s3, s4, s5, s6⟩ := hS0
  go_region_held3 (fun w' => Below w2.heap.size w2 w' ∧ w'.cell? ⟨n, 1, none⟩ = some (.int .i64 (a)) ∧ w'.cell? ⟨n, 2, none⟩ = some (.int .i64 (b)) ∧ w'.cell? ⟨n, 3, none⟩ = some (.int .i64 (0)) ∧ w'.cell? ⟨n + 1, 0, none⟩ = some (.string ⟨#[]⟩) ∧ w'.cell? ⟨n + 1, 1, none⟩ = some (.int .u32 (m)))
    (first | exact hSd | assumption | exact OpSt.alloc (w2 := w2) (n := n) (a := a) (b := b) (c := 0) (m := m) (by assumption) _)
    (first
      | (go_at_call 79; refine (reg_any _ _ (by omega)).mono ?_; rintro e wx ⟨rfl, hbx⟩; have hSx := OpSt.below (w2 := w2) (n := n) (a := a) (b := b) (c := 0) (m := m) (by assumption) hbx))
  all_goals
    go_wp2_with fail
    go_ret
    rw [← hn] at hSx
    exact OpsR.new (l := [([114], a), ([114], b), ([], m)]) (hB0'.out.trans (hSx.1.mono hB0'.out.size)) rfl

set_option maxRecDepth 100000 in
set_option maxHeartbeats 2000000 in
theorem operands_cas (a b c m : Int) (w : World) (ha : 0 ≤ a ∧ a < 8) (hb : 0 ≤ b ∧ b < 8) (hc : 0 ≤ c ∧ c < 8) (_hm : 0 ≤ m ∧ m < 4294967296) : Calls Tryd.prog 39 #[.agg #[.int .i64 13, .int .i64 a, .int .i64 b, .int .i64 c, .int .u32 m]] w (OpsR w [([114], a), ([114], b), ([114], c), ([], m)]) := by
  have hS0 := opSt_start w (13) (a) (b) (c) (m)
  have hB0 := ((Below.refl _ w).alloc (Nat.le_refl _) (.cells #[.int .i64 (13), .int .i64 (a), .int .i64 (b), .int .i64 (c), .int .u32 (m)] 24)).alloc (by simp) (.cells #[.string ⟨#[]⟩, .int .u32 (m)] 67)
  have hB0' := Lib.hid hB0
  have hS0' := Lib.hid hS0
  clear hB0 hS0
  go_enter Tryd.func39, Tryd.ntmps39
  go_wp2_with fail
  have hB0 := hB0'.out
  have hS0 := hS0'.out
  obtain ⟨w2, hw2⟩ : ∃ x, (w.alloc (.cells #[.int .i64 (13), .int .i64 (a), .int .i64 (b), .int .i64 (c), .int .u32 (m)] 24)).alloc (.cells #[.string ⟨#[]⟩, .int .u32 (m)] 67) = x := ⟨_, rfl⟩
  obtain ⟨n, hn⟩ : ∃ n, w.heap.size = n := ⟨_, rfl⟩
  rw [hw2] at hB0 hS0 ⊢
  rw [hn] at hS0
  simp only [hn]
  clear hw2 hB0' hS0'
  have hB0' := Lib.hid hB0
  clear hB0
  have hSd := hS0.drew
  obtain ⟨s1, s2, s3, s4, s5, s6⟩ := hS0
  go_region_held3 (fun w' => Below w2.heap.size w2 w' ∧ w'.cell? ⟨n, 1, none⟩ = some (.int .i64 (a)) ∧ w'.cell? ⟨n, 2, none⟩ = some (.int .i64 (b)) ∧ w'.cell? ⟨n, 3, none⟩ = some (.int .i64 (c)) ∧ w'.cell? ⟨n + 1, 0, none⟩ = some (.string ⟨#[]⟩) ∧ w'.cell? ⟨n + 1, 1, none⟩ = some (.int .u32 (m)))
    (first | exact hSd | assumption | exact OpSt.alloc (w2 := w2) (n := n) (a := a) (b := b) (c := c) (m := m) (by assumption) _)
    (first
      | (go_at_call 79; refine (reg_any _ _ (by omega)).mono ?_; rintro e wx ⟨rfl, hbx⟩; have hSx := OpSt.below (w2 := w2) (n := n) (a := a) (b := b) (c := c) (m := m) (by assumption) hbx))
  all_goals
    go_wp2_with fail
    go_ret
    rw [← hn] at hSx
    exact OpsR.new (l := [([114], a), ([114], b), ([114], c), ([], m)]) (hB0'.out.trans (hSx.1.mono hB0'.out.size)) rfl

set_option maxRecDepth 100000 in
set_option maxHeartbeats 2000000 in
theorem operands_jump (m : Int) (w : World) (_hm : 0 ≤ m ∧ m < 4294967296) : Calls Tryd.prog 39 #[.agg #[.int .i64 14, .int .i64 0, .int .i64 0, .int .i64 0, .int .u32 m]] w (OpsR w [([], m)]) := by
  have hS0 := opSt_start w (14) (0) (0) (0) (m)
  have hB0 := ((Below.refl _ w).alloc (Nat.le_refl _) (.cells #[.int .i64 (14), .int .i64 (0), .int .i64 (0), .int .i64 (0), .int .u32 (m)] 24)).alloc (by simp) (.cells #[.string ⟨#[]⟩, .int .u32 (m)] 67)
  have hB0' := Lib.hid hB0
  have hS0' := Lib.hid hS0
  clear hB0 hS0
  go_enter Tryd.func39, Tryd.ntmps39
  go_wp2_with fail
  go_ret
  exact OpsR.new2 (l := [([], m)]) (cs := #[.string ⟨#[]⟩, .int .u32 m]) hB0'.out (by simp) rfl

set_option maxRecDepth 100000 in
set_option maxHeartbeats 2000000 in
theorem operands_back (c m : Int) (w : World) (hc : 1 ≤ c ∧ c ≤ 255) (_hm : 0 ≤ m ∧ m < 4294967296) : Calls Tryd.prog 39 #[.agg #[.int .i64 16, .int .i64 0, .int .i64 0, .int .i64 c, .int .u32 m]] w (OpsR w [([], m), ([], c)]) := by
  have hcw : IntKind.u32.wrap c = c := wrap_u32 (by omega) (by omega)
  have hS0 := opSt_start w (16) (0) (0) (c) (m)
  have hB0 := ((Below.refl _ w).alloc (Nat.le_refl _) (.cells #[.int .i64 (16), .int .i64 (0), .int .i64 (0), .int .i64 (c), .int .u32 (m)] 24)).alloc (by simp) (.cells #[.string ⟨#[]⟩, .int .u32 (m)] 67)
  have hB0' := Lib.hid hB0
  have hS0' := Lib.hid hS0
  clear hB0 hS0
  go_enter Tryd.func39, Tryd.ntmps39
  go_wp2_with fail
  go_ret
  exact OpsR.new2 (l := [([], m), ([], c)]) (cs := #[.string ⟨#[]⟩, .int .u32 m, .string ⟨#[]⟩, .int .u32 c]) hB0'.out (by simp) rfl

set_option maxRecDepth 100000 in
set_option maxHeartbeats 2000000 in
theorem operands_call (op a b m : Int) (w : World) (ho : 17 ≤ op ∧ op ≤ 20) (ha : 0 ≤ a ∧ a < 8) (hb : 0 ≤ b ∧ b < 8) (_hm : 0 ≤ m ∧ m < 4294967296) : Calls Tryd.prog 39 #[.agg #[.int .i64 op, .int .i64 a, .int .i64 b, .int .i64 0, .int .u32 m]] w (OpsR w [([114], a), ([111], b), ([], m)]) := by
  have x1 : (op == 1) = false := by rw [beq_eq_false_iff_ne]; omega
  have x2 : (op == 2) = false := by rw [beq_eq_false_iff_ne]; omega
  have x11 : (op == 11) = false := by rw [beq_eq_false_iff_ne]; omega
  have x12 : (op == 12) = false := by rw [beq_eq_false_iff_ne]; omega
  have x13 : (op == 13) = false := by rw [beq_eq_false_iff_ne]; omega
  have x14 : (op == 14) = false := by rw [beq_eq_false_iff_ne]; omega
  have x15 : (op == 15) = false := by rw [beq_eq_false_iff_ne]; omega
  have x16 : (op == 16) = false := by rw [beq_eq_false_iff_ne]; omega
  have y1 : decide (3 ≤ op) = true := decide_eq_true (by omega)
  have y2 : decide (op ≤ 10) = false := decide_eq_false (by omega)
  have y3 : decide (17 ≤ op) = true := decide_eq_true ho.1
  have y4 : decide (op ≤ 20) = true := decide_eq_true ho.2
  have hbw : IntKind.u32.wrap b = b := wrap_u32 (by omega) (by omega)
  have hS0 := opSt_start w (op) (a) (b) (0) (m)
  have hB0 := ((Below.refl _ w).alloc (Nat.le_refl _) (.cells #[.int .i64 (op), .int .i64 (a), .int .i64 (b), .int .i64 (0), .int .u32 (m)] 24)).alloc (by simp) (.cells #[.string ⟨#[]⟩, .int .u32 (m)] 67)
  have hB0' := Lib.hid hB0
  have hS0' := Lib.hid hS0
  clear hB0 hS0
  go_enter Tryd.func39, Tryd.ntmps39
  go_wp2_with fail
  have hB0 := hB0'.out
  have hS0 := hS0'.out
  obtain ⟨w2, hw2⟩ : ∃ x, (w.alloc (.cells #[.int .i64 (op), .int .i64 (a), .int .i64 (b), .int .i64 (0), .int .u32 (m)] 24)).alloc (.cells #[.string ⟨#[]⟩, .int .u32 (m)] 67) = x := ⟨_, rfl⟩
  obtain ⟨n, hn⟩ : ∃ n, w.heap.size = n := ⟨_, rfl⟩
  rw [hw2] at hB0 hS0 ⊢
  rw [hn] at hS0
  simp only [hn]
  clear hw2 hB0' hS0'
  have hB0' := Lib.hid hB0
  clear hB0
  have hSd := hS0.drew
  obtain ⟨s1, s2, s3, s4, s5, s6⟩ := hS0
  go_region_held3 (fun w' => Below w2.heap.size w2 w' ∧ w'.cell? ⟨n, 1, none⟩ = some (.int .i64 (a)) ∧ w'.cell? ⟨n, 2, none⟩ = some (.int .i64 (b)) ∧ w'.cell? ⟨n, 3, none⟩ = some (.int .i64 (0)) ∧ w'.cell? ⟨n + 1, 0, none⟩ = some (.string ⟨#[]⟩) ∧ w'.cell? ⟨n + 1, 1, none⟩ = some (.int .u32 (m)))
    (first | exact hSd | assumption | exact OpSt.alloc (w2 := w2) (n := n) (a := a) (b := b) (c := 0) (m := m) (by assumption) _)
    (first
      | (go_at_call 79; refine (reg_any _ _ (by omega)).mono ?_; rintro e wx ⟨rfl, hbx⟩; have hSx := OpSt.below (w2 := w2) (n := n) (a := a) (b := b) (c := 0) (m := m) (by assumption) hbx))
  all_goals
    go_wp2_with fail
    go_ret
    rw [← hn] at hSx
    exact OpsR.new (l := [([114], a), ([111], b), ([], m)]) (hB0'.out.trans (hSx.1.mono hB0'.out.size)) rfl

theorem operands_none (op : Int) (w : World) (ho : op = 0 ∨ op = 21) : Calls Tryd.prog 39 #[.agg #[.int .i64 op, .int .i64 0, .int .i64 0, .int .i64 0, .int .u32 0]] w (OpsR w []) := by
  rcases ho with rfl | rfl
  all_goals
    go_enter Tryd.func39, Tryd.ntmps39
    go_wp2_with fail
    go_ret
    exact ⟨none, rfl, ⟨SlOf.nil, fun p hp => by cases hp⟩, ((Below.refl _ w).alloc (Nat.le_refl _) _).alloc (by simp) _⟩

theorem operands_any {i : Ins} (h : insB i = true) (hn : i.ok) (w : World) : Calls Tryd.prog 39 #[insV i] w (OpsR w (opsL i)) := by
  have hm := u32_of hn.2.2.2.2
  cases shaped h hn with
  | none op ho => exact (show opsL ⟨op, 0, 0, 0, 0⟩ = [] by rcases ho with rfl | rfl <;> rfl) ▸ operands_none op w ho
  | set op a n ho ha =>
    rcases ho with rfl | rfl
    · exact operands_set a n w ha hm
    · exact operands_zero a n w ha hm
  | move a b ha hb => exact operands_move a b 0 w ha hb hm
  | three op a b c ho ha hb hc =>
    have : opsL ⟨op, a, b, c, 0⟩ = [([114], a), ([114], b), ([114], c)] := by
      unfold opsL
      rw [if_neg (show ¬ op = 1 by omega), if_neg (show ¬ op = 2 by omega), if_pos ho]
    rw [this]
    exact operands_three op a b c 0 w ho ha hb hc hm
  | load op a b n ho ha hb =>
    rcases ho with rfl | rfl
    · exact operands_load a b n w ha hb hm
    · exact operands_store a b n w ha hb hm
  | cas a b c n ha hb hc => exact operands_cas a b c n w ha hb hc hm
  | jump n => exact operands_jump n w hm
  | back c n hc => exact operands_back c n w hc hm
  | call op a b n ho ha hb =>
    have : opsL ⟨op, a, b, 0, n⟩ = [([114], a), ([111], b), ([], n)] := by
      unfold opsL
      rw [if_neg (show ¬ op = 1 by omega), if_neg (show ¬ op = 2 by omega), if_neg (show ¬ (3 ≤ op ∧ op ≤ 10) by omega), if_neg (show ¬ (op = 11 ∨ op = 12) by omega), if_neg (show ¬ op = 13 by omega), if_neg (show ¬ op = 14 by omega), if_neg (show ¬ op = 15 by omega), if_neg (show ¬ op = 16 by omega), if_pos ho]
    rw [this]
    exact operands_call op a b n w ho ha hb hm

end Go.Proofs.YtkcdmonmgnmojaaDoor
