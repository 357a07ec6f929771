/- Records: words, stamps. -/
import Derived.Test.YtgmmblknaeepbaaZa
import Derived.Deep.QuietTactic
import Derived.BigQuiet
namespace Go.Proofs.Ytgmmblknaeepbaa
open Go.RowKit

set_option maxHeartbeats 400000 in
theorem rsame_any (A A' : Option Addr) (c c' : Nat) (l m : List Int) (w : World) (hn : l.length ≤ 9223372036854775807) (_hm : m.length ≤ 9223372036854775807) (hl : Ws w w.heap.size A l) (hm' : Ws w w.heap.size A' m) :
    Calls Try.prog 27 #[.slice A l.length c, .slice A' m.length c'] w fun e w' => e = .returned (.bool (decide (l = m))) ∧ Below w.heap.size w w' := by
  by_cases hlen : l.length = m.length
  · have x0 : ((l.length : Int) != (m.length : Int)) = false := by simp [hlen]
    have hlen' := Lib.hid hlen
    clear hlen
    go_enter Try.func27, Try.ntmps27
    go_wp2
    go_loopw [5, 13] (fun i j wr => ∃ k : Nat, k ≤ l.length ∧ j = .int .i64 k ∧ l.take k = m.take k ∧ Below w.heap.size w wr) (fun _ j _ => l.length - (intOf j).toNat)
    case atStart => exact ⟨0, Nat.zero_le _, rfl, rfl, Below.refl _ _⟩
    case round =>
      obtain ⟨k, hk, rfl, heq, hb⟩ := hrel
      by_cases hlt : k < l.length
      · obtain ⟨x, hx⟩ := get_some hlt
        obtain ⟨y, hy⟩ := get_some (show k < m.length by have := hlen'.out; omega)
        obtain ⟨⟨_, _, _⟩, b, off, rfl, hlb, h0⟩ := (hl.below hb (Nat.le_refl _)).get hx
        obtain ⟨⟨_, _, _⟩, b2, off2, rfl, hlb2, h1⟩ := (hm'.below hb (Nat.le_refl _)).get hy
        have hmk : (k : Int) < m.length := by have := hlen'.out; omega
        have heq' := Lib.hid heq
        have hx' := Lib.hid hx
        have hy' := Lib.hid hy
        clear heq hx hy
        by_cases hxy : x = y
        · have x1 : (x != y) = false := by simp [hxy]
          have hxy' := Lib.hid hxy
          clear hxy
          go_wp2
          go_quiet (fail)
          go_wp2
          go_roundw
          case rel => exact ⟨k + 1, by omega, by go_num, by rw [take_snoc hx'.out, take_snoc hy'.out, heq'.out, hxy'.out], drewN_below hb _⟩
          case measure => simp [intOf]; omega
        · have x1 : (x != y) = true := by simp [hxy]
          go_wp2
          go_quiet (fail)
          go_wp2
          go_ret
          refine ⟨ret_bool ?_, drewN_below hb _⟩
          symm
          rw [decide_eq_false_iff_not]
          intro e
          have := hx'.out
          rw [e, hy'.out] at this
          exact hxy (by injection this with h; exact h.symm)
      · have h1 := take_all hlt
        have h2 : m.take k = m := take_all (by have := hlen'.out; omega)
        have h3 := Lib.hid (show l = m by rw [← h1, heq, h2])
        clear h1 h2 heq
        go_wp2
        go_ret
        exact ⟨ret_bool (by simpa using h3.out), hb⟩
  · have x0 : ((l.length : Int) != (m.length : Int)) = true := by simp; omega
    go_enter Try.func27, Try.ntmps27
    go_wp2
    go_ret
    exact ⟨ret_bool (by symm; rw [decide_eq_false_iff_not]; intro e; exact hlen (by rw [e])), Below.refl _ _⟩

set_option maxHeartbeats 400000 in
theorem equal_any (A A' : Option Addr) (c c' : Nat) (l m : List Int) (w : World) (hn : l.length ≤ 9223372036854775807) (_hm : m.length ≤ 9223372036854775807) (hl : Ws w w.heap.size A l) (hm' : Ws w w.heap.size A' m) :
    Calls Try.prog 38 #[.slice A l.length c, .slice A' m.length c'] w fun e w' => e = .returned (.bool (decide (l = m))) ∧ Below w.heap.size w w' := by
  by_cases hlen : l.length = m.length
  · have x0 : ((l.length : Int) != (m.length : Int)) = false := by simp [hlen]
    have hlen' := Lib.hid hlen
    clear hlen
    go_enter Try.func38, Try.ntmps38
    go_wp2
    go_loopw [5, 13] (fun i j wr => ∃ k : Nat, k ≤ l.length ∧ j = .int .i64 k ∧ l.take k = m.take k ∧ Below w.heap.size w wr) (fun _ j _ => l.length - (intOf j).toNat)
    case atStart => exact ⟨0, Nat.zero_le _, rfl, rfl, Below.refl _ _⟩
    case round =>
      obtain ⟨k, hk, rfl, heq, hb⟩ := hrel
      by_cases hlt : k < l.length
      · obtain ⟨x, hx⟩ := get_some hlt
        obtain ⟨y, hy⟩ := get_some (show k < m.length by have := hlen'.out; omega)
        obtain ⟨⟨_, _, _⟩, b, off, rfl, hlb, h0⟩ := (hl.below hb (Nat.le_refl _)).get hx
        obtain ⟨⟨_, _, _⟩, b2, off2, rfl, hlb2, h1⟩ := (hm'.below hb (Nat.le_refl _)).get hy
        have hmk : (k : Int) < m.length := by have := hlen'.out; omega
        have heq' := Lib.hid heq
        have hx' := Lib.hid hx
        have hy' := Lib.hid hy
        clear heq hx hy
        by_cases hxy : x = y
        · have x1 : (x != y) = false := by simp [hxy]
          have hxy' := Lib.hid hxy
          clear hxy
          go_wp2
          go_quiet (fail)
          go_wp2
          go_roundw
          case rel => exact ⟨k + 1, by omega, by go_num, by rw [take_snoc hx'.out, take_snoc hy'.out, heq'.out, hxy'.out], drewN_below hb _⟩
          case measure => simp [intOf]; omega
        · have x1 : (x != y) = true := by simp [hxy]
          go_wp2
          go_quiet (fail)
          go_wp2
          go_ret
          refine ⟨ret_bool ?_, drewN_below hb _⟩
          symm
          rw [decide_eq_false_iff_not]
          intro e
          have := hx'.out
          rw [e, hy'.out] at this
          exact hxy (by injection this with h; exact h.symm)
      · have h1 := take_all hlt
        have h2 : m.take k = m := take_all (by have := hlen'.out; omega)
        have h3 := Lib.hid (show l = m by rw [← h1, heq, h2])
        clear h1 h2 heq
        go_wp2
        go_ret
        exact ⟨ret_bool (by simpa using h3.out), hb⟩
  · have x0 : ((l.length : Int) != (m.length : Int)) = true := by simp; omega
    go_enter Try.func38, Try.ntmps38
    go_wp2
    go_ret
    exact ⟨ret_bool (by symm; rw [decide_eq_false_iff_not]; intro e; exact hlen (by rw [e])), Below.refl _ _⟩


theorem same_any (A A' : Option Addr) (c c' : Nat) (l m : List Int) (w : World) (hn : l.length ≤ 9223372036854775807) (hm : m.length ≤ 9223372036854775807) (hl : Ws w w.heap.size A l) (hm' : Ws w w.heap.size A' m) :
    Calls Try.prog 25 #[.slice A l.length c, .slice A' m.length c'] w fun e w' => e = .returned (.bool (decide (l = m))) ∧ Below w.heap.size w w' := by
  go_enter Try.func25, Try.ntmps25
  go_wp2_with fail
  refine (equal_any A A' c c' l m w hn hm hl hm').mono ?_
  rintro e w' ⟨rfl, hb⟩
  go_wp2_with fail
  go_ret
  exact ⟨rfl, hb⟩

/-! ### stamps -/
def stampW (k : Int) (i : Nat) : Int := (k * (2 * i + 1) + i) % 4294967296
def stampL (k : Int) (n : Nat) : List Int := (List.range n).map (stampW k)
def stampLen (width : Int) : Nat := (max 0 (min width 8)).toNat
theorem stampL_succ (k : Int) (n : Nat) : stampL k (n + 1) = stampL k n ++ [stampW k n] := by simp [stampL, List.range_succ]
theorem stampL_len (k : Int) (n : Nat) : (stampL k n).length = n := by simp [stampL]
theorem stampW_wf (k : Int) (i : Nat) : (Lit.int .u32 (stampW k i)).wf = true := by
  have : 0 ≤ stampW k i ∧ stampW k i < 4294967296 := by unfold stampW; omega
  simp [Lit.wf, IntKind.min, IntKind.max, IntKind.signed, IntKind.bits]
  omega
theorem stampL_wf (k : Int) (n : Nat) : ∀ z ∈ stampL k n, (Lit.int .u32 z).wf = true := by
  intro z hz
  obtain ⟨i, _, rfl⟩ := List.mem_map.1 hz
  exact stampW_wf k i

theorem stampW_zero (k : Int) (hk : 0 ≤ k) (hk2 : k < 4294967296) : stampW k 0 = k := by unfold stampW; simp; omega
theorem stampW_succ (k : Int) (i : Nat) : stampW k (i + 1) = (stampW k i + k + k + 1) % 4294967296 := by
  unfold stampW
  have : k * (2 * ((i + 1 : Nat) : Int) + 1) = k * (2 * (i : Int) + 1) + k + k := by
    have e : (2 * ((i + 1 : Nat) : Int) + 1) = (2 * (i : Int) + 1) + 1 + 1 := by omega
    rw [e, Int.mul_add, Int.mul_add]; omega
  rw [this]
  omega
theorem stampW_bd (k : Int) (i : Nat) : 0 ≤ stampW k i ∧ stampW k i < 4294967296 := by unfold stampW; omega

/-- Whose stamp a record is. -/
def unstB (l : List Int) : Bool := decide (0 < l.length ∧ l.length ≤ 8 ∧ l = stampL (l.headD 0) l.length)
def unstN (l : List Int) : Int := if unstB l then l.headD 0 else 0
theorem stampLen_of (n : Nat) (h : n ≤ 8) : stampLen n = n := by unfold stampLen; omega

end Go.Proofs.Ytgmmblknaeepbaa
