/- Records: words, stamps. -/
import Derived.Test.YtjfgmallhjclgaaDoorWalk
import Derived.Deep.QuietTactic
import Derived.BigQuiet
namespace Go.Proofs.YtjfgmallhjclgaaDoor
open Go.RowKit

def Ws (w : World) (B : Nat) (A : Option Addr) (l : List Int) : Prop := SlOf (ints .u32) w B A l ∧ ∀ z ∈ l, (Lit.int .u32 z).wf = true
theorem Ws.below {w w' : World} {B B' : Nat} {A : Option Addr} {l : List Int} (h : Ws w B A l) (hb : Below B w w') (hB : B ≤ B') : Ws w' B' A l := ⟨h.1.below hb hB, h.2⟩
theorem Ws.get {w : World} {B : Nat} {A : Option Addr} {l : List Int} (h : Ws w B A l) {k : Nat} {z : Int} (hk : l[k]? = some z) : ((Lit.int .u32 z).wf = true ∧ 0 ≤ z ∧ z < 4294967296) ∧ ∃ b off, A = some ⟨b, off, none⟩ ∧ b < B ∧
    w.cell? ⟨b, off + k, none⟩ = some (.int .u32 z) := by
  obtain ⟨b, off, hA, hlt, hc⟩ := h.1 k z hk
  have hw := h.2 z (List.mem_of_getElem? hk)
  have := hc 0 _ rfl
  refine ⟨⟨hw, ?_⟩, b, off, hA, hlt, by simpa [ints, Enc.of1] using this⟩
  simp [Lit.wf, IntKind.min, IntKind.max, IntKind.signed, IntKind.bits] at hw
  omega

theorem word_any (i k : Int) (w : World) (hi : 0 ≤ i) (hi8 : i ≤ 8) (hk : 0 ≤ k) (hk2 : k < 4294967296) :
    Calls Tryd.prog 24 #[.int .i64 i, .int .u32 k] w fun e w' => e = .returned (.int .u32 ((k * (2 * i + 1) + i) % 4294967296)) ∧ w = w' := by
  go_enter Tryd.func24, Tryd.ntmps24
  go_wp2
  go_ret
  exact ⟨ret_int (by omega), rfl⟩

set_option maxHeartbeats 400000 in
theorem words_any (A A' : Option Addr) (c c' : Nat) (l m : List Int) (w : World) (hn : l.length ≤ 9223372036854775807) (hm : m.length ≤ 9223372036854775807) (hl : Ws w w.heap.size A l) (hm' : Ws w w.heap.size A' m) :
    Calls Tryd.prog 8 #[.slice A l.length c, .slice A' m.length c'] w fun e w' => e = .returned (.bool (decide (l = m))) ∧ Below w.heap.size w w' := by
  by_cases hlen : l.length = m.length
  · have x0 : ((l.length : Int) != (m.length : Int)) = false := by simp [hlen]
    have hlen' := Lib.hid hlen
    clear hlen
    go_enter Tryd.func8, Tryd.ntmps8
    go_wp2
    go_loopw [5, 13] (fun i j wr => ∃ k : Nat, k ≤ l.length ∧ j = .int .i64 k ∧ l.take k = m.take k ∧ Below w.heap.size w wr) (fun _ j _ => l.length - (intOf j).toNat)
    case atStart => exact ⟨0, Nat.zero_le _, rfl, rfl, Below.refl _ _⟩
    case round =>
      obtain ⟨k, hk, rfl, heq, hb⟩ := hrel
      by_cases hlt : k < l.length
      · obtain ⟨x, hx⟩ := get_some hlt
        obtain ⟨y, hy⟩ := get_some (show k < m.length by have := hlen'.out; omega)
        obtain ⟨⟨_, _, _⟩, b, off, rfl, hlb, h0⟩ := (hl.below hb (Nat.le_refl _)).get hx
        obtain ⟨⟨_, _, _⟩, b2, off2, rfl, hlb2, h1⟩ := (hm'.below hb (Nat.le_refl _)).get hy
        have hmk : (k : Int) < m.length := by have := hlen'.out; omega
        have heq' := Lib.hid heq
        have hx' := Lib.hid hx
        have hy' := Lib.hid hy
        clear heq hx hy
        by_cases hxy : x = y
        · have x1 : (x != y) = false := by simp [hxy]
          have hxy' := Lib.hid hxy
          clear hxy
          go_wp2
          go_quiet (fail)
          go_wp2
          go_roundw
          case rel => exact ⟨k + 1, by omega, by go_num, by rw [take_snoc hx'.out, take_snoc hy'.out, heq'.out, hxy'.out], drewN_below hb _⟩
          case measure => simp [intOf]; omega
        · have x1 : (x != y) = true := by simp [hxy]
          go_wp2
          go_quiet (fail)
          go_wp2
          go_ret
          refine ⟨ret_bool ?_, drewN_below hb _⟩
          symm
          rw [decide_eq_false_iff_not]
          intro e
          have := hx'.out
          rw [e, hy'.out] at this
          exact hxy (by injection this with h; exact h.symm)
      · have h1 := take_all hlt
        have h2 : m.take k = m := take_all (by have := hlen'.out; omega)
        have h3 := Lib.hid (show l = m by rw [← h1, heq, h2])
        clear h1 h2 heq
        go_wp2
        go_ret
        exact ⟨ret_bool (by simpa using h3.out), hb⟩
  · have x0 : ((l.length : Int) != (m.length : Int)) = true := by simp; omega
    go_enter Tryd.func8, Tryd.ntmps8
    go_wp2
    go_ret
    exact ⟨ret_bool (by symm; rw [decide_eq_false_iff_not]; intro e; exact hlen (by rw [e])), Below.refl _ _⟩

set_option maxHeartbeats 400000 in
theorem rsame_any (A A' : Option Addr) (c c' : Nat) (l m : List Int) (w : World) (hn : l.length ≤ 9223372036854775807) (hm : m.length ≤ 9223372036854775807) (hl : Ws w w.heap.size A l) (hm' : Ws w w.heap.size A' m) :
    Calls Tryd.prog 12 #[.slice A l.length c, .slice A' m.length c'] w fun e w' => e = .returned (.bool (decide (l = m))) ∧ Below w.heap.size w w' := by
  by_cases hlen : l.length = m.length
  · have x0 : ((l.length : Int) != (m.length : Int)) = false := by simp [hlen]
    have hlen' := Lib.hid hlen
    clear hlen
    go_enter Tryd.func12, Tryd.ntmps12
    go_wp2
    go_loopw [5, 13] (fun i j wr => ∃ k : Nat, k ≤ l.length ∧ j = .int .i64 k ∧ l.take k = m.take k ∧ Below w.heap.size w wr) (fun _ j _ => l.length - (intOf j).toNat)
    case atStart => exact ⟨0, Nat.zero_le _, rfl, rfl, Below.refl _ _⟩
    case round =>
      obtain ⟨k, hk, rfl, heq, hb⟩ := hrel
      by_cases hlt : k < l.length
      · obtain ⟨x, hx⟩ := get_some hlt
        obtain ⟨y, hy⟩ := get_some (show k < m.length by have := hlen'.out; omega)
        obtain ⟨⟨_, _, _⟩, b, off, rfl, hlb, h0⟩ := (hl.below hb (Nat.le_refl _)).get hx
        obtain ⟨⟨_, _, _⟩, b2, off2, rfl, hlb2, h1⟩ := (hm'.below hb (Nat.le_refl _)).get hy
        have hmk : (k : Int) < m.length := by have := hlen'.out; omega
        have heq' := Lib.hid heq
        have hx' := Lib.hid hx
        have hy' := Lib.hid hy
        clear heq hx hy
        by_cases hxy : x = y
        · have x1 : (x != y) = false := by simp [hxy]
          have hxy' := Lib.hid hxy
          clear hxy
          go_wp2
          go_quiet (fail)
          go_wp2
          go_roundw
          case rel => exact ⟨k + 1, by omega, by go_num, by rw [take_snoc hx'.out, take_snoc hy'.out, heq'.out, hxy'.out], drewN_below hb _⟩
          case measure => simp [intOf]; omega
        · have x1 : (x != y) = true := by simp [hxy]
          go_wp2
          go_quiet (fail)
          go_wp2
          go_ret
          refine ⟨ret_bool ?_, drewN_below hb _⟩
          symm
          rw [decide_eq_false_iff_not]
          intro e
          have := hx'.out
          rw [e, hy'.out] at this
          exact hxy (by injection this with h; exact h.symm)
      · have h1 := take_all hlt
        have h2 : m.take k = m := take_all (by have := hlen'.out; omega)
        have h3 := Lib.hid (show l = m by rw [← h1, heq, h2])
        clear h1 h2 heq
        go_wp2
        go_ret
        exact ⟨ret_bool (by simpa using h3.out), hb⟩
  · have x0 : ((l.length : Int) != (m.length : Int)) = true := by simp; omega
    go_enter Tryd.func12, Tryd.ntmps12
    go_wp2
    go_ret
    exact ⟨ret_bool (by symm; rw [decide_eq_false_iff_not]; intro e; exact hlen (by rw [e])), Below.refl _ _⟩

set_option maxHeartbeats 400000 in
theorem equal_any (A A' : Option Addr) (c c' : Nat) (l m : List Int) (w : World) (hn : l.length ≤ 9223372036854775807) (hm : m.length ≤ 9223372036854775807) (hl : Ws w w.heap.size A l) (hm' : Ws w w.heap.size A' m) :
    Calls Tryd.prog 28 #[.slice A l.length c, .slice A' m.length c'] w fun e w' => e = .returned (.bool (decide (l = m))) ∧ Below w.heap.size w w' := by
  by_cases hlen : l.length = m.length
  · have x0 : ((l.length : Int) != (m.length : Int)) = false := by simp [hlen]
    have hlen' := Lib.hid hlen
    clear hlen
    go_enter Tryd.func28, Tryd.ntmps28
    go_wp2
    go_loopw [5, 13] (fun i j wr => ∃ k : Nat, k ≤ l.length ∧ j = .int .i64 k ∧ l.take k = m.take k ∧ Below w.heap.size w wr) (fun _ j _ => l.length - (intOf j).toNat)
    case atStart => exact ⟨0, Nat.zero_le _, rfl, rfl, Below.refl _ _⟩
    case round =>
      obtain ⟨k, hk, rfl, heq, hb⟩ := hrel
      by_cases hlt : k < l.length
      · obtain ⟨x, hx⟩ := get_some hlt
        obtain ⟨y, hy⟩ := get_some (show k < m.length by have := hlen'.out; omega)
        obtain ⟨⟨_, _, _⟩, b, off, rfl, hlb, h0⟩ := (hl.below hb (Nat.le_refl _)).get hx
        obtain ⟨⟨_, _, _⟩, b2, off2, rfl, hlb2, h1⟩ := (hm'.below hb (Nat.le_refl _)).get hy
        have hmk : (k : Int) < m.length := by have := hlen'.out; omega
        have heq' := Lib.hid heq
        have hx' := Lib.hid hx
        have hy' := Lib.hid hy
        clear heq hx hy
        by_cases hxy : x = y
        · have x1 : (x != y) = false := by simp [hxy]
          have hxy' := Lib.hid hxy
          clear hxy
          go_wp2
          go_quiet (fail)
          go_wp2
          go_roundw
          case rel => exact ⟨k + 1, by omega, by go_num, by rw [take_snoc hx'.out, take_snoc hy'.out, heq'.out, hxy'.out], drewN_below hb _⟩
          case measure => simp [intOf]; omega
        · have x1 : (x != y) = true := by simp [hxy]
          go_wp2
          go_quiet (fail)
          go_wp2
          go_ret
          refine ⟨ret_bool ?_, drewN_below hb _⟩
          symm
          rw [decide_eq_false_iff_not]
          intro e
          have := hx'.out
          rw [e, hy'.out] at this
          exact hxy (by injection this with h; exact h.symm)
      · have h1 := take_all hlt
        have h2 : m.take k = m := take_all (by have := hlen'.out; omega)
        have h3 := Lib.hid (show l = m by rw [← h1, heq, h2])
        clear h1 h2 heq
        go_wp2
        go_ret
        exact ⟨ret_bool (by simpa using h3.out), hb⟩
  · have x0 : ((l.length : Int) != (m.length : Int)) = true := by simp; omega
    go_enter Tryd.func28, Tryd.ntmps28
    go_wp2
    go_ret
    exact ⟨ret_bool (by symm; rw [decide_eq_false_iff_not]; intro e; exact hlen (by rw [e])), Below.refl _ _⟩


theorem same_any (A A' : Option Addr) (c c' : Nat) (l m : List Int) (w : World) (hn : l.length ≤ 9223372036854775807) (hm : m.length ≤ 9223372036854775807) (hl : Ws w w.heap.size A l) (hm' : Ws w w.heap.size A' m) :
    Calls Tryd.prog 19 #[.slice A l.length c, .slice A' m.length c'] w fun e w' => e = .returned (.bool (decide (l = m))) ∧ Below w.heap.size w w' := by
  go_enter Tryd.func19, Tryd.ntmps19
  go_wp2_with fail
  refine (equal_any A A' c c' l m w hn hm hl hm').mono ?_
  rintro e w' ⟨rfl, hb⟩
  go_wp2_with fail
  go_ret
  exact ⟨rfl, hb⟩

/-! ### stamps -/
def stampW (k : Int) (i : Nat) : Int := (k * (2 * i + 1) + i) % 4294967296
def stampL (k : Int) (n : Nat) : List Int := (List.range n).map (stampW k)
def stampLen (width : Int) : Nat := (max 0 (min width 8)).toNat
theorem stampL_succ (k : Int) (n : Nat) : stampL k (n + 1) = stampL k n ++ [stampW k n] := by simp [stampL, List.range_succ]
theorem stampL_len (k : Int) (n : Nat) : (stampL k n).length = n := by simp [stampL]
theorem stampW_wf (k : Int) (i : Nat) : (Lit.int .u32 (stampW k i)).wf = true := by
  have : 0 ≤ stampW k i ∧ stampW k i < 4294967296 := by unfold stampW; omega
  simp [Lit.wf, IntKind.min, IntKind.max, IntKind.signed, IntKind.bits]
  omega
theorem stampL_wf (k : Int) (n : Nat) : ∀ z ∈ stampL k n, (Lit.int .u32 z).wf = true := by
  intro z hz
  obtain ⟨i, _, rfl⟩ := List.mem_map.1 hz
  exact stampW_wf k i

theorem u32Ty : ElemTy Tryd.prog 23 22 1 4 := ElemTy.of (z := .int .u32 0) Tryd.underlying23 (by kernel_rfl) rfl (by omega)

def OwnW (base : Nat) (w : World) (v : Value) (l : List Int) : Prop := Own (ints .u32) 22 base w v l ∧ ∀ z ∈ l, (Lit.int .u32 z).wf = true
theorem OwnW.ws {base : Nat} {w : World} {v : Value} {l : List Int} (h : OwnW base w v l) : ∃ A c, v = .slice A l.length c ∧ (l.length ≤ c ∧ c ≤ maxLen) ∧ Ws w w.heap.size A l := by
  obtain ⟨A, c, h1, h2, _, h3⟩ := h.1.sl
  exact ⟨A, c, h1, ⟨h2.1, h2.2⟩, h3, h.2⟩
theorem OwnW.below {base B : Nat} {w w' : World} {v : Value} {l : List Int} (h : OwnW base w v l) (hb : Below B w w') (hB : w.heap.size ≤ B) : OwnW base w' v l := ⟨h.1.below hb hB, h.2⟩

set_option maxHeartbeats 400000 in
theorem stamp_any (width k : Int) (w : World) (hk : 0 ≤ k) (hk2 : k < 4294967296) :
    Calls Tryd.prog 7 #[.int .i64 width, .int .u32 k] w fun e w' => ∃ v, e = .returned v ∧ OwnW w.heap.size w' v (stampL k (stampLen width)) ∧ Below w.heap.size w w' := by
  obtain ⟨n, hn⟩ : ∃ n : Nat, stampLen width = n := ⟨_, rfl⟩
  have hn8 : n ≤ 8 := by unfold stampLen at hn; omega
  have hn' := Lib.hid hn
  rw [hn]
  have hd : (width ≤ 0 ∧ n = 0) ∨ (0 < width ∧ width ≤ 8 ∧ width = n) ∨ (8 < width ∧ n = 8) := by unfold stampLen at hn; omega
  clear hn
  rcases hd with ⟨h1, rfl⟩ | ⟨h1, h2, rfl⟩ | ⟨h1, rfl⟩
  · go_enter Tryd.func7, Tryd.ntmps7
    go_wp2
    go_loopw [5, 10] (fun v j wr => ∃ i : Nat, i ≤ 8 ∧ i ≤ 0 ∧ j = .int .i64 i ∧ OwnW w.heap.size wr v (stampL k i) ∧ Below w.heap.size w wr) (fun _ j _ => 8 - (intOf j).toNat)
    case atStart => exact ⟨0, by omega, by omega, rfl, ⟨Own.nil _ _, by simp [stampL]⟩, Below.refl _ _⟩
    case round =>
      obtain ⟨i, hi8, hi, rfl, ⟨hown, hwf⟩, hb⟩ := hrel
      have hsz := hb.size
      have hlen := Lib.hid (stampL_len k i)
      have hsuc := Lib.hid (stampL_succ k i)
      have hstep := Lib.hid (show ((k * (2 * (i : Int) + 1) + i) % 4294967296) = stampW k i from rfl)
      have hlt : ¬ (i < 0) := by omega
      · obtain rfl : i = 0 := by omega
        go_wp2
        go_ret
        exact ⟨_, rfl, ⟨hown, hwf⟩, hb⟩
  · go_enter Tryd.func7, Tryd.ntmps7
    go_wp2
    go_loopw [5, 10] (fun v j wr => ∃ i : Nat, i ≤ 8 ∧ i ≤ n ∧ j = .int .i64 i ∧ OwnW w.heap.size wr v (stampL k i) ∧ Below w.heap.size w wr) (fun _ j _ => 8 - (intOf j).toNat)
    case atStart => exact ⟨0, by omega, by omega, rfl, ⟨Own.nil _ _, by simp [stampL]⟩, Below.refl _ _⟩
    case round =>
      obtain ⟨i, hi8, hi, rfl, ⟨hown, hwf⟩, hb⟩ := hrel
      have hsz := hb.size
      have hlen := Lib.hid (stampL_len k i)
      have hsuc := Lib.hid (stampL_succ k i)
      have hstep := Lib.hid (show ((k * (2 * (i : Int) + 1) + i) % 4294967296) = stampW k i from rfl)
      by_cases hlt : i < n
      · have hl8 : (stampL k i).length ≤ 8 := by rw [hlen.out]; exact hi8
        go_wp2_with (first
          | (go_at_call 24; refine (word_any _ _ _ (by omega) (by omega) hk hk2).mono ?_; rintro e w' ⟨rfl, rfl⟩)
          | (at_builtin; refine wpList_app1 rfl _ _ 23 rfl u32Ty w.heap.size hown rfl rfl rfl rfl (by unfold maxLen; omega) (by omega) (by omega) ?_; intro v' w1 hown2 hbel2 _)
          | go_in)
        go_roundw
        case rel => exact ⟨i + 1, by omega, by omega, by go_num, ⟨by rw [hsuc.out]; exact Own.app hown2 (by rfl), stampL_wf _ _⟩, hb.trans hbel2⟩
        case measure => simp [intOf]; omega
      · obtain rfl : i = n := by omega
        go_wp2
        go_ret
        exact ⟨_, rfl, ⟨hown, hwf⟩, hb⟩
  · go_enter Tryd.func7, Tryd.ntmps7
    go_wp2
    go_loopw [5, 10] (fun v j wr => ∃ i : Nat, i ≤ 8 ∧ i ≤ 8 ∧ j = .int .i64 i ∧ OwnW w.heap.size wr v (stampL k i) ∧ Below w.heap.size w wr) (fun _ j _ => 8 - (intOf j).toNat)
    case atStart => exact ⟨0, by omega, by omega, rfl, ⟨Own.nil _ _, by simp [stampL]⟩, Below.refl _ _⟩
    case round =>
      obtain ⟨i, hi8, hi, rfl, ⟨hown, hwf⟩, hb⟩ := hrel
      have hsz := hb.size
      have hlen := Lib.hid (stampL_len k i)
      have hsuc := Lib.hid (stampL_succ k i)
      have hstep := Lib.hid (show ((k * (2 * (i : Int) + 1) + i) % 4294967296) = stampW k i from rfl)
      by_cases hlt : i < 8
      · have hl8 : (stampL k i).length ≤ 8 := by rw [hlen.out]; exact hi8
        go_wp2_with (first
          | (go_at_call 24; refine (word_any _ _ _ (by omega) (by omega) hk hk2).mono ?_; rintro e w' ⟨rfl, rfl⟩)
          | (at_builtin; refine wpList_app1 rfl _ _ 23 rfl u32Ty w.heap.size hown rfl rfl rfl rfl (by unfold maxLen; omega) (by omega) (by omega) ?_; intro v' w1 hown2 hbel2 _)
          | go_in)
        go_roundw
        case rel => exact ⟨i + 1, by omega, by omega, by go_num, ⟨by rw [hsuc.out]; exact Own.app hown2 (by rfl), stampL_wf _ _⟩, hb.trans hbel2⟩
        case measure => simp [intOf]; omega
      · obtain rfl : i = 8 := by omega
        go_wp2
        go_ret
        exact ⟨_, rfl, ⟨hown, hwf⟩, hb⟩

theorem stampW_zero (k : Int) (hk : 0 ≤ k) (hk2 : k < 4294967296) : stampW k 0 = k := by unfold stampW; simp; omega
theorem stampW_succ (k : Int) (i : Nat) : stampW k (i + 1) = (stampW k i + k + k + 1) % 4294967296 := by
  unfold stampW
  have : k * (2 * ((i + 1 : Nat) : Int) + 1) = k * (2 * (i : Int) + 1) + k + k := by
    have e : (2 * ((i + 1 : Nat) : Int) + 1) = (2 * (i : Int) + 1) + 1 + 1 := by omega
    rw [e, Int.mul_add, Int.mul_add]; omega
  rw [this]
  omega
theorem stampW_bd (k : Int) (i : Nat) : 0 ≤ stampW k i ∧ stampW k i < 4294967296 := by unfold stampW; omega

set_option maxHeartbeats 400000 in
theorem rstamp_any (width k : Int) (w : World) (hk : 0 ≤ k) (hk2 : k < 4294967296) (hw1 : -9223372036854775808 ≤ width) (hw2 : width ≤ 9223372036854775807) :
    Calls Tryd.prog 9 #[.int .i64 width, .int .u32 k] w fun e w' => ∃ v, e = .returned v ∧ OwnW w.heap.size w' v (stampL k (stampLen width)) ∧ Below w.heap.size w w' := by
  have hz := stampW_zero k hk hk2
  go_enter Tryd.func9, Tryd.ntmps9
  go_wp2
  go_loopw [5, 6, 7] (fun v x j wr => ∃ i : Nat, i ≤ 8 ∧ (i : Int) ≤ max width 0 ∧ j = .int .i64 i ∧ x = .int .u32 (stampW k i) ∧ OwnW w.heap.size wr v (stampL k i) ∧ Below w.heap.size w wr) (fun _ _ j _ => 8 - (intOf j).toNat)
  case atStart => exact ⟨0, by omega, by omega, rfl, by rw [hz], ⟨Own.nil _ _, by simp [stampL]⟩, Below.refl _ _⟩
  case round =>
    obtain ⟨i, hi8, hi, rfl, rfl, ⟨hown, hwf⟩, hb⟩ := hrel
    have hsz := hb.size
    have hlen := Lib.hid (stampL_len k i)
    have hsuc := Lib.hid (stampL_succ k i)
    have hws := Lib.hid (stampW_succ k i)
    have hwb := stampW_bd k i
    have hl8 : (stampL k i).length ≤ 8 := by rw [hlen.out]; exact hi8
    have hz' := Lib.hid hz
    clear hz
    generalize stampW k i = x at *
    by_cases hlt : (i : Int) < width ∧ i < 8
    · obtain ⟨h1, h2⟩ := hlt
      go_wp2_with (first
        | (at_builtin; refine wpList_app1 rfl _ _ 23 rfl u32Ty w.heap.size hown rfl rfl rfl rfl (by unfold maxLen; omega) (by omega) (by omega) ?_; intro v' w1 hown2 hbel2 _)
        | go_in)
      go_roundw
      case rel => exact ⟨i + 1, by omega, by omega, by go_num, val_int (by rw [hws.out]; omega), ⟨by rw [hsuc.out]; exact Own.app hown2 (by rfl), stampL_wf _ _⟩, hb.trans hbel2⟩
      case measure => simp [intOf]; omega
    · have hfin : Hid (stampLen width = i) := by simp only [Hid, stampLen]; omega
      by_cases h1 : (i : Int) < width
      · have h2 : ¬ i < 8 := fun h => hlt ⟨h1, h⟩
        clear hlt
        go_wp2
        go_ret
        exact ⟨_, rfl, by rw [hfin.out]; exact ⟨hown, hwf⟩, hb⟩
      · clear hlt
        go_wp2
        go_ret
        exact ⟨_, rfl, by rw [hfin.out]; exact ⟨hown, hwf⟩, hb⟩

/-- Whose stamp a record is. -/
def unstB (l : List Int) : Bool := decide (0 < l.length ∧ l.length ≤ 8 ∧ l = stampL (l.headD 0) l.length)
def unstN (l : List Int) : Int := if unstB l then l.headD 0 else 0
theorem stampLen_of (n : Nat) (h : n ≤ 8) : stampLen n = n := by unfold stampLen; omega

set_option maxHeartbeats 400000 in
theorem unstamp_any (A : Option Addr) (c : Nat) (l : List Int) (w : World) (hn : l.length ≤ 9223372036854775807) (hl : Ws w w.heap.size A l) :
    Calls Tryd.prog 10 #[.slice A l.length c] w fun e w' => e = .returned (.tuple #[.int .u32 (unstN l), .bool (unstB l)]) ∧ Below w.heap.size w w' := by
  by_cases h0 : l.length = 0
  · have e0 : unstB l = false := by unfold unstB; rw [decide_eq_false_iff_not]; omega
    have e1 : unstN l = 0 := by unfold unstN; rw [e0]; rfl
    rw [e0, e1]
    clear e0 e1
    have x0 : ((l.length : Int) == 0) = true := by simp [h0]
    have h0' := Lib.hid h0
    clear h0
    go_enter Tryd.func10, Tryd.ntmps10
    go_wp2
    go_ret2
    exact ⟨rfl, Below.refl _ _⟩
  · have x0 : ((l.length : Int) == 0) = false := by rw [beq_eq_false_iff_ne]; omega
    by_cases h8 : 8 < l.length
    · have e0 : unstB l = false := by unfold unstB; rw [decide_eq_false_iff_not]; omega
      have e1 : unstN l = 0 := by unfold unstN; rw [e0]; rfl
      rw [e0, e1]
      clear e0 e1
      go_enter Tryd.func10, Tryd.ntmps10
      go_wp2
      go_ret2
      exact ⟨rfl, Below.refl _ _⟩
    · obtain ⟨x, hx⟩ := get_some (show 0 < l.length by omega)
      obtain ⟨⟨hwx, hx0, hx1⟩, b, off, rfl, hlb, hc⟩ := hl.get hx
      have hhd : l.headD 0 = x := by cases l with | nil => simp at hx | cons a l => simpa using hx
      have hu : unstB l = decide (l = stampL x l.length) := by unfold unstB; rw [hhd]; exact decide_eq_decide.2 ⟨fun h => h.2.2, fun h => ⟨by omega, by omega, h⟩⟩
      have hu2 : unstN l = if unstB l then x else 0 := by unfold unstN; rw [hhd]
      have hst := stampLen_of l.length (by omega)
      have hlen := stampL_len x l.length
      have h8b : decide ((8 : Int) < (l.length : Int)) = false := by rw [decide_eq_false_iff_not]; omega
      replace hc : w.cell? ⟨b, off, none⟩ = some (.int .u32 x) := by simpa using hc
      have h0' : 0 < l.length := by omega
      clear hx hhd h0
      rw [hu2, hu]
      clear hu hu2
      rcases hd : decide (l = stampL x l.length) with _ | _
      all_goals
        have hd' := Lib.hid hd
        clear hd
        go_enter Tryd.func10, Tryd.ntmps10
        go_wp2_with fail
        refine (stamp_any _ _ _ hx0 hx1).mono ?_
        rintro e w1 ⟨v, rfl, hov, hb⟩
        rw [hst] at hov
        obtain ⟨A2, c2, rfl, _, hw2⟩ := hov.ws
        rw [hlen]
        have hlw := hl.below hb hb.size
        have hbs := hb.size
        have hcw := (hb.cell (p := ⟨b, off, none⟩) hlb).trans hc
        clear hov
        have hlen' := Lib.hid hlen
        have hst' := Lib.hid hst
        clear hlen hst
        go_wp2_with fail
        refine (by have := same_any (some ⟨b, off, none⟩) A2 c c2 l (stampL x l.length) w1 hn (by have := hlen'.out; omega) hlw hw2; rw [hlen'.out] at this; exact this : Calls _ _ _ _ _).mono ?_
        rintro e w2 ⟨rfl, hb2⟩
        have hcw2 := (hb2.cell (p := ⟨b, off, none⟩) (show b < w1.heap.size by omega)).trans hcw
        clear hcw
        rw [hd'.out]
        go_wp2_with fail
        go_ret2
        exact ⟨rfl, hb.trans (hb2.mono hbs)⟩

end Go.Proofs.YtjfgmallhjclgaaDoor
