/- Histories: words alike, calls alike. -/
import Derived.Test.YtkcdmonmgnmojaaDoorHis3
import Derived.Test.YtkcdmonmgnmojaaDoorHLnDef
import Derived.Deep.QuietTactic
import Derived.BigQuiet
namespace Go.Proofs.YtkcdmonmgnmojaaDoor
open Go.RowKit

set_option maxHeartbeats 400000 in
theorem words_any (A A' : Option Addr) (c c' : Nat) (l m : List Int) (w : World) (hn : l.length ≤ 9223372036854775807) (_hm : m.length ≤ 9223372036854775807) (hl : Ws w w.heap.size A l) (hm' : Ws w w.heap.size A' m) :
    Calls Tryd.prog 73 #[.slice A l.length c, .slice A' m.length c'] w fun e w' => e = .returned (.bool (decide (l = m))) ∧ Below w.heap.size w w' := by
  by_cases hlen : l.length = m.length
  · have x0 : ((l.length : Int) != (m.length : Int)) = false := by simp [hlen]
    have hlen' := Lib.hid hlen
    clear hlen
    go_enter Tryd.func73, Tryd.ntmps73
    go_wp2
    go_loopw [5, 13] (fun i j wr => ∃ k : Nat, k ≤ l.length ∧ j = .int .i64 k ∧ l.take k = m.take k ∧ Below w.heap.size w wr) (fun _ j _ => l.length - (intOf j).toNat)
    case atStart => exact ⟨0, Nat.zero_le _, rfl, rfl, Below.refl _ _⟩
    case round =>
      obtain ⟨k, hk, rfl, heq, hb⟩ := hrel
      by_cases hlt : k < l.length
      · obtain ⟨x, hx⟩ := get_some hlt
        obtain ⟨y, hy⟩ := get_some (show k < m.length by have := hlen'.out; omega)
        obtain ⟨⟨_, _, _⟩, b, off, rfl, hlb, h0⟩ := (hl.below hb (Nat.le_refl _)).get hx
        obtain ⟨⟨_, _, _⟩, b2, off2, rfl, hlb2, h1⟩ := (hm'.below hb (Nat.le_refl _)).get hy
        have hmk : (k : Int) < m.length := by have := hlen'.out; omega
        have heq' := Lib.hid heq
        have hx' := Lib.hid hx
        have hy' := Lib.hid hy
        clear heq hx hy
        by_cases hxy : x = y
        · have x1 : (x != y) = false := by simp [hxy]
          have hxy' := Lib.hid hxy
          clear hxy
          go_wp2
          go_quiet (fail)
          go_wp2
          go_roundw
          case rel => exact ⟨k + 1, by omega, by go_num, by rw [take_snoc hx'.out, take_snoc hy'.out, heq'.out, hxy'.out], drewN_below hb _⟩
          case measure => simp [intOf]; omega
        · have x1 : (x != y) = true := by simp [hxy]
          go_wp2
          go_quiet (fail)
          go_wp2
          go_ret
          refine ⟨ret_bool ?_, drewN_below hb _⟩
          symm
          rw [decide_eq_false_iff_not]
          intro e
          have := hx'.out
          rw [e, hy'.out] at this
          exact hxy (by injection this with h; exact h.symm)
      · have h1 := take_all hlt
        have h2 : m.take k = m := take_all (by have := hlen'.out; omega)
        have h3 := Lib.hid (show l = m by rw [← h1, heq, h2])
        clear h1 h2 heq
        go_wp2
        go_ret
        exact ⟨ret_bool (by simpa using h3.out), hb⟩
  · have x0 : ((l.length : Int) != (m.length : Int)) = true := by simp; omega
    go_enter Tryd.func73, Tryd.ntmps73
    go_wp2
    go_ret
    exact ⟨ret_bool (by symm; rw [decide_eq_false_iff_not]; intro e; exact hlen (by rw [e])), Below.refl _ _⟩


def clEq (x y : Cl) : Bool := x.p == y.p && (x.o == y.o && (x.q == y.q && (decide (x.r = y.r) && (x.c == y.c && (x.b == y.b && x.e == y.e)))))
theorem clEq_self (x : Cl) : clEq x x = true := by simp [clEq]
set_option maxRecDepth 100000 in
set_option maxHeartbeats 4000000 in
theorem pcall_any (x y : Cl) (A A' : Option Addr) (c c' : Nat) (w : World) (hx : Ws w w.heap.size A x.r) (hy : Ws w w.heap.size A' y.r) (lx : x.r.length ≤ 9223372036854775807) (ly : y.r.length ≤ 9223372036854775807) :
    Calls Tryd.prog 32 #[clV x A c, clV y A' c'] w fun r w' => r = .returned (.bool (clEq x y)) ∧ Below w.heap.size w w' := by
  obtain ⟨p, o, q, r, cc, b, e⟩ := x
  obtain ⟨p2, o2, q2, r2, cc2, b2, e2⟩ := y
  unfold clV
  simp only at hx hy lx ly ⊢
  have hr : clEq ⟨p, o, q, r, cc, b, e⟩ ⟨p2, o2, q2, r2, cc2, b2, e2⟩ = (p == p2 && (o == o2 && (q == q2 && (decide (r = r2) && (cc == cc2 && (b == b2 && e == e2)))))) := rfl
  rw [hr]
  have hw := fun (W : World) (hb : Below w.heap.size w W) => words_any A A' c c' r r2 W lx ly (hx.below hb hb.size) (hy.below hb hb.size)
  obtain ⟨d, hd⟩ : ∃ d, decide (r = r2) = d := ⟨_, rfl⟩
  rw [hd] at hw ⊢
  have hB := ((Below.refl w.heap.size w).alloc (Nat.le_refl _) (.cells #[.int .i64 p, .int .i64 o, .int .i64 q, .slice A r.length c, .int .i64 cc, .int .i64 b, .int .i64 e] 45)).alloc (by simp) (.cells #[.int .i64 p2, .int .i64 o2, .int .i64 q2, .slice A' r2.length c', .int .i64 cc2, .int .i64 b2, .int .i64 e2] 45)
  have hw' := Lib.hid (hw _ hB)
  have hX := Lib.hid (ClBox.kept (ClBox.new w ⟨p, o, q, r, cc, b, e⟩ A c) ((Below.refl _ _).alloc (Nat.le_refl _) (.cells #[.int .i64 p2, .int .i64 o2, .int .i64 q2, .slice A' r2.length c', .int .i64 cc2, .int .i64 b2, .int .i64 e2] 45)))
  have hY := Lib.hid (ClBox.new (w.alloc (.cells #[.int .i64 p, .int .i64 o, .int .i64 q, .slice A r.length c, .int .i64 cc, .int .i64 b, .int .i64 e] 45)) ⟨p2, o2, q2, r2, cc2, b2, e2⟩ A' c')
  rw [show (w.alloc (.cells #[.int .i64 p, .int .i64 o, .int .i64 q, .slice A r.length c, .int .i64 cc, .int .i64 b, .int .i64 e] 45)).heap.size = w.heap.size + 1 by simp] at hY
  have hB' := Lib.hid hB
  clear hw hB hx hy hr hd
  rcases h0 : (p == p2) with _ | _
  · go_enter Tryd.func32, Tryd.ntmps32
    go_wp2_with fail
    go_ret
    exact ⟨rfl, hB'.out⟩
  · rcases h1 : (o == o2) with _ | _
    · go_enter Tryd.func32, Tryd.ntmps32
      go_wp2_with fail
      go_ret
      exact ⟨rfl, hB'.out⟩
    · rcases h2 : (q == q2) with _ | _
      · go_enter Tryd.func32, Tryd.ntmps32
        go_wp2_with fail
        go_ret
        exact ⟨rfl, hB'.out⟩
      · cases d
        · go_enter Tryd.func32, Tryd.ntmps32
          go_wp2_with (go_at_call 73; refine hw'.out.mono ?_; rintro e w1 ⟨rfl, hb1⟩; obtain ⟨_, _, _, _, x4, x5, x6⟩ := (hX.out.kept hb1).cells; obtain ⟨_, _, _, _, y4, y5, y6⟩ := (hY.out.kept hb1).cells)
          go_ret
          exact ⟨rfl, hB'.out.trans (hb1.mono hB'.out.size)⟩
        · rcases h4 : (cc == cc2) with _ | _
          · go_enter Tryd.func32, Tryd.ntmps32
            go_wp2_with (go_at_call 73; refine hw'.out.mono ?_; rintro e w1 ⟨rfl, hb1⟩; obtain ⟨_, _, _, _, x4, x5, x6⟩ := (hX.out.kept hb1).cells; obtain ⟨_, _, _, _, y4, y5, y6⟩ := (hY.out.kept hb1).cells)
            go_ret
            exact ⟨rfl, hB'.out.trans (hb1.mono hB'.out.size)⟩
          · rcases h5 : (b == b2) with _ | _
            · go_enter Tryd.func32, Tryd.ntmps32
              go_wp2_with (go_at_call 73; refine hw'.out.mono ?_; rintro e w1 ⟨rfl, hb1⟩; obtain ⟨_, _, _, _, x4, x5, x6⟩ := (hX.out.kept hb1).cells; obtain ⟨_, _, _, _, y4, y5, y6⟩ := (hY.out.kept hb1).cells)
              go_ret
              exact ⟨rfl, hB'.out.trans (hb1.mono hB'.out.size)⟩
            · rcases h6 : (e == e2) with _ | _
              · go_enter Tryd.func32, Tryd.ntmps32
                go_wp2_with (go_at_call 73; refine hw'.out.mono ?_; rintro e w1 ⟨rfl, hb1⟩; obtain ⟨_, _, _, _, x4, x5, x6⟩ := (hX.out.kept hb1).cells; obtain ⟨_, _, _, _, y4, y5, y6⟩ := (hY.out.kept hb1).cells)
                go_ret
                exact ⟨rfl, hB'.out.trans (hb1.mono hB'.out.size)⟩
              · go_enter Tryd.func32, Tryd.ntmps32
                go_wp2_with (go_at_call 73; refine hw'.out.mono ?_; rintro e w1 ⟨rfl, hb1⟩; obtain ⟨_, _, _, _, x4, x5, x6⟩ := (hX.out.kept hb1).cells; obtain ⟨_, _, _, _, y4, y5, y6⟩ := (hY.out.kept hb1).cells)
                go_ret
                exact ⟨rfl, hB'.out.trans (hb1.mono hB'.out.size)⟩

end Go.Proofs.YtkcdmonmgnmojaaDoor
