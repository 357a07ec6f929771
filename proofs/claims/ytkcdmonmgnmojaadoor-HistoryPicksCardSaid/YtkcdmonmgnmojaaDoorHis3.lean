/- Histories: whether a history may be. -/
import Derived.Test.YtkcdmonmgnmojaaDoorHis2
namespace Go.Proofs.YtkcdmonmgnmojaaDoor
open Go.RowKit

def ClBox (W : World) (B : Nat) (x : Cl) (A : Option Addr) (c : Nat) : Prop := W.heap[B]? = some (.cells #[.int .i64 x.p, .int .i64 x.o, .int .i64 x.q, .slice A x.r.length c, .int .i64 x.c, .int .i64 x.b, .int .i64 x.e] 45 (0, 0))
section
variable {W W' : World} {B : Nat} {x : Cl} {A : Option Addr} {c : Nat}
theorem ClBox.lt (h : ClBox W B x A c) : B < W.heap.size := (Array.getElem?_eq_some_iff.1 h).1
theorem ClBox.new (W : World) (x : Cl) (A : Option Addr) (c : Nat) : ClBox (W.alloc (.cells #[.int .i64 x.p, .int .i64 x.o, .int .i64 x.q, .slice A x.r.length c, .int .i64 x.c, .int .i64 x.b, .int .i64 x.e] 45)) W.heap.size x A c := heap_alloc_new W _
theorem ClBox.cells (h : ClBox W B x A c) : W.cell? ⟨B, 0, none⟩ = some (.int .i64 x.p) ∧ W.cell? ⟨B, 1, none⟩ = some (.int .i64 x.o) ∧ W.cell? ⟨B, 2, none⟩ = some (.int .i64 x.q) ∧ W.cell? ⟨B, 3, none⟩ = some (.slice A x.r.length c) ∧ W.cell? ⟨B, 4, none⟩ = some (.int .i64 x.c) ∧ W.cell? ⟨B, 5, none⟩ = some (.int .i64 x.b) ∧ W.cell? ⟨B, 6, none⟩ = some (.int .i64 x.e) := by
  refine ⟨?_, ?_, ?_, ?_, ?_, ?_, ?_⟩ <;> simp [World.cell?, show W.heap[B]? = _ from h]
theorem ClBox.kept (h : ClBox W B x A c) (hb : Below W.heap.size W W') : ClBox W' B x A c := (hb.block B h.lt).trans h
end
theorem pairB_cases (x y : Cl) : ((x.p == y.p) = false ∧ pairB x y = true) ∨ ((x.p == y.p) = true ∧ befB x y = true ∧ pairB x y = true) ∨ ((x.p == y.p) = true ∧ befB x y = false ∧ befB y x = true ∧ pairB x y = true) ∨ ((x.p == y.p) = true ∧ befB x y = false ∧ befB y x = false ∧ pairB x y = false) := by
  unfold pairB
  cases (x.p == y.p) <;> cases befB x y <;> cases befB y x <;> simp

set_option maxRecDepth 100000 in
set_option maxHeartbeats 4000000 in
theorem histRight_any (A : Option Addr) (c : Nat) (l : List Cl) (w : World) (hn : l.length ≤ 1000) (hc : l.length ≤ c) (hl : ClSl w w.heap.size A l) :
    Calls Tryd.prog 49 #[.slice A l.length c] w fun e w' => e = .returned (.bool (rightH l)) ∧ Below w.heap.size w w' := by
  go_enter Tryd.func49, Tryd.ntmps49
  go_wp2_with fail
  go_loopw [9] (fun j wr => ∃ k : Nat, k ≤ l.length ∧ j = .int .i64 k ∧ (∀ i, i < k → rightAt l i) ∧ Below w.heap.size w wr) (fun j _ => l.length - (intOf j).toNat)
  case atStart => exact ⟨0, Nat.zero_le _, rfl, fun i h => by omega, Below.refl _ _⟩
  case round =>
    obtain ⟨k, hk, rfl, hall, hb⟩ := hrel
    by_cases hlt : k < l.length
    · obtain ⟨x, hx⟩ := get_some hlt
      obtain ⟨b, off, Ax, cx, rfl, hlb, ⟨h0, h1, h2, h3, h4, h5, h6⟩, _, hc1, hc2⟩ := (hl.below hb (Nat.le_refl _)) k x hx
      have hrr := hright_any x Ax cx (wr.alloc (.cells #[.int .i64 x.p, .int .i64 x.o, .int .i64 x.q, .slice Ax x.r.length cx, .int .i64 x.c, .int .i64 x.b, .int .i64 x.e] 45))
      have hB1 := hb.alloc hb.size (.cells #[.int .i64 x.p, .int .i64 x.o, .int .i64 x.q, .slice Ax x.r.length cx, .int .i64 x.c, .int .i64 x.b, .int .i64 x.e] 45)
      have hbx := ClBox.new wr x Ax cx
      have hx' := Lib.hid hx
      have hall' := Lib.hid hall
      clear hx hall
      rcases hq : clB x with _ | _
      · rw [hq] at hrr
        have hrr' := Lib.hid hrr
        have hno := Lib.hid (rightH_no hlt (fun h => by
          have := (h x hx'.out).1
          rw [hq] at this
          cases this))
        clear hrr hq
        go_wp2_with fail
        refine hrr'.out.mono ?_
        rintro e w1 ⟨rfl, hb1⟩
        go_wp2_with fail
        go_ret
        exact ⟨ret_bool (by rw [hno.out]), hB1.trans (hb1.mono hB1.size)⟩
      · rw [hq] at hrr
        have hrr' := Lib.hid hrr
        have hq' := Lib.hid hq
        clear hrr hq
        have hk0 : (k : Int) ≤ (l.length : Int) := by omega
        have hkc : (k : Int) ≤ (c : Int) := by omega
        obtain ⟨nb, hnb⟩ : ∃ n, wr.heap.size = n := ⟨_, rfl⟩
        go_wp2_with fail
        refine hrr'.out.mono ?_
        rintro e w1 ⟨rfl, hb1⟩
        have hbx1 := hbx.kept hb1
        have hB2 := hB1.trans (hb1.mono hB1.size)
        rw [hnb] at hbx1
        clear hbx hb1 hB1
        go_wp2_with fail
        go_loopw [21] (fun j wq => ∃ m : Nat, m ≤ k ∧ j = .int .i64 m ∧ (∀ i y, i < m → l[i]? = some y → pairB x y = true) ∧ ClBox wq nb x Ax cx ∧ Below w.heap.size w wq) (fun j _ => k - (intOf j).toNat)
        case atStart => exact ⟨0, Nat.zero_le _, rfl, fun i y h => by omega, hbx1, hB2⟩
        case round =>
          obtain ⟨m, hm, rfl, hpm, hbxq, hbq⟩ := hrel
          by_cases hlm : m < k
          · obtain ⟨y, hy⟩ := get_some (show m < l.length by omega)
            obtain ⟨b', off', Ay, cy, hA, _, ⟨g0, g1, g2, g3, g4, g5, g6⟩, _, hd1, hd2⟩ := (hl.below hbq (Nat.le_refl _)) m y hy
            injection hA with hA
            injection hA with hA1 hA2
            subst hA1 hA2
            have hBq1 := hbq.alloc hbq.size (.cells #[.int .i64 y.p, .int .i64 y.o, .int .i64 y.q, .slice Ay y.r.length cy, .int .i64 y.c, .int .i64 y.b, .int .i64 y.e] 45)
            have hby := ClBox.new wr y Ay cy
            have hbxq1 := hbxq.kept ((Below.refl _ wr).alloc (Nat.le_refl _) (.cells #[.int .i64 y.p, .int .i64 y.o, .int .i64 y.q, .slice Ay y.r.length cy, .int .i64 y.c, .int .i64 y.b, .int .i64 y.e] 45))
            obtain ⟨d0, d1, d2, d3, d4, d5, d6⟩ := hbxq.cells
            have hltq := hbxq.lt
            have hneq : nb ≠ wr.heap.size := by omega
            have hmi : (m : Int) < (k : Int) := by omega
            have hb1 := Lib.hid (fun W => hbefore_any x y Ax Ay cx cy W)
            have hb2 := Lib.hid (fun W => hbefore_any y x Ay Ax cy cx W)
            have hy' := Lib.hid hy
            have hpm' := Lib.hid hpm
            have hP := pairB_cases x y
            clear hy hpm
            rcases hP with ⟨p1, p2⟩ | ⟨p1, p2, p3⟩ | ⟨p1, p2, p3, p4⟩ | ⟨p1, p2, p3, p4⟩
            · have pp := Lib.hid p2
              clear p2
              go_wp2_with fail
              go_roundw
              case rel => exact ⟨m + 1, by omega, by go_num, fun i z hi hz => by
                  by_cases e : i = m
                  · subst e; have := hy'.out; rw [hz] at this; cases this; exact pp.out
                  · exact hpm'.out i z (by omega) hz, hbxq1, hBq1⟩
              case measure => simp [intOf]; omega
            · have pp := Lib.hid p3
              have hb1' := hb1.out
              rw [p2] at hb1'
              have hb1'' := Lib.hid hb1'
              clear p3 p2 hb1' hb1 hb2
              go_wp2_with fail
              refine (hb1''.out _).mono ?_
              rintro e w3 ⟨rfl, hb3⟩
              have hbx3 := hbxq1.kept hb3
              have hB3 := hBq1.trans (hb3.mono hBq1.size)
              go_wp2_with fail
              go_roundw
              case rel => exact ⟨m + 1, by omega, by go_num, fun i z hi hz => by
                  by_cases e : i = m
                  · subst e; have := hy'.out; rw [hz] at this; cases this; exact pp.out
                  · exact hpm'.out i z (by omega) hz, hbx3, hB3⟩
              case measure => simp [intOf]; omega
            all_goals
              have pp := Lib.hid p4
              have hb1' := hb1.out
              have hb2' := hb2.out
              rw [p2] at hb1'
              rw [p3] at hb2'
              have hb1'' := Lib.hid hb1'
              have hb2'' := Lib.hid hb2'
              clear p4 p3 p2 hb1' hb1 hb2 hb2'
              go_wp2_with fail
              refine (hb1''.out _).mono ?_
              rintro e w3 ⟨rfl, hb3⟩
              have hbx3 := hbxq1.kept hb3
              have hby3 := hby.kept hb3
              have hB3 := hBq1.trans (hb3.mono hBq1.size)
              obtain ⟨mb, hmb⟩ : ∃ n, wr.heap.size = n := ⟨_, rfl⟩
              rw [hmb] at hby3
              clear d0 d1 d2 d3 d4 d5 d6 hltq hneq hby
              obtain ⟨d0, d1, d2, d3, d4, d5, d6⟩ := hbx3.cells
              obtain ⟨e0, e1, e2, e3, e4, e5, e6⟩ := hby3.cells
              go_wp2_with fail
              refine (hb2''.out _).mono ?_
              rintro e w4 ⟨rfl, hb4⟩
              have hbx4 := hbx3.kept hb4
              have hB4 := hB3.trans (hb4.mono hB3.size)
              go_wp2_with fail
              first
                | (go_roundw
                   case rel => exact ⟨m + 1, by omega, by go_num, fun i z hi hz => by
                      by_cases e : i = m
                      · subst e; have := hy'.out; rw [hz] at this; cases this; exact pp.out
                      · exact hpm'.out i z (by omega) hz, hbx4, hB4⟩
                   case measure => simp [intOf]; omega)
                | (go_ret
                   exact ⟨ret_bool (by rw [rightH_no2 hx'.out hy'.out (by omega) pp.out]), hB4⟩)
          · have hmk : m = k := by omega
            subst hmk
            have hrt := Lib.hid (show rightAt l m from fun x2 hx2 => by
              have := hx'.out
              rw [hx2] at this
              cases this
              exact ⟨hq'.out, fun i y hi hy => hpm i y hi hy⟩)
            clear hpm
            go_wp2_with fail
            go_roundw
            case rel => exact ⟨m + 1, by omega, by go_num, fun i hi => by
                by_cases e : i = m
                · subst e; exact hrt.out
                · exact hall'.out i (by omega), hbq⟩
            case measure => simp [intOf]; omega
    · have hr := Lib.hid (rightH_yes (l := l) (fun i hi => hall i (by omega)))
      clear hall
      go_wp2_with fail
      go_ret
      exact ⟨ret_bool (by rw [hr.out]), hb⟩

end Go.Proofs.YtkcdmonmgnmojaaDoor
