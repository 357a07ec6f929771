/- The statement HistoryRight. -/
import Derived.Test.YtopclkkkchhgiaaDoorHis4
import Derived.Test.YtopclkkkchhgiaaDoorHis7
namespace Go.Proofs.YtopclkkkchhgiaaDoor
open Go.RowKit

def PSt (w : World) (nb mb : Nat) (x y : Cl) (Ax Ay : Option Addr) (cx cy : Nat) (w' : World) : Prop := Below w.heap.size w w' ∧ ClBox w' nb x Ax cx ∧ ClBox w' mb y Ay cy ∧ w'.cell? ⟨nb, 0, none⟩ = some (.int .i64 x.p) ∧ w'.cell? ⟨nb, 1, none⟩ = some (.int .i64 x.o) ∧ w'.cell? ⟨nb, 2, none⟩ = some (.int .i64 x.q) ∧ w'.cell? ⟨nb, 3, none⟩ = some (.slice Ax x.r.length cx) ∧ w'.cell? ⟨nb, 4, none⟩ = some (.int .i64 x.c) ∧ w'.cell? ⟨nb, 5, none⟩ = some (.int .i64 x.b) ∧ w'.cell? ⟨nb, 6, none⟩ = some (.int .i64 x.e) ∧ w'.cell? ⟨mb, 0, none⟩ = some (.int .i64 y.p) ∧ w'.cell? ⟨mb, 1, none⟩ = some (.int .i64 y.o) ∧ w'.cell? ⟨mb, 2, none⟩ = some (.int .i64 y.q) ∧ w'.cell? ⟨mb, 3, none⟩ = some (.slice Ay y.r.length cy) ∧ w'.cell? ⟨mb, 4, none⟩ = some (.int .i64 y.c) ∧ w'.cell? ⟨mb, 5, none⟩ = some (.int .i64 y.b) ∧ w'.cell? ⟨mb, 6, none⟩ = some (.int .i64 y.e)
theorem PSt.of {w : World} {nb mb : Nat} {x y : Cl} {Ax Ay : Option Addr} {cx cy : Nat} {w' : World} (h : Below w.heap.size w w') (h1 : ClBox w' nb x Ax cx) (h2 : ClBox w' mb y Ay cy) : PSt w nb mb x y Ax Ay cx cy w' := by
  obtain ⟨a0, a1, a2, a3, a4, a5, a6⟩ := h1.cells
  obtain ⟨b0, b1, b2, b3, b4, b5, b6⟩ := h2.cells
  exact ⟨h, h1, h2, a0, a1, a2, a3, a4, a5, a6, b0, b1, b2, b3, b4, b5, b6⟩
theorem PSt.below {w : World} {nb mb : Nat} {x y : Cl} {Ax Ay : Option Addr} {cx cy : Nat} {w1 w' : World} (h : PSt w nb mb x y Ax Ay cx cy w1) (hb : Below w1.heap.size w1 w') : PSt w nb mb x y Ax Ay cx cy w' :=
  .of (h.1.trans (hb.mono h.1.size)) (h.2.1.kept hb) (h.2.2.1.kept hb)

set_option maxRecDepth 100000 in
set_option maxHeartbeats 4000000 in
theorem historyRight_any (A : Option Addr) (c : Nat) (l : List Cl) (w : World) (hc : l.length ≤ c) (hl : ClSl w w.heap.size A l) (hT : Tab w) :
    Calls Tryd.prog 7 #[.slice A l.length c] w fun e w' => e = .returned (.bool true) ∧ Below w.heap.size w w' := by
  have hsh := short_any A c l 60 w hl (by omega)
  rcases hq : shortB l 60 with _ | _
  · rw [hq] at hsh
    have hsh' := Lib.hid hsh
    clear hsh hq
    go_enter Tryd.func7, Tryd.ntmps7
    go_wp2_with fail
    refine hsh'.out.mono ?_
    rintro e w1 ⟨rfl, hb1⟩
    have haw := Lib.hid (hawake_any w1 (hT.below hb1))
    go_wp2_with fail
    refine haw.out.mono ?_
    rintro e w2 ⟨rfl, hb2⟩
    go_wp2_with fail
    go_ret
    exact ⟨rfl, hb1.trans (hb2.mono hb1.size)⟩
  · rw [hq] at hsh
    have hsh' := Lib.hid hsh
    have h60 : l.length ≤ 60 := by
      unfold shortB at hq
      simp only [Bool.and_eq_true, decide_eq_true_eq] at hq
      omega
    clear hsh hq
    go_enter Tryd.func7, Tryd.ntmps7
    go_wp2_with fail
    refine hsh'.out.mono ?_
    rintro e w1 ⟨rfl, hb1⟩
    go_wp2_with fail
    go_loopw [13] (fun j wr => ∃ i : Nat, i ≤ l.length ∧ j = .int .i64 i ∧ Below w.heap.size w wr) (fun j _ => l.length - (intOf j).toNat)
    case atStart => exact ⟨0, Nat.zero_le _, rfl, hb1⟩
    case round =>
      obtain ⟨i, hi, rfl, hb⟩ := hrel
      by_cases hlt : i < l.length
      · obtain ⟨x, hx⟩ := get_some hlt
        obtain ⟨b, off, Ax, cx, rfl, hlb, ⟨h0, h1, h2, h3, h4, h5, h6⟩, _, hc1, hc2⟩ := (hl.below hb (Nat.le_refl _)) i x hx
        have hB1 := hb.alloc hb.size (.cells #[.int .i64 x.p, .int .i64 x.o, .int .i64 x.q, .slice Ax x.r.length cx, .int .i64 x.c, .int .i64 x.b, .int .i64 x.e] 47)
        have hbx := ClBox.new wr x Ax cx
        clear hx
        obtain ⟨nb, hnb⟩ : ∃ n, wr.heap.size = n := ⟨_, rfl⟩
        go_wp2_with fail
        rw [hnb] at hbx
        go_loopw [19] (fun j wq => ∃ k : Nat, k ≤ l.length ∧ j = .int .i64 k ∧ ClBox wq nb x Ax cx ∧ Below w.heap.size w wq) (fun j _ => l.length - (intOf j).toNat)
        case atStart => exact ⟨0, Nat.zero_le _, rfl, hbx, hB1⟩
        case round =>
          obtain ⟨k, hk, rfl, hbxq, hbq⟩ := hrel
          by_cases hlk : k < l.length
          · obtain ⟨y, hy⟩ := get_some hlk
            obtain ⟨b', off', Ay, cy, hA, _, ⟨g0, g1, g2, g3, g4, g5, g6⟩, _, hd1, hd2⟩ := (hl.below hbq (Nat.le_refl _)) k y hy
            injection hA with hA
            injection hA with hA1 hA2
            subst hA1 hA2
            have hBq1 := hbq.alloc hbq.size (.cells #[.int .i64 y.p, .int .i64 y.o, .int .i64 y.q, .slice Ay y.r.length cy, .int .i64 y.c, .int .i64 y.b, .int .i64 y.e] 47)
            have hby := ClBox.new wr y Ay cy
            have hbxq1 := hbxq.kept ((Below.refl _ wr).alloc (Nat.le_refl _) (.cells #[.int .i64 y.p, .int .i64 y.o, .int .i64 y.q, .slice Ay y.r.length cy, .int .i64 y.c, .int .i64 y.b, .int .i64 y.e] 47))
            obtain ⟨mb, hmb⟩ : ∃ n, wr.heap.size = n := ⟨_, rfl⟩
            clear hy
            clear h0 h1 h2 h3 h4 h5 h6 hbx hB1 hbxq
            go_wp2_with fail
            rw [hmb] at hby
            have hSd : PSt w nb mb x y Ax Ay cx cy (wr.alloc (.cells #[.int .i64 y.p, .int .i64 y.o, .int .i64 y.q, .slice Ay y.r.length cy, .int .i64 y.c, .int .i64 y.b, .int .i64 y.e] 47)).drew := (PSt.of hBq1 hbxq1 hby).below (Below.refl _ _).drew
            clear g0 g1 g2 g3 g4 g5 g6 hBq1 hby hbxq1
            go_region_held3 (fun w' => Below w.heap.size w w' ∧ ClBox w' nb x Ax cx ∧ ClBox w' mb y Ay cy ∧ w'.cell? ⟨nb, 0, none⟩ = some (.int .i64 x.p) ∧ w'.cell? ⟨nb, 1, none⟩ = some (.int .i64 x.o) ∧ w'.cell? ⟨nb, 2, none⟩ = some (.int .i64 x.q) ∧ w'.cell? ⟨nb, 3, none⟩ = some (.slice Ax x.r.length cx) ∧ w'.cell? ⟨nb, 4, none⟩ = some (.int .i64 x.c) ∧ w'.cell? ⟨nb, 5, none⟩ = some (.int .i64 x.b) ∧ w'.cell? ⟨nb, 6, none⟩ = some (.int .i64 x.e) ∧ w'.cell? ⟨mb, 0, none⟩ = some (.int .i64 y.p) ∧ w'.cell? ⟨mb, 1, none⟩ = some (.int .i64 y.o) ∧ w'.cell? ⟨mb, 2, none⟩ = some (.int .i64 y.q) ∧ w'.cell? ⟨mb, 3, none⟩ = some (.slice Ay y.r.length cy) ∧ w'.cell? ⟨mb, 4, none⟩ = some (.int .i64 y.c) ∧ w'.cell? ⟨mb, 5, none⟩ = some (.int .i64 y.b) ∧ w'.cell? ⟨mb, 6, none⟩ = some (.int .i64 y.e))
              (first | exact hSd | assumption)
              (first
                | (go_at_call 26; refine (hbefore_any x y Ax Ay cx cy _).mono ?_; rintro e wx ⟨rfl, hbx⟩; have hSx := PSt.below (w := w) (nb := nb) (mb := mb) (x := x) (y := y) (Ax := Ax) (Ay := Ay) (cx := cx) (cy := cy) (by assumption) hbx)
                | (go_at_call 27; refine (rbefore_any x y Ax Ay cx cy _).mono ?_; rintro e wx ⟨rfl, hbx⟩; have hSx := PSt.below (w := w) (nb := nb) (mb := mb) (x := x) (y := y) (Ax := Ax) (Ay := Ay) (cx := cx) (cy := cy) (by assumption) hbx))
            all_goals
              obtain ⟨hS1, hS2, _⟩ := hSx
              go_wp2_with fail
              go_roundw
              case rel => exact ⟨k + 1, by omega, by go_num, hS2, hS1⟩
              case measure => simp [intOf]; omega
          · go_wp2_with fail
            go_roundw
            case rel => exact ⟨i + 1, by omega, by go_num, hbq⟩
            case measure => simp [intOf]; omega
      · have hr1 := histRight_any A c l wr (by omega) hc (hl.below hb hb.size)
        have hr1' := Lib.hid hr1
        clear hr1
        go_wp2_with fail
        refine hr1'.out.mono ?_
        rintro e w3 ⟨rfl, hb3⟩
        have hB3 := hb.trans (hb3.mono hb.size)
        have hr2 := Lib.hid (rhistRight_any A c l w3 (by omega) (hl.below hB3 hB3.size))
        go_wp2_with fail
        refine hr2.out.mono ?_
        rintro e w4 ⟨rfl, hb4⟩
        have hB4 := hB3.trans (hb4.mono hB3.size)
        have haw := Lib.hid (hawake_any w4 (hT.below hB4))
        go_wp2_with fail
        refine haw.out.mono ?_
        rintro e w5 ⟨rfl, hb5⟩
        go_wp2_with fail
        go_ret
        exact ⟨rfl, hB4.trans (hb5.mono hB4.size)⟩

end Go.Proofs.YtopclkkkchhgiaaDoor
