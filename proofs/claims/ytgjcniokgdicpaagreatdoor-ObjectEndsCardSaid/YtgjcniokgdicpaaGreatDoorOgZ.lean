/- The statement ObjectEnds: the walk. -/
import Derived.Test.YtgjcniokgdicpaaGreatDoorOgY
namespace Go.Proofs.YtgjcniokgdicpaaGreatDoor
open Go.RowKit
attribute [local go_sem] Oper.semAt_some

theorem cat_form {w : World} {base n : Nat} {e : TypeId} {v : Value} {xs : List Value} {a b : Nat} (h : w.ownsRow base e 1 v n xs) (hb : v.ownBlock = some a ∨ v.ownBlock = some b) : ∃ g cap, v = .slice (some ⟨g, 0, none⟩) n cap ∧ base ≤ g := by
  rcases h.2 with ⟨rfl, _⟩ | ⟨g, cap, cur, rfl, hg, _⟩
  · rcases hb with q | q <;> cases q
  · exact ⟨g, cap, rfl, hg⟩

set_option maxRecDepth 100000 in
set_option maxHeartbeats 8000000 in
theorem ends_N (c : Cs) (r l : List Int) (ps : List Pk) (W : World) (h : CsOk c r l ps W) (hlight : decide (lightB c) = false) : Calls Tryz.prog 4 #[.agg (csA c)] W fun e w' => e = .returned (.bool true) ∧ Below W.heap.size W w' := by
  have hb0 := (Below.refl W.heap.size W).alloc (Nat.le_refl _) (.cells (csA c) 39)
  have hn0 := RowB.new W (csA c) 39
  have hli := light_g c
  rw [hlight] at hli
  have HLI := Lib.hid hli
  have HX := Lib.hid h
  obtain ⟨n, hn⟩ : ∃ n, W.heap.size = n := ⟨_, rfl⟩
  rw [hn] at hn0
  have HB0 := Lib.hid hb0
  have HN0 := Lib.hid hn0
  have HNN := Lib.hid hn
  clear hli hlight h hb0 hn0
  unfold csA at HLI HB0 HN0
  unfold csA
  go_enter Tryz.func4, Tryz.ntmps4
  go_wp2_with fail
  refine (HLI.out _).mono ?_
  rintro e w1 ⟨rfl, hb1⟩
  have hn1 := HN0.out.kept hb1
  have HB1 := Lib.hid (HB0.out.trans (hb1.mono HB0.out.size))
  have HN1 := Lib.hid (show RowB w1 n (csA c) 39 from hn1)
  clear hb1 hn1
  go_wp2_with fail
  refine (awake_g _ (tab_low HX.out.tab HB1.out) (by have := HB1.out.size; have := HX.out.g; omega)).mono ?_
  rintro e wz ⟨rfl, hbz⟩
  have HBZ := Lib.hid (HB1.out.trans (hbz.mono HB1.out.size))
  clear hbz
  go_wp2_with fail
  go_ret
  exact ⟨rfl, by first | exact HBZ.out | (rw [← HNN.out]; exact HBZ.out)⟩
set_option maxRecDepth 100000 in
set_option maxHeartbeats 8000000 in
theorem ends_E (c : Cs) (r l : List Int) (ps : List Pk) (W : World) (h : CsOk c r l ps W) (hob : c.o.Ok) (hrl : r.length ≤ 1000000) (hlight : decide (lightB c) = true) (hcode : begE c.o c.a c.op c.rd r.length ≠ 0) : Calls Tryz.prog 4 #[.agg (csA c)] W fun e w' => e = .returned (.bool true) ∧ Below W.heap.size W w' := by
  have hb0 := (Below.refl W.heap.size W).alloc (Nat.le_refl _) (.cells (csA c) 39)
  have hn0 := RowB.new W (csA c) 39
  have hli := light_g c
  rw [hlight] at hli
  have HLI := Lib.hid hli
  have HX := Lib.hid h
  obtain ⟨n, hn⟩ : ∃ n, W.heap.size = n := ⟨_, rfl⟩
  rw [hn] at hn0
  have HB0 := Lib.hid hb0
  have HN0 := Lib.hid hn0
  have HNN := Lib.hid hn
  clear hli hlight h hb0 hn0
  unfold csA at HLI HB0 HN0
  unfold csA
  go_enter Tryz.func4, Tryz.ntmps4
  go_wp2_with fail
  refine (HLI.out _).mono ?_
  rintro e w1 ⟨rfl, hb1⟩
  have hn1 := HN0.out.kept hb1
  have HB1 := Lib.hid (HB0.out.trans (hb1.mono HB0.out.size))
  have HN1 := Lib.hid (show RowB w1 n (csA c) 39 from hn1)
  clear hb1 hn1
  have c0 : w1.cell? ⟨n, 0, none⟩ = some (.int .i64 c.o.k) := (HN1.out.cell 0).trans rfl
  have c1 : w1.cell? ⟨n, 1, none⟩ = some (.int .i64 c.o.wd) := (HN1.out.cell 1).trans rfl
  have c2 : w1.cell? ⟨n, 2, none⟩ = some (.int .i64 c.o.s) := (HN1.out.cell 2).trans rfl
  have c3 : w1.cell? ⟨n, 3, none⟩ = some (.int .i64 c.o.c) := (HN1.out.cell 3).trans rfl
  have c4 : w1.cell? ⟨n, 4, none⟩ = some (.int .u32 c.o.st) := (HN1.out.cell 4).trans rfl
  have c5 : w1.cell? ⟨n, 5, none⟩ = some (.slice c.o.I c.o.ni c.o.ci) := (HN1.out.cell 5).trans rfl
  have c6 : w1.cell? ⟨n, 6, none⟩ = some (.int .i64 c.o.wr) := (HN1.out.cell 6).trans rfl
  have c7 : w1.cell? ⟨n, 7, none⟩ = some (.slice c.o.R c.o.nr c.o.cr) := (HN1.out.cell 7).trans rfl
  have c8 : w1.cell? ⟨n, 8, none⟩ = some (.int .i64 c.a) := (HN1.out.cell 8).trans rfl
  have c9 : w1.cell? ⟨n, 9, none⟩ = some (.int .i64 c.op) := (HN1.out.cell 9).trans rfl
  have c10 : w1.cell? ⟨n, 10, none⟩ = some (.int .i64 c.rd) := (HN1.out.cell 10).trans rfl
  have c11 : w1.cell? ⟨n, 11, none⟩ = some (.slice c.RA c.rn c.rc) := (HN1.out.cell 11).trans rfl
  have hbg := obegin_o c.o c.a c.op c.rd c.RA c.rc r hob w1 (by have := HX.out.rn; have := hrl; omega) (HX.out.r.below HB1.out HB1.out.size) HX.out.a1
  rw [← HX.out.rn] at hbg
  obtain ⟨code, hc0⟩ : ∃ x, begE c.o c.a c.op c.rd r.length = x := ⟨_, rfl⟩
  have HC0 := Lib.hid hc0
  have hc1 : begE c.o c.a c.op c.rd c.rn = code := by rw [HX.out.rn]; exact hc0
  rw [hc1] at hbg
  have HBG := Lib.hid hbg
  rw [hc0] at hcode
  have d0 : (code != 0) = true := by simpa using hcode
  have d00 : (code == 0) = false := by simpa using hcode
  have HC := Lib.hid hcode
  clear hbg hc0 hc1 hcode
  unfold obA at HBG
  go_wp2_with fail
  refine HBG.out.mono ?_
  rintro e w2 ⟨x, rfl, hbe⟩
  obtain ⟨hb2, hno, hyes⟩ := hbe
  have HN2 := Lib.hid (HN1.out.kept hb2)
  have HB2 := Lib.hid (HB1.out.trans (hb2.mono HB1.out.size))
  obtain rfl := hno (by rw [HC0.out]; exact HC.out)
  clear hb2 hno hyes
  clear c0 c1 c2 c3 c4 c5 c6 c7 c8 c9 c10 c11
  go_wp2_with fail
  skip
  have HN2d := Lib.hid (HN2.out.kept (Below.refl _ w2).drew)
  have HB2d := Lib.hid HB2.out.drew
  have hSd : (fun w' : World => Below w2.heap.size w2 w') w2.drew := (Below.refl _ w2).drew
  refine wp_region_held_drew (S := (fun w' : World => Below w2.heap.size w2 w')) (by kernel_rfl) hSd (fun hHeld => ?_)
  clear hSd
  generalize w2.drew = wd at hHeld HN2d HB2d ⊢
  have hHeld : (fun w' : World => Below w2.heap.size w2 w') wd := hHeld
  refine tkH 0 ?_
  refine tkH 1 ?_
  refine tkH 2 ?_
  refine wpAnyH_take (i := 3) (oi := ?_) (v := undef) ?_ (by kernel_rfl) (by kernel_rfl) (by kernel_rfl) ?_ (Or.inr ⟨?_, rfl⟩) (by assumption) ?_
  rotate_left 1
  · (simp only [List.getElem?_toArray, List.getElem?_cons_succ, List.getElem?_cons_zero]; rfl)
  · first | exact fun _ _ _ h => h | exact fun _ _ _ h => by cases h.1
  · rfl
  try first | simp only [pS, List.set] | simp only [pN]
  refine wpAnyH_take (i := 4) (oi := ?_) (v := undef) ?_ (by kernel_rfl) (by kernel_rfl) (by kernel_rfl) ?_ (Or.inr ⟨?_, rfl⟩) (by assumption) ?_
  rotate_left 1
  · (simp only [List.getElem?_toArray, List.getElem?_cons_succ, List.getElem?_cons_zero]; rfl)
  · first | exact fun _ _ _ h => h | exact fun _ _ _ h => by cases h.1
  · rfl
  try first | simp only [pS, List.set] | simp only [pN]
  refine tkH 5 ?_
  refine tkH 6 ?_
  refine wpAnyH_take (i := 7) (oi := ?_) (v := undef) ?_ (by kernel_rfl) (by kernel_rfl) (by kernel_rfl) ?_ (Or.inr ⟨?_, rfl⟩) (by assumption) ?_
  rotate_left 1
  · (simp only [List.getElem?_toArray, List.getElem?_cons_succ, List.getElem?_cons_zero]; rfl)
  · first | exact fun _ _ _ h => h | exact fun _ _ _ h => by cases h.1
  · rfl
  try first | simp only [pS, List.set] | simp only [pN]
  refine wpAnyH_take (i := 8) (oi := ?_) (v := undef) ?_ (by kernel_rfl) (by kernel_rfl) (by kernel_rfl) ?_ (Or.inr ⟨?_, rfl⟩) (by assumption) ?_
  rotate_left 1
  · (simp only [List.getElem?_toArray, List.getElem?_cons_succ, List.getElem?_cons_zero]; rfl)
  · first | exact fun _ _ _ h => h | exact fun _ _ _ h => by cases h.1
  · rfl
  try first | simp only [pS, List.set] | simp only [pN]
  refine wpAnyH_take (i := 9) (oi := ?_) (v := undef) ?_ (by kernel_rfl) (by kernel_rfl) (by kernel_rfl) ?_ (Or.inr ⟨?_, rfl⟩) (by assumption) ?_
  rotate_left 1
  · (simp only [List.getElem?_toArray, List.getElem?_cons_succ, List.getElem?_cons_zero]; rfl)
  · first | exact fun _ _ _ h => h | exact fun _ _ _ h => by cases h.1
  · rfl
  try first | simp only [pS, List.set] | simp only [pN]
  refine wpAnyH_take (i := 10) (oi := ?_) (v := undef) ?_ (by kernel_rfl) (by kernel_rfl) (by kernel_rfl) ?_ (Or.inr ⟨?_, rfl⟩) (by assumption) ?_
  rotate_left 1
  · (simp only [List.getElem?_toArray, List.getElem?_cons_succ, List.getElem?_cons_zero]; rfl)
  · first | exact fun _ _ _ h => h | exact fun _ _ _ h => by cases h.1
  · rfl
  try first | simp only [pS, List.set] | simp only [pN]
  refine wpAnyH_take (i := 11) (oi := ?_) (v := undef) ?_ (by kernel_rfl) (by kernel_rfl) (by kernel_rfl) ?_ (Or.inr ⟨?_, rfl⟩) (by assumption) ?_
  rotate_left 1
  · (simp only [List.getElem?_toArray, List.getElem?_cons_succ, List.getElem?_cons_zero]; rfl)
  · first | exact fun _ _ _ h => h | exact fun _ _ _ h => by cases h.1
  · rfl
  try first | simp only [pS, List.set] | simp only [pN]
  refine wpAnyH_take (i := 12) (oi := ?_) (v := undef) ?_ (by kernel_rfl) (by kernel_rfl) (by kernel_rfl) ?_ (Or.inr ⟨?_, rfl⟩) (by assumption) ?_
  rotate_left 1
  · (simp only [List.getElem?_toArray, List.getElem?_cons_succ, List.getElem?_cons_zero]; rfl)
  · first | exact fun _ _ _ h => h | exact fun _ _ _ h => by cases h.1
  · rfl
  try first | simp only [pS, List.set] | simp only [pN]
  refine tkH 13 ?_
  refine tkH 14 ?_
  refine wpAnyH_take (i := 15) (oi := ?_) (v := undef) ?_ (by kernel_rfl) (by kernel_rfl) (by kernel_rfl) ?_ (Or.inr ⟨?_, rfl⟩) (by assumption) ?_
  rotate_left 1
  · (simp only [List.getElem?_toArray, List.getElem?_cons_succ, List.getElem?_cons_zero]; rfl)
  · first | exact fun _ _ _ h => h | exact fun _ _ _ h => by cases h.1
  · rfl
  try first | simp only [pS, List.set] | simp only [pN]
  refine wpAnyH_take (i := 16) (oi := ?_) (v := undef) ?_ (by kernel_rfl) (by kernel_rfl) (by kernel_rfl) ?_ (Or.inr ⟨?_, rfl⟩) (by assumption) ?_
  rotate_left 1
  · (simp only [List.getElem?_toArray, List.getElem?_cons_succ, List.getElem?_cons_zero]; rfl)
  · first | exact fun _ _ _ h => h | exact fun _ _ _ h => by cases h.1
  · rfl
  try first | simp only [pS, List.set] | simp only [pN]
  refine wpAnyH_take (i := 17) (oi := ?_) (v := undef) ?_ (by kernel_rfl) (by kernel_rfl) (by kernel_rfl) ?_ (Or.inr ⟨?_, rfl⟩) (by assumption) ?_
  rotate_left 1
  · (simp only [List.getElem?_toArray, List.getElem?_cons_succ, List.getElem?_cons_zero]; rfl)
  · first | exact fun _ _ _ h => h | exact fun _ _ _ h => by cases h.1
  · rfl
  try first | simp only [pS, List.set] | simp only [pN]
  refine wpAnyH_take (i := 18) (oi := ?_) (v := undef) ?_ (by kernel_rfl) (by kernel_rfl) (by kernel_rfl) ?_ (Or.inr ⟨?_, rfl⟩) (by assumption) ?_
  rotate_left 1
  · (simp only [List.getElem?_toArray, List.getElem?_cons_succ, List.getElem?_cons_zero]; rfl)
  · first | exact fun _ _ _ h => h | exact fun _ _ _ h => by cases h.1
  · rfl
  try first | simp only [pS, List.set] | simp only [pN]
  refine wpAnyH_take (i := 19) (oi := ?_) (v := undef) ?_ (by kernel_rfl) (by kernel_rfl) (by kernel_rfl) ?_ (Or.inr ⟨?_, rfl⟩) (by assumption) ?_
  rotate_left 1
  · (simp only [List.getElem?_toArray, List.getElem?_cons_succ, List.getElem?_cons_zero]; rfl)
  · first | exact fun _ _ _ h => h | exact fun _ _ _ h => by cases h.1
  · rfl
  try first | simp only [pS, List.set] | simp only [pN]
  refine wpAnyH_take (i := 20) (oi := ?_) (v := undef) ?_ (by kernel_rfl) (by kernel_rfl) (by kernel_rfl) ?_ (Or.inr ⟨?_, rfl⟩) (by assumption) ?_
  rotate_left 1
  · (simp only [List.getElem?_toArray, List.getElem?_cons_succ, List.getElem?_cons_zero]; rfl)
  · first | exact fun _ _ _ h => h | exact fun _ _ _ h => by cases h.1
  · rfl
  try first | simp only [pS, List.set] | simp only [pN]
  refine wpAnyH_take (i := 21) (oi := ?_) (v := undef) ?_ (by kernel_rfl) (by kernel_rfl) (by kernel_rfl) ?_ (Or.inr ⟨?_, rfl⟩) (by assumption) ?_
  rotate_left 1
  · (simp only [List.getElem?_toArray, List.getElem?_cons_succ, List.getElem?_cons_zero]; rfl)
  · first | exact fun _ _ _ h => h | exact fun _ _ _ h => by cases h.1
  · rfl
  try first | simp only [pS, List.set] | simp only [pN]
  refine wpAnyH_take (i := 22) (oi := ?_) (v := undef) ?_ (by kernel_rfl) (by kernel_rfl) (by kernel_rfl) ?_ (Or.inr ⟨?_, rfl⟩) (by assumption) ?_
  rotate_left 1
  · (simp only [List.getElem?_toArray, List.getElem?_cons_succ, List.getElem?_cons_zero]; rfl)
  · first | exact fun _ _ _ h => h | exact fun _ _ _ h => by cases h.1
  · rfl
  try first | simp only [pS, List.set] | simp only [pN]
  refine wpAnyH_take (i := 23) (oi := ?_) (v := undef) ?_ (by kernel_rfl) (by kernel_rfl) (by kernel_rfl) ?_ (Or.inr ⟨?_, rfl⟩) (by assumption) ?_
  rotate_left 1
  · (simp only [List.getElem?_toArray, List.getElem?_cons_succ, List.getElem?_cons_zero]; rfl)
  · first | exact fun _ _ _ h => h | exact fun _ _ _ h => by cases h.1
  · rfl
  try first | simp only [pS, List.set] | simp only [pN]
  refine wpAnyH_take (i := 24) (oi := ?_) (v := undef) ?_ (by kernel_rfl) (by kernel_rfl) (by kernel_rfl) ?_ (Or.inr ⟨?_, rfl⟩) (by assumption) ?_
  rotate_left 1
  · (simp only [List.getElem?_toArray, List.getElem?_cons_succ, List.getElem?_cons_zero]; rfl)
  · first | exact fun _ _ _ h => h | exact fun _ _ _ h => by cases h.1
  · rfl
  try first | simp only [pS, List.set] | simp only [pN]
  refine tkH 25 ?_
  refine wpAnyH_done (by kernel_rfl) ?_ _
  have hb3 := hHeld
  have HB3 := Lib.hid (HB2.out.trans (hb3.mono HB2.out.size))
  have HN3 := Lib.hid (HN2.out.kept hb3)
  have HBX := Lib.hid hb3
  clear hb3 hHeld
  go_wp2_with fail
  refine (awake_g _ (tab_low HX.out.tab HB3.out) (by have := HB3.out.size; have := HX.out.g; omega)).mono ?_
  rintro e wz ⟨rfl, hbz⟩
  have HBZ := Lib.hid (HB3.out.trans (hbz.mono HB3.out.size))
  clear hbz
  go_wp2_with fail
  go_ret
  exact ⟨rfl, by first | exact HBZ.out | (rw [← HNN.out]; exact HBZ.out)⟩
set_option maxRecDepth 100000 in
set_option maxHeartbeats 8000000 in
theorem ends_1 (c : Cs) (r l : List Int) (ps : List Pk) (W : World) (h : CsOk c r l ps W) (hob : c.o.Ok) (hrl : r.length ≤ 1000000) (hlight : decide (lightB c) = true) (hcode : begE c.o c.a c.op c.rd r.length = 0) (hA : (c.ln : Int) < c.a) : Calls Tryz.prog 4 #[.agg (csA c)] W fun e w' => e = .returned (.bool true) ∧ Below W.heap.size W w' := by
  have hb0 := (Below.refl W.heap.size W).alloc (Nat.le_refl _) (.cells (csA c) 39)
  have hn0 := RowB.new W (csA c) 39
  have hl4 : c.ln ≤ 400 := (of_decide_eq_true hlight).2.2.2.1
  have hcan : (kc0 c.o c.a c.op c.rd r).can l = false := by
    obtain ⟨_, _, ha0, _, _⟩ := kc0_sta hcode
    have hz := size_bd c.o
    have hln := h.ln
    unfold Kc.can
    rw [Bool.and_eq_false_iff]
    right
    rw [decide_eq_false_iff_not]
    show ¬ (c.a.toNat ≤ l.length ∧ (sizeZ c.o).toNat ≤ l.length - c.a.toNat)
    omega
  have ha0 : 0 ≤ c.a := (kc0_sta hcode).2.2.1
  have HCAN := Lib.hid hcan
  clear hcan
  have hli := light_g c
  rw [hlight] at hli
  have HLI := Lib.hid hli
  have HX := Lib.hid h
  obtain ⟨n, hn⟩ : ∃ n, W.heap.size = n := ⟨_, rfl⟩
  rw [hn] at hn0
  have HB0 := Lib.hid hb0
  have HN0 := Lib.hid hn0
  have HNN := Lib.hid hn
  clear hli hlight h hb0 hn0
  unfold csA at HLI HB0 HN0
  unfold csA
  go_enter Tryz.func4, Tryz.ntmps4
  go_wp2_with fail
  refine (HLI.out _).mono ?_
  rintro e w1 ⟨rfl, hb1⟩
  have hn1 := HN0.out.kept hb1
  have HB1 := Lib.hid (HB0.out.trans (hb1.mono HB0.out.size))
  have HN1 := Lib.hid (show RowB w1 n (csA c) 39 from hn1)
  clear hb1 hn1
  have c0 : w1.cell? ⟨n, 0, none⟩ = some (.int .i64 c.o.k) := (HN1.out.cell 0).trans rfl
  have c1 : w1.cell? ⟨n, 1, none⟩ = some (.int .i64 c.o.wd) := (HN1.out.cell 1).trans rfl
  have c2 : w1.cell? ⟨n, 2, none⟩ = some (.int .i64 c.o.s) := (HN1.out.cell 2).trans rfl
  have c3 : w1.cell? ⟨n, 3, none⟩ = some (.int .i64 c.o.c) := (HN1.out.cell 3).trans rfl
  have c4 : w1.cell? ⟨n, 4, none⟩ = some (.int .u32 c.o.st) := (HN1.out.cell 4).trans rfl
  have c5 : w1.cell? ⟨n, 5, none⟩ = some (.slice c.o.I c.o.ni c.o.ci) := (HN1.out.cell 5).trans rfl
  have c6 : w1.cell? ⟨n, 6, none⟩ = some (.int .i64 c.o.wr) := (HN1.out.cell 6).trans rfl
  have c7 : w1.cell? ⟨n, 7, none⟩ = some (.slice c.o.R c.o.nr c.o.cr) := (HN1.out.cell 7).trans rfl
  have c8 : w1.cell? ⟨n, 8, none⟩ = some (.int .i64 c.a) := (HN1.out.cell 8).trans rfl
  have c9 : w1.cell? ⟨n, 9, none⟩ = some (.int .i64 c.op) := (HN1.out.cell 9).trans rfl
  have c10 : w1.cell? ⟨n, 10, none⟩ = some (.int .i64 c.rd) := (HN1.out.cell 10).trans rfl
  have c11 : w1.cell? ⟨n, 11, none⟩ = some (.slice c.RA c.rn c.rc) := (HN1.out.cell 11).trans rfl
  have hbg := obegin_o c.o c.a c.op c.rd c.RA c.rc r hob w1 (by have := HX.out.rn; have := hrl; omega) (HX.out.r.below HB1.out HB1.out.size) HX.out.a1
  rw [← HX.out.rn] at hbg
  obtain ⟨code, hc0⟩ : ∃ x, begE c.o c.a c.op c.rd r.length = x := ⟨_, rfl⟩
  have HC0 := Lib.hid hc0
  have hc1 : begE c.o c.a c.op c.rd c.rn = code := by rw [HX.out.rn]; exact hc0
  rw [hc1] at hbg
  have HBG := Lib.hid hbg
  rw [hc0] at hcode
  have d0 : (code != 0) = false := by simpa using hcode
  have d00 : (code == 0) = true := by simpa using hcode
  have HC := Lib.hid hcode
  clear hbg hc0 hc1 hcode
  unfold obA at HBG
  go_wp2_with fail
  refine HBG.out.mono ?_
  rintro e w2 ⟨x, rfl, hbe⟩
  obtain ⟨hb2, hno, hyes⟩ := hbe
  have HN2 := Lib.hid (HN1.out.kept hb2)
  have HB2 := Lib.hid (HB1.out.trans (hb2.mono HB1.out.size))
  obtain ⟨xb, sb, ty, rv, rfl, hxb, hsb, hrv, hoj, hinv⟩ := hyes (by rw [HC0.out]; exact HC.out)
  have HOJ := Lib.hid hoj
  have HIV := Lib.hid hinv
  have HLT := Lib.hid (And.intro hxb (And.intro hsb hrv))
  clear hb2 hno hyes hoj hinv hxb hsb hrv
  clear c0 c1 c2 c3 c4 c5 c6 c7 c8 c9 c10 c11
  go_wp2_with fail
  have d8 : decide ((c.ln : Int) < c.a) = true := decide_eq_true hA
  have HN2d := Lib.hid (HN2.out.kept (Below.refl _ w2).drew)
  have HB2d := Lib.hid HB2.out.drew
  have hSd : (fun w' : World => Below w2.heap.size w2 w' ∧ w'.cell? ⟨n, 8, none⟩ = some (.int .i64 c.a) ∧ w'.cell? ⟨n, 12, none⟩ = some (.slice c.LA c.ln c.lc)) w2.drew := ⟨(Below.refl _ w2).drew, (HN2d.out.cell 8).trans rfl, (HN2d.out.cell 12).trans rfl⟩
  refine wp_region_held_drew (S := (fun w' : World => Below w2.heap.size w2 w' ∧ w'.cell? ⟨n, 8, none⟩ = some (.int .i64 c.a) ∧ w'.cell? ⟨n, 12, none⟩ = some (.slice c.LA c.ln c.lc))) (by kernel_rfl) hSd (fun hHeld => ?_)
  clear hSd
  generalize w2.drew = wd at hHeld HN2d HB2d ⊢
  have hHeld : (fun w' : World => Below w2.heap.size w2 w' ∧ w'.cell? ⟨n, 8, none⟩ = some (.int .i64 c.a) ∧ w'.cell? ⟨n, 12, none⟩ = some (.slice c.LA c.ln c.lc)) wd := hHeld
  refine tkH 0 ?_
  refine tkH 1 ?_
  refine tkH 2 ?_
  refine tkH 3 ?_
  refine tkH 4 ?_
  refine tkH 5 ?_
  refine tkH 6 ?_
  refine tkH 7 ?_
  refine tkH 8 ?_
  refine tkH 9 ?_
  refine tkH 10 ?_
  refine tkH 11 ?_
  refine tkH 12 ?_
  refine tkH 13 ?_
  refine tkH 14 ?_
  refine wpAnyH_take (i := 15) (oi := ?_) (v := undef) ?_ (by kernel_rfl) (by kernel_rfl) (by kernel_rfl) ?_ (Or.inr ⟨?_, rfl⟩) (by assumption) ?_
  rotate_left 1
  · (simp only [List.getElem?_toArray, List.getElem?_cons_succ, List.getElem?_cons_zero]; rfl)
  · first | exact fun _ _ _ h => h | exact fun _ _ _ h => by cases h.1
  · rfl
  try first | simp only [pS, List.set] | simp only [pN]
  refine wpAnyH_take (i := 16) (oi := ?_) (v := undef) ?_ (by kernel_rfl) (by kernel_rfl) (by kernel_rfl) ?_ (Or.inr ⟨?_, rfl⟩) (by assumption) ?_
  rotate_left 1
  · (simp only [List.getElem?_toArray, List.getElem?_cons_succ, List.getElem?_cons_zero]; rfl)
  · first | exact fun _ _ _ h => h | exact fun _ _ _ h => by cases h.1
  · rfl
  try first | simp only [pS, List.set] | simp only [pN]
  refine wpAnyH_take (i := 17) (oi := ?_) (v := undef) ?_ (by kernel_rfl) (by kernel_rfl) (by kernel_rfl) ?_ (Or.inr ⟨?_, rfl⟩) (by assumption) ?_
  rotate_left 1
  · (simp only [List.getElem?_toArray, List.getElem?_cons_succ, List.getElem?_cons_zero]; rfl)
  · first | exact fun _ _ _ h => h | exact fun _ _ _ h => by cases h.1
  · rfl
  try first | simp only [pS, List.set] | simp only [pN]
  refine wpAnyH_take (i := 18) (oi := ?_) (v := undef) ?_ (by kernel_rfl) (by kernel_rfl) (by kernel_rfl) ?_ (Or.inr ⟨?_, rfl⟩) (by assumption) ?_
  rotate_left 1
  · (simp only [List.getElem?_toArray, List.getElem?_cons_succ, List.getElem?_cons_zero]; rfl)
  · first | exact fun _ _ _ h => h | exact fun _ _ _ h => by cases h.1
  · rfl
  try first | simp only [pS, List.set] | simp only [pN]
  refine wpAnyH_take (i := 19) (oi := ?_) (v := undef) ?_ (by kernel_rfl) (by kernel_rfl) (by kernel_rfl) ?_ (Or.inr ⟨?_, rfl⟩) (by assumption) ?_
  rotate_left 1
  · (simp only [List.getElem?_toArray, List.getElem?_cons_succ, List.getElem?_cons_zero]; rfl)
  · first | exact fun _ _ _ h => h | exact fun _ _ _ h => by cases h.1
  · rfl
  try first | simp only [pS, List.set] | simp only [pN]
  refine wpAnyH_take (i := 20) (oi := ?_) (v := undef) ?_ (by kernel_rfl) (by kernel_rfl) (by kernel_rfl) ?_ (Or.inr ⟨?_, rfl⟩) (by assumption) ?_
  rotate_left 1
  · (simp only [List.getElem?_toArray, List.getElem?_cons_succ, List.getElem?_cons_zero]; rfl)
  · first | exact fun _ _ _ h => h | exact fun _ _ _ h => by cases h.1
  · rfl
  try first | simp only [pS, List.set] | simp only [pN]
  refine wpAnyH_take (i := 21) (oi := ?_) (v := undef) ?_ (by kernel_rfl) (by kernel_rfl) (by kernel_rfl) ?_ (Or.inr ⟨?_, rfl⟩) (by assumption) ?_
  rotate_left 1
  · (simp only [List.getElem?_toArray, List.getElem?_cons_succ, List.getElem?_cons_zero]; rfl)
  · first | exact fun _ _ _ h => h | exact fun _ _ _ h => by cases h.1
  · rfl
  try first | simp only [pS, List.set] | simp only [pN]
  refine wpAnyH_take (i := 22) (oi := ?_) (v := undef) ?_ (by kernel_rfl) (by kernel_rfl) (by kernel_rfl) ?_ (Or.inr ⟨?_, rfl⟩) (by assumption) ?_
  rotate_left 1
  · (simp only [List.getElem?_toArray, List.getElem?_cons_succ, List.getElem?_cons_zero]; rfl)
  · first | exact fun _ _ _ h => h | exact fun _ _ _ h => by cases h.1
  · rfl
  try first | simp only [pS, List.set] | simp only [pN]
  refine wpAnyH_take (i := 23) (oi := ?_) (v := undef) ?_ (by kernel_rfl) (by kernel_rfl) (by kernel_rfl) ?_ (Or.inr ⟨?_, rfl⟩) (by assumption) ?_
  rotate_left 1
  · (simp only [List.getElem?_toArray, List.getElem?_cons_succ, List.getElem?_cons_zero]; rfl)
  · first | exact fun _ _ _ h => h | exact fun _ _ _ h => by cases h.1
  · rfl
  try first | simp only [pS, List.set] | simp only [pN]
  refine wpAnyH_take (i := 24) (oi := ?_) (v := undef) ?_ (by kernel_rfl) (by kernel_rfl) (by kernel_rfl) ?_ (Or.inr ⟨?_, rfl⟩) (by assumption) ?_
  rotate_left 1
  · (simp only [List.getElem?_toArray, List.getElem?_cons_succ, List.getElem?_cons_zero]; rfl)
  · first | exact fun _ _ _ h => h | exact fun _ _ _ h => by cases h.1
  · rfl
  try first | simp only [pS, List.set] | simp only [pN]
  refine tkH 25 ?_
  refine wpAnyH_done (by kernel_rfl) ?_ _
  have hb3 := hHeld.1
  have HB3 := Lib.hid (HB2.out.trans (hb3.mono HB2.out.size))
  have HN3 := Lib.hid (HN2.out.kept hb3)
  have HBX := Lib.hid hb3
  clear hb3 hHeld
  have c12 : wd.cell? ⟨n, 12, none⟩ = some (.slice c.LA c.ln c.lc) := (HN3.out.cell 12).trans rfl
  have HME := Lib.hid (memory_g c.LA c.lc l (by have := HX.out.ln; omega) wd (HX.out.l.below HB3.out HB3.out.size))
  have hmln : c.ln = l.length := HX.out.ln
  have HME2 := HME
  rw [← hmln] at HME2
  have HMM := HME2
  clear hmln HME HME2
  go_wp2_with fail
  refine HMM.out.mono ?_
  rintro e w5 ⟨mb, lb, rfl, hlb, hmb, hm, hb5⟩
  have hoj3 := (HOJ.out.below HBX.out).below hb5
  have HB5 := Lib.hid (HB3.out.trans (hb5.mono HB3.out.size))
  have HNO := Lib.hid (ostep_no xb sb mb lb ty c.o (kc0 c.o c.a c.op c.rd r) rv (.pointer none) l w5 hoj3 hm HIV.out HCAN.out)
  clear hlb hmb hm hb5 hoj3 c12
  go_wp2_with fail
  refine HNO.out.mono ?_
  rintro e w6 ⟨rfl, hb6⟩
  have HB6 := Lib.hid (HB5.out.trans (hb6.mono HB5.out.size))
  clear hb6
  go_wp2_with fail
  refine (awake_g _ (tab_low HX.out.tab HB6.out) (by have := HB6.out.size; have := HX.out.g; omega)).mono ?_
  rintro e wz ⟨rfl, hbz⟩
  have HBZ := Lib.hid (HB6.out.trans (hbz.mono HB6.out.size))
  clear hbz
  go_wp2_with fail
  go_ret
  exact ⟨rfl, by first | exact HBZ.out | (rw [← HNN.out]; exact HBZ.out)⟩
set_option maxRecDepth 100000 in
set_option maxHeartbeats 8000000 in
theorem ends_2 (c : Cs) (r l : List Int) (ps : List Pk) (W : World) (h : CsOk c r l ps W) (hob : c.o.Ok) (hrl : r.length ≤ 1000000) (hlight : decide (lightB c) = true) (hcode : begE c.o c.a c.op c.rd r.length = 0) (hA : c.a ≤ (c.ln : Int)) (hS : (c.ln : Int) - c.a < sizeZ c.o) : Calls Tryz.prog 4 #[.agg (csA c)] W fun e w' => e = .returned (.bool true) ∧ Below W.heap.size W w' := by
  have hb0 := (Below.refl W.heap.size W).alloc (Nat.le_refl _) (.cells (csA c) 39)
  have hn0 := RowB.new W (csA c) 39
  have hl4 : c.ln ≤ 400 := (of_decide_eq_true hlight).2.2.2.1
  have hcan : (kc0 c.o c.a c.op c.rd r).can l = false := by
    obtain ⟨_, _, ha0, _, _⟩ := kc0_sta hcode
    have hz := size_bd c.o
    have hln := h.ln
    unfold Kc.can
    rw [Bool.and_eq_false_iff]
    right
    rw [decide_eq_false_iff_not]
    show ¬ (c.a.toNat ≤ l.length ∧ (sizeZ c.o).toNat ≤ l.length - c.a.toNat)
    omega
  have ha0 : 0 ≤ c.a := (kc0_sta hcode).2.2.1
  have HCAN := Lib.hid hcan
  clear hcan
  have hli := light_g c
  rw [hlight] at hli
  have HLI := Lib.hid hli
  have HX := Lib.hid h
  obtain ⟨n, hn⟩ : ∃ n, W.heap.size = n := ⟨_, rfl⟩
  rw [hn] at hn0
  have HB0 := Lib.hid hb0
  have HN0 := Lib.hid hn0
  have HNN := Lib.hid hn
  clear hli hlight h hb0 hn0
  unfold csA at HLI HB0 HN0
  unfold csA
  go_enter Tryz.func4, Tryz.ntmps4
  go_wp2_with fail
  refine (HLI.out _).mono ?_
  rintro e w1 ⟨rfl, hb1⟩
  have hn1 := HN0.out.kept hb1
  have HB1 := Lib.hid (HB0.out.trans (hb1.mono HB0.out.size))
  have HN1 := Lib.hid (show RowB w1 n (csA c) 39 from hn1)
  clear hb1 hn1
  have c0 : w1.cell? ⟨n, 0, none⟩ = some (.int .i64 c.o.k) := (HN1.out.cell 0).trans rfl
  have c1 : w1.cell? ⟨n, 1, none⟩ = some (.int .i64 c.o.wd) := (HN1.out.cell 1).trans rfl
  have c2 : w1.cell? ⟨n, 2, none⟩ = some (.int .i64 c.o.s) := (HN1.out.cell 2).trans rfl
  have c3 : w1.cell? ⟨n, 3, none⟩ = some (.int .i64 c.o.c) := (HN1.out.cell 3).trans rfl
  have c4 : w1.cell? ⟨n, 4, none⟩ = some (.int .u32 c.o.st) := (HN1.out.cell 4).trans rfl
  have c5 : w1.cell? ⟨n, 5, none⟩ = some (.slice c.o.I c.o.ni c.o.ci) := (HN1.out.cell 5).trans rfl
  have c6 : w1.cell? ⟨n, 6, none⟩ = some (.int .i64 c.o.wr) := (HN1.out.cell 6).trans rfl
  have c7 : w1.cell? ⟨n, 7, none⟩ = some (.slice c.o.R c.o.nr c.o.cr) := (HN1.out.cell 7).trans rfl
  have c8 : w1.cell? ⟨n, 8, none⟩ = some (.int .i64 c.a) := (HN1.out.cell 8).trans rfl
  have c9 : w1.cell? ⟨n, 9, none⟩ = some (.int .i64 c.op) := (HN1.out.cell 9).trans rfl
  have c10 : w1.cell? ⟨n, 10, none⟩ = some (.int .i64 c.rd) := (HN1.out.cell 10).trans rfl
  have c11 : w1.cell? ⟨n, 11, none⟩ = some (.slice c.RA c.rn c.rc) := (HN1.out.cell 11).trans rfl
  have hbg := obegin_o c.o c.a c.op c.rd c.RA c.rc r hob w1 (by have := HX.out.rn; have := hrl; omega) (HX.out.r.below HB1.out HB1.out.size) HX.out.a1
  rw [← HX.out.rn] at hbg
  obtain ⟨code, hc0⟩ : ∃ x, begE c.o c.a c.op c.rd r.length = x := ⟨_, rfl⟩
  have HC0 := Lib.hid hc0
  have hc1 : begE c.o c.a c.op c.rd c.rn = code := by rw [HX.out.rn]; exact hc0
  rw [hc1] at hbg
  have HBG := Lib.hid hbg
  rw [hc0] at hcode
  have d0 : (code != 0) = false := by simpa using hcode
  have d00 : (code == 0) = true := by simpa using hcode
  have HC := Lib.hid hcode
  clear hbg hc0 hc1 hcode
  unfold obA at HBG
  go_wp2_with fail
  refine HBG.out.mono ?_
  rintro e w2 ⟨x, rfl, hbe⟩
  obtain ⟨hb2, hno, hyes⟩ := hbe
  have HN2 := Lib.hid (HN1.out.kept hb2)
  have HB2 := Lib.hid (HB1.out.trans (hb2.mono HB1.out.size))
  obtain ⟨xb, sb, ty, rv, rfl, hxb, hsb, hrv, hoj, hinv⟩ := hyes (by rw [HC0.out]; exact HC.out)
  have HOJ := Lib.hid hoj
  have HIV := Lib.hid hinv
  have HLT := Lib.hid (And.intro hxb (And.intro hsb hrv))
  clear hb2 hno hyes hoj hinv hxb hsb hrv
  clear c0 c1 c2 c3 c4 c5 c6 c7 c8 c9 c10 c11
  go_wp2_with fail
  have d8 : decide ((c.ln : Int) < c.a) = false := decide_eq_false (by omega)
  have e8 : IntKind.i64.wrap ((c.ln : Int) - c.a) = (c.ln : Int) - c.a := sh_wrap (by omega) (by omega)
  have d9 : decide ((c.ln : Int) - c.a < sizeZ c.o) = true := decide_eq_true hS
  have hsz := fun W => size_o c.o hob W
  have HSZ := Lib.hid hsz
  clear hsz
  unfold obA at HSZ
  have HN2d := Lib.hid (HN2.out.kept (Below.refl _ w2).drew)
  have HB2d := Lib.hid HB2.out.drew
  have hSd : (fun w' : World => Below w2.heap.size w2 w' ∧ w'.cell? ⟨n, 0, none⟩ = some (.int .i64 c.o.k) ∧ w'.cell? ⟨n, 1, none⟩ = some (.int .i64 c.o.wd) ∧ w'.cell? ⟨n, 2, none⟩ = some (.int .i64 c.o.s) ∧ w'.cell? ⟨n, 3, none⟩ = some (.int .i64 c.o.c) ∧ w'.cell? ⟨n, 4, none⟩ = some (.int .u32 c.o.st) ∧ w'.cell? ⟨n, 5, none⟩ = some (.slice c.o.I c.o.ni c.o.ci) ∧ w'.cell? ⟨n, 6, none⟩ = some (.int .i64 c.o.wr) ∧ w'.cell? ⟨n, 7, none⟩ = some (.slice c.o.R c.o.nr c.o.cr) ∧ w'.cell? ⟨n, 8, none⟩ = some (.int .i64 c.a) ∧ w'.cell? ⟨n, 12, none⟩ = some (.slice c.LA c.ln c.lc)) w2.drew := ⟨(Below.refl _ w2).drew, (HN2d.out.cell 0).trans rfl, (HN2d.out.cell 1).trans rfl, (HN2d.out.cell 2).trans rfl, (HN2d.out.cell 3).trans rfl, (HN2d.out.cell 4).trans rfl, (HN2d.out.cell 5).trans rfl, (HN2d.out.cell 6).trans rfl, (HN2d.out.cell 7).trans rfl, (HN2d.out.cell 8).trans rfl, (HN2d.out.cell 12).trans rfl⟩
  refine wp_region_held_drew (S := (fun w' : World => Below w2.heap.size w2 w' ∧ w'.cell? ⟨n, 0, none⟩ = some (.int .i64 c.o.k) ∧ w'.cell? ⟨n, 1, none⟩ = some (.int .i64 c.o.wd) ∧ w'.cell? ⟨n, 2, none⟩ = some (.int .i64 c.o.s) ∧ w'.cell? ⟨n, 3, none⟩ = some (.int .i64 c.o.c) ∧ w'.cell? ⟨n, 4, none⟩ = some (.int .u32 c.o.st) ∧ w'.cell? ⟨n, 5, none⟩ = some (.slice c.o.I c.o.ni c.o.ci) ∧ w'.cell? ⟨n, 6, none⟩ = some (.int .i64 c.o.wr) ∧ w'.cell? ⟨n, 7, none⟩ = some (.slice c.o.R c.o.nr c.o.cr) ∧ w'.cell? ⟨n, 8, none⟩ = some (.int .i64 c.a) ∧ w'.cell? ⟨n, 12, none⟩ = some (.slice c.LA c.ln c.lc))) (by kernel_rfl) hSd (fun hHeld => ?_)
  clear hSd
  generalize w2.drew = wd at hHeld HN2d HB2d ⊢
  have hHeld : (fun w' : World => Below w2.heap.size w2 w' ∧ w'.cell? ⟨n, 0, none⟩ = some (.int .i64 c.o.k) ∧ w'.cell? ⟨n, 1, none⟩ = some (.int .i64 c.o.wd) ∧ w'.cell? ⟨n, 2, none⟩ = some (.int .i64 c.o.s) ∧ w'.cell? ⟨n, 3, none⟩ = some (.int .i64 c.o.c) ∧ w'.cell? ⟨n, 4, none⟩ = some (.int .u32 c.o.st) ∧ w'.cell? ⟨n, 5, none⟩ = some (.slice c.o.I c.o.ni c.o.ci) ∧ w'.cell? ⟨n, 6, none⟩ = some (.int .i64 c.o.wr) ∧ w'.cell? ⟨n, 7, none⟩ = some (.slice c.o.R c.o.nr c.o.cr) ∧ w'.cell? ⟨n, 8, none⟩ = some (.int .i64 c.a) ∧ w'.cell? ⟨n, 12, none⟩ = some (.slice c.LA c.ln c.lc)) wd := hHeld
  refine tkH 0 ?_
  refine tkH 1 ?_
  refine tkH 2 ?_
  refine tkH 3 ?_
  refine tkH 4 ?_
  refine tkH 5 ?_
  refine tkH 6 ?_
  refine tkH 7 ?_
  refine tkH 8 ?_
  refine tkH 9 ?_
  refine tkH 10 ?_
  refine tkH 11 ?_
  refine tkH 12 ?_
  refine tkH 13 ?_
  refine tkH 14 ?_
  refine tkH 15 ?_
  refine tkH 16 ?_
  refine tkH 18 ?_
  refine tkH 19 ?_
  refine tkH 20 ?_
  refine tkH 21 ?_
  refine tkH 22 ?_
  refine tkH 23 ?_
  refine clH 17 (fun K hK => ?_)
  go_simp
  go_at_call 16
  refine (HSZ.out _).mono ?_
  rintro ex wx ⟨rfl, hbx⟩
  have hSx : (fun w' : World => Below w2.heap.size w2 w' ∧ w'.cell? ⟨n, 0, none⟩ = some (.int .i64 c.o.k) ∧ w'.cell? ⟨n, 1, none⟩ = some (.int .i64 c.o.wd) ∧ w'.cell? ⟨n, 2, none⟩ = some (.int .i64 c.o.s) ∧ w'.cell? ⟨n, 3, none⟩ = some (.int .i64 c.o.c) ∧ w'.cell? ⟨n, 4, none⟩ = some (.int .u32 c.o.st) ∧ w'.cell? ⟨n, 5, none⟩ = some (.slice c.o.I c.o.ni c.o.ci) ∧ w'.cell? ⟨n, 6, none⟩ = some (.int .i64 c.o.wr) ∧ w'.cell? ⟨n, 7, none⟩ = some (.slice c.o.R c.o.nr c.o.cr) ∧ w'.cell? ⟨n, 8, none⟩ = some (.int .i64 c.a) ∧ w'.cell? ⟨n, 12, none⟩ = some (.slice c.LA c.ln c.lc)) wx := ⟨hHeld.1.trans (hbx.mono hHeld.1.size), (hbx.cell (p := ⟨n, 0, none⟩) (cell_lt hHeld.2.1)).trans hHeld.2.1, (hbx.cell (p := ⟨n, 1, none⟩) (cell_lt hHeld.2.2.1)).trans hHeld.2.2.1, (hbx.cell (p := ⟨n, 2, none⟩) (cell_lt hHeld.2.2.2.1)).trans hHeld.2.2.2.1, (hbx.cell (p := ⟨n, 3, none⟩) (cell_lt hHeld.2.2.2.2.1)).trans hHeld.2.2.2.2.1, (hbx.cell (p := ⟨n, 4, none⟩) (cell_lt hHeld.2.2.2.2.2.1)).trans hHeld.2.2.2.2.2.1, (hbx.cell (p := ⟨n, 5, none⟩) (cell_lt hHeld.2.2.2.2.2.2.1)).trans hHeld.2.2.2.2.2.2.1, (hbx.cell (p := ⟨n, 6, none⟩) (cell_lt hHeld.2.2.2.2.2.2.2.1)).trans hHeld.2.2.2.2.2.2.2.1, (hbx.cell (p := ⟨n, 7, none⟩) (cell_lt hHeld.2.2.2.2.2.2.2.2.1)).trans hHeld.2.2.2.2.2.2.2.2.1, (hbx.cell (p := ⟨n, 8, none⟩) (cell_lt hHeld.2.2.2.2.2.2.2.2.2.1)).trans hHeld.2.2.2.2.2.2.2.2.2.1, (hbx.cell (p := ⟨n, 12, none⟩) (cell_lt hHeld.2.2.2.2.2.2.2.2.2.2)).trans hHeld.2.2.2.2.2.2.2.2.2.2⟩
  refine hK.out _ _ hSx (fun hHeld => ?_)
  clear hK K
  try first | simp only [pS, List.set] | simp only [pN]
  refine tkH 24 ?_
  refine tkH 25 ?_
  refine wpAnyH_done (by kernel_rfl) ?_ _
  have hb3 := hHeld.1
  have HB3 := Lib.hid (HB2.out.trans (hb3.mono HB2.out.size))
  have HN3 := Lib.hid (HN2.out.kept hb3)
  have HBX := Lib.hid hb3
  clear hb3 hHeld hSx hbx
  have c12 : wx.cell? ⟨n, 12, none⟩ = some (.slice c.LA c.ln c.lc) := (HN3.out.cell 12).trans rfl
  have HME := Lib.hid (memory_g c.LA c.lc l (by have := HX.out.ln; omega) wx (HX.out.l.below HB3.out HB3.out.size))
  have hmln : c.ln = l.length := HX.out.ln
  have HME2 := HME
  rw [← hmln] at HME2
  have HMM := HME2
  clear hmln HME HME2
  go_wp2_with fail
  refine HMM.out.mono ?_
  rintro e w5 ⟨mb, lb, rfl, hlb, hmb, hm, hb5⟩
  have hoj3 := (HOJ.out.below HBX.out).below hb5
  have HB5 := Lib.hid (HB3.out.trans (hb5.mono HB3.out.size))
  have HNO := Lib.hid (ostep_no xb sb mb lb ty c.o (kc0 c.o c.a c.op c.rd r) rv (.pointer none) l w5 hoj3 hm HIV.out HCAN.out)
  clear hlb hmb hm hb5 hoj3 c12
  go_wp2_with fail
  refine HNO.out.mono ?_
  rintro e w6 ⟨rfl, hb6⟩
  have HB6 := Lib.hid (HB5.out.trans (hb6.mono HB5.out.size))
  clear hb6
  go_wp2_with fail
  refine (awake_g _ (tab_low HX.out.tab HB6.out) (by have := HB6.out.size; have := HX.out.g; omega)).mono ?_
  rintro e wz ⟨rfl, hbz⟩
  have HBZ := Lib.hid (HB6.out.trans (hbz.mono HB6.out.size))
  clear hbz
  go_wp2_with fail
  go_ret
  exact ⟨rfl, by first | exact HBZ.out | (rw [← HNN.out]; exact HBZ.out)⟩
set_option maxRecDepth 100000 in
set_option maxHeartbeats 8000000 in
theorem ends_3 (c : Cs) (r l : List Int) (ps : List Pk) (W : World) (h : CsOk c r l ps W) (hob : c.o.Ok) (hrl : r.length ≤ 1000000) (hlight : decide (lightB c) = true) (hcode : begE c.o c.a c.op c.rd r.length = 0) (hA : c.a ≤ (c.ln : Int)) (hS : sizeZ c.o ≤ (c.ln : Int) - c.a) : Calls Tryz.prog 4 #[.agg (csA c)] W fun e w' => e = .returned (.bool true) ∧ Below W.heap.size W w' := by
  have hb0 := (Below.refl W.heap.size W).alloc (Nat.le_refl _) (.cells (csA c) 39)
  have hn0 := RowB.new W (csA c) 39
  have hl4 : c.ln ≤ 400 := (of_decide_eq_true hlight).2.2.2.1
  have hp1 : c.pn ≤ 100 := (of_decide_eq_true hlight).2.2.2.2
  have ha0 : 0 ≤ c.a := (kc0_sta hcode).2.2.1
  have hsta := (kc0_sta hcode).1
  have hmost := most_is hcode
  have hleft : (kc0 c.o c.a c.op c.rd r).left ≤ Kc.most c.o.k c.o.wd.toNat c.o.nr c.o.c.toNat c.op := Kc.left_start hsta.cap1
  have hpos : 0 < (kc0 c.o c.a c.op c.rd r).left := by
    rcases Nat.eq_zero_or_pos (kc0 c.o c.a c.op c.rd r).left with q | q
    · have := Kc.left_zero.1 q
      cases this
    · exact q
  obtain ⟨M, hM⟩ : ∃ x, Kc.most c.o.k c.o.wd.toNat c.o.nr c.o.c.toNat c.op = x := ⟨_, rfl⟩
  rw [hM] at hmost hleft
  have hM9 : M ≤ 1000 := by
    have := hsta.wd8; have := hsta.nr4; have := hsta.cap16
    have e1 : (kc0 c.o c.a c.op c.rd r).wd = c.o.wd.toNat := rfl
    have e2 : (kc0 c.o c.a c.op c.rd r).nr = c.o.nr := rfl
    have e3 : (kc0 c.o c.a c.op c.rd r).cap = c.o.c.toNat := rfl
    have hm : c.o.c.toNat * (c.o.wd.toNat + 2) ≤ 16 * 10 := Nat.mul_le_mul (by omega) (by omega)
    rw [← hM]
    unfold Kc.most
    repeat' split
    all_goals omega
  have hfit : (kc0 c.o c.a c.op c.rd r).base + (kc0 c.o c.a c.op c.rd r).size ≤ l.length := by
    have hz := size_bd c.o
    have hln := h.ln
    show c.a.toNat + (sizeZ c.o).toNat ≤ l.length
    omega
  have HLF := Lib.hid (And.intro hleft (And.intro hpos hfit))
  have HMO := Lib.hid hmost
  clear hM hleft hpos hfit hmost hsta
  have hli := light_g c
  rw [hlight] at hli
  have HLI := Lib.hid hli
  have HX := Lib.hid h
  obtain ⟨n, hn⟩ : ∃ n, W.heap.size = n := ⟨_, rfl⟩
  rw [hn] at hn0
  have HB0 := Lib.hid hb0
  have HN0 := Lib.hid hn0
  have HNN := Lib.hid hn
  clear hli hlight h hb0 hn0
  unfold csA at HLI HB0 HN0
  unfold csA
  go_enter Tryz.func4, Tryz.ntmps4
  go_wp2_with fail
  refine (HLI.out _).mono ?_
  rintro e w1 ⟨rfl, hb1⟩
  have hn1 := HN0.out.kept hb1
  have HB1 := Lib.hid (HB0.out.trans (hb1.mono HB0.out.size))
  have HN1 := Lib.hid (show RowB w1 n (csA c) 39 from hn1)
  clear hb1 hn1
  have c0 : w1.cell? ⟨n, 0, none⟩ = some (.int .i64 c.o.k) := (HN1.out.cell 0).trans rfl
  have c1 : w1.cell? ⟨n, 1, none⟩ = some (.int .i64 c.o.wd) := (HN1.out.cell 1).trans rfl
  have c2 : w1.cell? ⟨n, 2, none⟩ = some (.int .i64 c.o.s) := (HN1.out.cell 2).trans rfl
  have c3 : w1.cell? ⟨n, 3, none⟩ = some (.int .i64 c.o.c) := (HN1.out.cell 3).trans rfl
  have c4 : w1.cell? ⟨n, 4, none⟩ = some (.int .u32 c.o.st) := (HN1.out.cell 4).trans rfl
  have c5 : w1.cell? ⟨n, 5, none⟩ = some (.slice c.o.I c.o.ni c.o.ci) := (HN1.out.cell 5).trans rfl
  have c6 : w1.cell? ⟨n, 6, none⟩ = some (.int .i64 c.o.wr) := (HN1.out.cell 6).trans rfl
  have c7 : w1.cell? ⟨n, 7, none⟩ = some (.slice c.o.R c.o.nr c.o.cr) := (HN1.out.cell 7).trans rfl
  have c8 : w1.cell? ⟨n, 8, none⟩ = some (.int .i64 c.a) := (HN1.out.cell 8).trans rfl
  have c9 : w1.cell? ⟨n, 9, none⟩ = some (.int .i64 c.op) := (HN1.out.cell 9).trans rfl
  have c10 : w1.cell? ⟨n, 10, none⟩ = some (.int .i64 c.rd) := (HN1.out.cell 10).trans rfl
  have c11 : w1.cell? ⟨n, 11, none⟩ = some (.slice c.RA c.rn c.rc) := (HN1.out.cell 11).trans rfl
  have hbg := obegin_o c.o c.a c.op c.rd c.RA c.rc r hob w1 (by have := HX.out.rn; have := hrl; omega) (HX.out.r.below HB1.out HB1.out.size) HX.out.a1
  rw [← HX.out.rn] at hbg
  obtain ⟨code, hc0⟩ : ∃ x, begE c.o c.a c.op c.rd r.length = x := ⟨_, rfl⟩
  have HC0 := Lib.hid hc0
  have hc1 : begE c.o c.a c.op c.rd c.rn = code := by rw [HX.out.rn]; exact hc0
  rw [hc1] at hbg
  have HBG := Lib.hid hbg
  rw [hc0] at hcode
  have d0 : (code != 0) = false := by simpa using hcode
  have d00 : (code == 0) = true := by simpa using hcode
  have HC := Lib.hid hcode
  clear hbg hc0 hc1 hcode
  unfold obA at HBG
  go_wp2_with fail
  refine HBG.out.mono ?_
  rintro e w2 ⟨x, rfl, hbe⟩
  obtain ⟨hb2, hno, hyes⟩ := hbe
  have HN2 := Lib.hid (HN1.out.kept hb2)
  have HB2 := Lib.hid (HB1.out.trans (hb2.mono HB1.out.size))
  obtain ⟨xb, sb, ty, rv, rfl, hxb, hsb, hrv, hoj, hinv⟩ := hyes (by rw [HC0.out]; exact HC.out)
  have HOJ := Lib.hid hoj
  have HIV := Lib.hid hinv
  have HLT := Lib.hid (And.intro hxb (And.intro hsb hrv))
  clear hb2 hno hyes hoj hinv hxb hsb hrv
  clear c0 c1 c2 c3 c4 c5 c6 c7 c8 c9 c10 c11
  go_wp2_with fail
  have d8 : decide ((c.ln : Int) < c.a) = false := decide_eq_false (by omega)
  have e8 : IntKind.i64.wrap ((c.ln : Int) - c.a) = (c.ln : Int) - c.a := sh_wrap (by omega) (by omega)
  have d9 : decide ((c.ln : Int) - c.a < sizeZ c.o) = false := decide_eq_false (by omega)
  have hsz := fun W => size_o c.o hob W
  have HSZ := Lib.hid hsz
  clear hsz
  unfold obA at HSZ
  have HN2d := Lib.hid (HN2.out.kept (Below.refl _ w2).drew)
  have HB2d := Lib.hid HB2.out.drew
  have hSd : (fun w' : World => Below w2.heap.size w2 w' ∧ w'.cell? ⟨n, 0, none⟩ = some (.int .i64 c.o.k) ∧ w'.cell? ⟨n, 1, none⟩ = some (.int .i64 c.o.wd) ∧ w'.cell? ⟨n, 2, none⟩ = some (.int .i64 c.o.s) ∧ w'.cell? ⟨n, 3, none⟩ = some (.int .i64 c.o.c) ∧ w'.cell? ⟨n, 4, none⟩ = some (.int .u32 c.o.st) ∧ w'.cell? ⟨n, 5, none⟩ = some (.slice c.o.I c.o.ni c.o.ci) ∧ w'.cell? ⟨n, 6, none⟩ = some (.int .i64 c.o.wr) ∧ w'.cell? ⟨n, 7, none⟩ = some (.slice c.o.R c.o.nr c.o.cr) ∧ w'.cell? ⟨n, 8, none⟩ = some (.int .i64 c.a) ∧ w'.cell? ⟨n, 12, none⟩ = some (.slice c.LA c.ln c.lc)) w2.drew := ⟨(Below.refl _ w2).drew, (HN2d.out.cell 0).trans rfl, (HN2d.out.cell 1).trans rfl, (HN2d.out.cell 2).trans rfl, (HN2d.out.cell 3).trans rfl, (HN2d.out.cell 4).trans rfl, (HN2d.out.cell 5).trans rfl, (HN2d.out.cell 6).trans rfl, (HN2d.out.cell 7).trans rfl, (HN2d.out.cell 8).trans rfl, (HN2d.out.cell 12).trans rfl⟩
  refine wp_region_held_drew (S := (fun w' : World => Below w2.heap.size w2 w' ∧ w'.cell? ⟨n, 0, none⟩ = some (.int .i64 c.o.k) ∧ w'.cell? ⟨n, 1, none⟩ = some (.int .i64 c.o.wd) ∧ w'.cell? ⟨n, 2, none⟩ = some (.int .i64 c.o.s) ∧ w'.cell? ⟨n, 3, none⟩ = some (.int .i64 c.o.c) ∧ w'.cell? ⟨n, 4, none⟩ = some (.int .u32 c.o.st) ∧ w'.cell? ⟨n, 5, none⟩ = some (.slice c.o.I c.o.ni c.o.ci) ∧ w'.cell? ⟨n, 6, none⟩ = some (.int .i64 c.o.wr) ∧ w'.cell? ⟨n, 7, none⟩ = some (.slice c.o.R c.o.nr c.o.cr) ∧ w'.cell? ⟨n, 8, none⟩ = some (.int .i64 c.a) ∧ w'.cell? ⟨n, 12, none⟩ = some (.slice c.LA c.ln c.lc))) (by kernel_rfl) hSd (fun hHeld => ?_)
  clear hSd
  generalize w2.drew = wd at hHeld HN2d HB2d ⊢
  have hHeld : (fun w' : World => Below w2.heap.size w2 w' ∧ w'.cell? ⟨n, 0, none⟩ = some (.int .i64 c.o.k) ∧ w'.cell? ⟨n, 1, none⟩ = some (.int .i64 c.o.wd) ∧ w'.cell? ⟨n, 2, none⟩ = some (.int .i64 c.o.s) ∧ w'.cell? ⟨n, 3, none⟩ = some (.int .i64 c.o.c) ∧ w'.cell? ⟨n, 4, none⟩ = some (.int .u32 c.o.st) ∧ w'.cell? ⟨n, 5, none⟩ = some (.slice c.o.I c.o.ni c.o.ci) ∧ w'.cell? ⟨n, 6, none⟩ = some (.int .i64 c.o.wr) ∧ w'.cell? ⟨n, 7, none⟩ = some (.slice c.o.R c.o.nr c.o.cr) ∧ w'.cell? ⟨n, 8, none⟩ = some (.int .i64 c.a) ∧ w'.cell? ⟨n, 12, none⟩ = some (.slice c.LA c.ln c.lc)) wd := hHeld
  refine tkH 0 ?_
  refine tkH 1 ?_
  refine tkH 2 ?_
  refine tkH 3 ?_
  refine tkH 4 ?_
  refine tkH 5 ?_
  refine tkH 6 ?_
  refine tkH 7 ?_
  refine tkH 8 ?_
  refine tkH 9 ?_
  refine tkH 10 ?_
  refine tkH 11 ?_
  refine tkH 12 ?_
  refine tkH 13 ?_
  refine tkH 14 ?_
  refine tkH 15 ?_
  refine tkH 16 ?_
  refine tkH 18 ?_
  refine tkH 19 ?_
  refine tkH 20 ?_
  refine tkH 21 ?_
  refine tkH 22 ?_
  refine tkH 23 ?_
  refine clH 17 (fun K hK => ?_)
  go_simp
  go_at_call 16
  refine (HSZ.out _).mono ?_
  rintro ex wx ⟨rfl, hbx⟩
  have hSx : (fun w' : World => Below w2.heap.size w2 w' ∧ w'.cell? ⟨n, 0, none⟩ = some (.int .i64 c.o.k) ∧ w'.cell? ⟨n, 1, none⟩ = some (.int .i64 c.o.wd) ∧ w'.cell? ⟨n, 2, none⟩ = some (.int .i64 c.o.s) ∧ w'.cell? ⟨n, 3, none⟩ = some (.int .i64 c.o.c) ∧ w'.cell? ⟨n, 4, none⟩ = some (.int .u32 c.o.st) ∧ w'.cell? ⟨n, 5, none⟩ = some (.slice c.o.I c.o.ni c.o.ci) ∧ w'.cell? ⟨n, 6, none⟩ = some (.int .i64 c.o.wr) ∧ w'.cell? ⟨n, 7, none⟩ = some (.slice c.o.R c.o.nr c.o.cr) ∧ w'.cell? ⟨n, 8, none⟩ = some (.int .i64 c.a) ∧ w'.cell? ⟨n, 12, none⟩ = some (.slice c.LA c.ln c.lc)) wx := ⟨hHeld.1.trans (hbx.mono hHeld.1.size), (hbx.cell (p := ⟨n, 0, none⟩) (cell_lt hHeld.2.1)).trans hHeld.2.1, (hbx.cell (p := ⟨n, 1, none⟩) (cell_lt hHeld.2.2.1)).trans hHeld.2.2.1, (hbx.cell (p := ⟨n, 2, none⟩) (cell_lt hHeld.2.2.2.1)).trans hHeld.2.2.2.1, (hbx.cell (p := ⟨n, 3, none⟩) (cell_lt hHeld.2.2.2.2.1)).trans hHeld.2.2.2.2.1, (hbx.cell (p := ⟨n, 4, none⟩) (cell_lt hHeld.2.2.2.2.2.1)).trans hHeld.2.2.2.2.2.1, (hbx.cell (p := ⟨n, 5, none⟩) (cell_lt hHeld.2.2.2.2.2.2.1)).trans hHeld.2.2.2.2.2.2.1, (hbx.cell (p := ⟨n, 6, none⟩) (cell_lt hHeld.2.2.2.2.2.2.2.1)).trans hHeld.2.2.2.2.2.2.2.1, (hbx.cell (p := ⟨n, 7, none⟩) (cell_lt hHeld.2.2.2.2.2.2.2.2.1)).trans hHeld.2.2.2.2.2.2.2.2.1, (hbx.cell (p := ⟨n, 8, none⟩) (cell_lt hHeld.2.2.2.2.2.2.2.2.2.1)).trans hHeld.2.2.2.2.2.2.2.2.2.1, (hbx.cell (p := ⟨n, 12, none⟩) (cell_lt hHeld.2.2.2.2.2.2.2.2.2.2)).trans hHeld.2.2.2.2.2.2.2.2.2.2⟩
  refine hK.out _ _ hSx (fun hHeld => ?_)
  clear hK K
  try first | simp only [pS, List.set] | simp only [pN]
  refine tkH 24 ?_
  refine tkH 25 ?_
  refine wpAnyH_done (by kernel_rfl) ?_ _
  have hb3 := hHeld.1
  have HB3 := Lib.hid (HB2.out.trans (hb3.mono HB2.out.size))
  have HN3 := Lib.hid (HN2.out.kept hb3)
  have HBX := Lib.hid hb3
  clear hb3 hHeld hSx hbx
  have c12 : wx.cell? ⟨n, 12, none⟩ = some (.slice c.LA c.ln c.lc) := (HN3.out.cell 12).trans rfl
  have HME := Lib.hid (memory_g c.LA c.lc l (by have := HX.out.ln; omega) wx (HX.out.l.below HB3.out HB3.out.size))
  have hmln : c.ln = l.length := HX.out.ln
  have HME2 := HME
  rw [← hmln] at HME2
  have HMM := HME2
  clear hmln HME HME2
  go_wp2_with fail
  refine HMM.out.mono ?_
  rintro e w5 ⟨mb, lb, rfl, hlb, hmb, hm, hb5⟩
  have HOJ5 := Lib.hid ((HOJ.out.below HBX.out).below hb5)
  have HB5 := Lib.hid (HB3.out.trans (hb5.mono HB3.out.size))
  have HN5 := Lib.hid (HN3.out.kept hb5)
  have HM5 := Lib.hid hm
  have hsz3 := HBX.out.size
  have HLB := Lib.hid (And.intro hlb hmb)
  clear hlb hmb hm hb5 c12
  have c12 : w5.cell? ⟨n, 12, none⟩ = some (.slice c.LA c.ln c.lc) := (HN5.out.cell 12).trans rfl
  have hempty := World.ownsRow_lit (base := w5.heap.size) (e := 32) (size := 1) w5 #[] 0 (Nat.le_refl _) (by simp [maxLen]) rfl
  have HEM := Lib.hid hempty
  have hb6 := (Below.refl w5.heap.size w5).alloc (Nat.le_refl _) (.cells #[] 32)
  have HWS := Lib.hid (HX.out.l.below (HB5.out.trans (hb6.mono HB5.out.size)) (Nat.le_refl _))
  have HB6 := Lib.hid hb6
  have HLN := Lib.hid HX.out.ln
  clear hempty hb6
  have HN6 := Lib.hid (HN5.out.kept HB6.out)
  have c12a : (w5.alloc (.cells #[] 32)).cell? ⟨n, 12, none⟩ = some (.slice c.LA c.ln c.lc) := (HN6.out.cell 12).trans rfl
  clear c12
  have HBO := Lib.hid fun W => bound_o c.o hob c.op W
  unfold obA at HBO
  go_wp2_with (at_builtin; refine wpList_cat rfl _ _ rfl HEM.out rfl rfl HLN.out HWS.out (by have := HX.out.ln; omega) (by rw [World.size_alloc]; omega) ?_; intro v7 w7 hown7 hgr7 hob7; simp only [Nat.zero_add, List.nil_append] at hown7; obtain ⟨l2, cap, rfl, hl2⟩ := cat_form hown7 hob7; have HN7 := Lib.hid (HN5.out.below (HB6.out.trans (grown_below HEM.out hgr7 (Nat.le_refl _) (by rw [World.size_alloc]; omega))) HN5.out.lt); have HB7 := Lib.hid (HB6.out.trans (grown_below HEM.out hgr7 (Nat.le_refl _) (by rw [World.size_alloc]; omega))); have HO7 := Lib.hid hown7; clear hown7 hgr7 hob7; have c0 : w7.cell? ⟨n, 0, none⟩ = some (.int .i64 c.o.k) := (HN7.out.cell 0).trans rfl; have c1 : w7.cell? ⟨n, 1, none⟩ = some (.int .i64 c.o.wd) := (HN7.out.cell 1).trans rfl; have c2 : w7.cell? ⟨n, 2, none⟩ = some (.int .i64 c.o.s) := (HN7.out.cell 2).trans rfl; have c3 : w7.cell? ⟨n, 3, none⟩ = some (.int .i64 c.o.c) := (HN7.out.cell 3).trans rfl; have c4 : w7.cell? ⟨n, 4, none⟩ = some (.int .u32 c.o.st) := (HN7.out.cell 4).trans rfl; have c5 : w7.cell? ⟨n, 5, none⟩ = some (.slice c.o.I c.o.ni c.o.ci) := (HN7.out.cell 5).trans rfl; have c6 : w7.cell? ⟨n, 6, none⟩ = some (.int .i64 c.o.wr) := (HN7.out.cell 6).trans rfl; have c7 : w7.cell? ⟨n, 7, none⟩ = some (.slice c.o.R c.o.nr c.o.cr) := (HN7.out.cell 7).trans rfl; have c9 : w7.cell? ⟨n, 9, none⟩ = some (.int .i64 c.op) := (HN7.out.cell 9).trans rfl)
  refine (HBO.out _).mono ?_
  rintro e w8 ⟨rfl, hb8⟩
  clear c0 c1 c2 c3 c4 c5 c6 c7 c9 c12a
  rw [HMO.out]
  have hn8 := HN7.out.kept hb8
  have hbb := HB7.out.trans (hb8.mono HB7.out.size)
  have HW8 := Lib.hid (HB5.out.trans (hbb.mono HB5.out.size))
  have hoj8 := (HOJ5.out.tch (T := fun _ => False) (Tch.of_below _ hbb) (fun h => h) (fun h => h) (fun _ _ h => h))
  have hm8 := HM5.out.tch (T := fun _ => False) (Tch.of_below _ hbb) (fun h => h) (fun h => h)
  have hl2lt : w5.heap.size ≤ l2 := hl2
  have hown8 : Own (ints .u32) 32 0 w8 (.slice (some ⟨l2, 0, none⟩) l.length cap) l := by
    have hall : (ints .u32).all l = l.map (Value.int .u32) := of1_all _ _ l
    have h1 : Own (ints .u32) 32 w5.heap.size w7 (.slice (some ⟨l2, 0, none⟩) l.length cap) l := by
      unfold Own
      rw [hall]
      exact HO7.out
    exact (h1.below hb8 (Nat.le_refl _)).mono (Nat.zero_le _)
  have hlt5 := HOJ5.out.row.lt
  have hsb5 : sb < w5.heap.size := by
    obtain ⟨u, _, hr⟩ := HOJ5.out.op.row
    exact hr.lt
  have hmlt5 : mb < w5.heap.size ∧ lb < w5.heap.size := by
    obtain ⟨kk, cc, hr, ho, _⟩ := HM5.out
    obtain ⟨cur, hc⟩ := own_row ho
    exact ⟨hr.lt, hc.lt⟩
  have hrvlt : ∀ b, rv.ownBlock = some b → b < w2.heap.size := fun b hb => (World.ownsRow.lt HOJ.out.op.rc b hb).2
  have hxlt2 := HOJ.out.row.lt
  have hslt2 : sb < w2.heap.size := by
    obtain ⟨u, _, hr⟩ := HOJ.out.op.row
    exact hr.lt
  have hB1s := HB1.out.size
  have hn1lt := HN1.out.lt
  have hW5 := HB5.out.size
  obtain ⟨hlbx, hmbx⟩ := HLB.out
  obtain ⟨hxb2, hsb2, hrv2⟩ := HLT.out
  have hnn := HNN.out
  have hE0 : EndR W c l.length M xb mb lb l2 cap 0 w8 := ⟨sb, ty, kc0 c.o c.a c.op c.rd r, rv, .pointer none, l, l, hoj8, HIV.out, ⟨hm8, hown8, rfl, by omega, by omega⟩, ⟨rfl, HLF.out.2.2, rfl, by have := HLF.out.1; omega⟩, ⟨by omega, by omega, by omega, by omega, by omega⟩, ⟨by omega, by omega, by omega, by omega, by omega, by omega⟩, fun b hb => by have := hrv2 b hb; have := hrvlt b hb; exact ⟨by omega, by omega, by omega, by omega⟩, by rw [hnn]; exact hn8, HW8.out⟩
  have HE0 := Lib.hid hE0
  have HMP := Lib.hid (Nat.lt_of_lt_of_le HLF.out.2.1 HLF.out.1)
  have HPN := Lib.hid HX.out.pn
  clear hn8 hbb hoj8 hm8 hl2lt hown8 hlt5 hsb5 hmlt5 hrvlt hxlt2 hslt2 hB1s hn1lt hW5 hlbx hmbx hxb2 hsb2 hrv2 hE0 hb8 hsz3 hl2 hnn
  go_wp2_with fail
  go_loopw [8] (fun v wr => ∃ k : Nat, k ≤ M ∧ v = .int .i64 k ∧ EndR W c l.length M xb mb lb l2 cap k wr) (fun v _ => M - (intOf v).toNat)
  case atStart => exact ⟨0, Nat.zero_le _, rfl, HE0.out⟩
  case round =>
    obtain ⟨k, hk, rfl, hE⟩ := hrel
    obtain ⟨sbk, tyk, d, rvk, mpk, lm, ll, hoj, hI, hBo, h0, h1, h2, h3, hr, hbw⟩ := hE
    have hM0 := HMP.out
    have hMd : decide (0 < M) = true := decide_eq_true hM0
    by_cases hlt : k < M
    · have hkd : decide (k < M) = true := decide_eq_true hlt
      have hov0 := oover_o xb sbk tyk c.o d rvk mpk wr hoj hI
      cases hov : d.over
      · rw [hov] at hov0
        have hr' := hr
        rw [HNN.out] at hr'
        have hlen0 : (pokes (k : Int) ps lm).length = l.length := by rw [pokes_len, hBo.len, h0.1]
        have hpo := poked_g c (k : Int) ps mb lb l2 cap W.heap.size lm ll wr hBo HPN.out (by have := HPN.out; omega) (HX.out.p.below hbw (Nat.le_refl _)) hbw.size (Nat.le_of_lt h1.2.2.1) (Nat.le_of_lt h1.2.2.2.1) (Nat.le_of_lt h1.2.2.2.2)
        rw [h0.1] at hpo
        have hcanf : ∀ x : List Int, x.length = l.length → d.can x = true := fun x hx => by
          unfold Kc.can
          rw [hov, hx]
          have := h0.2.1
          simp
          omega
        have HOV := Lib.hid hov0
        have HPO := Lib.hid hpo
        have HOD := Lib.hid hov
        have HOJ9 := Lib.hid hoj
        have HI9 := Lib.hid hI
        have HR9 := Lib.hid hr
        have HBW := Lib.hid hbw
        have H0 := Lib.hid h0
        have H1 := Lib.hid h1
        have H2 := Lib.hid h2
        have H3 := Lib.hid h3
        have HL0 := Lib.hid hlen0
        have HCF := Lib.hid hcanf
        unfold csA at HPO
        have k0 : wr.cell? ⟨n, 0, none⟩ = some (.int .i64 c.o.k) := (hr'.cell 0).trans rfl
        have k1 : wr.cell? ⟨n, 1, none⟩ = some (.int .i64 c.o.wd) := (hr'.cell 1).trans rfl
        have k2 : wr.cell? ⟨n, 2, none⟩ = some (.int .i64 c.o.s) := (hr'.cell 2).trans rfl
        have k3 : wr.cell? ⟨n, 3, none⟩ = some (.int .i64 c.o.c) := (hr'.cell 3).trans rfl
        have k4 : wr.cell? ⟨n, 4, none⟩ = some (.int .u32 c.o.st) := (hr'.cell 4).trans rfl
        have k5 : wr.cell? ⟨n, 5, none⟩ = some (.slice c.o.I c.o.ni c.o.ci) := (hr'.cell 5).trans rfl
        have k6 : wr.cell? ⟨n, 6, none⟩ = some (.int .i64 c.o.wr) := (hr'.cell 6).trans rfl
        have k7 : wr.cell? ⟨n, 7, none⟩ = some (.slice c.o.R c.o.nr c.o.cr) := (hr'.cell 7).trans rfl
        have k8 : wr.cell? ⟨n, 8, none⟩ = some (.int .i64 c.a) := (hr'.cell 8).trans rfl
        have k9 : wr.cell? ⟨n, 9, none⟩ = some (.int .i64 c.op) := (hr'.cell 9).trans rfl
        have k10 : wr.cell? ⟨n, 10, none⟩ = some (.int .i64 c.rd) := (hr'.cell 10).trans rfl
        have k11 : wr.cell? ⟨n, 11, none⟩ = some (.slice c.RA c.rn c.rc) := (hr'.cell 11).trans rfl
        have k12 : wr.cell? ⟨n, 12, none⟩ = some (.slice c.LA c.ln c.lc) := (hr'.cell 12).trans rfl
        have k13 : wr.cell? ⟨n, 13, none⟩ = some (.slice c.PA c.pn c.pc) := (hr'.cell 13).trans rfl
        clear hov0 hpo hov hoj hI hr hr' hbw h0 h1 h2 h3 hBo hlen0 hcanf
        go_wp2_with fail
        refine HOV.out.mono ?_
        rintro e w9 ⟨rfl, hw9⟩
        rw [hw9]
        clear hw9
        go_wp2_with fail
        refine HPO.out.mono ?_
        rintro e w9 ⟨rfl, hbo9, ht9⟩
        obtain ⟨hoj9, hr9, hb9⟩ := EndR.poked HOJ9.out H1.out H2.out H3.out HR9.out HBW.out ht9
        have hfpN : ¬ fp sbk mb lb rvk 0 := by
          have hg := HX.out.g
          have h1 := H1.out
          have hgd : (0 : Nat) = gt0 := rfl
          rintro (q | q | q | q)
          · omega
          · omega
          · omega
          · have := H3.out _ q; omega
        have h2' := H2.out
        have HST := Lib.hid (ostep_yes xb sbk mb lb tyk c.o d rvk mpk (pokes (k : Int) ps lm) w9 hoj9 hbo9.mem HI9.out (HCF.out _ HL0.out) h2'.2.2.2.1 h2'.2.2.2.2.1 (fun e => (H3.out _ e).2.1 rfl) (fun e => (H3.out _ e).2.2.1 rfl) h2'.1 h2'.2.1 (tab_low HX.out.tab hb9) hfpN)
        have HBO9 := Lib.hid hbo9
        have HR10 := Lib.hid hr9
        have HB10 := Lib.hid hb9
        have h0' : (pokes (k : Int) ps ll).length = l.length ∧ d.base + d.size ≤ l.length ∧ d.steps = k ∧ k + d.left ≤ M := ⟨by rw [pokes_len]; exact H0.out.1, H0.out.2⟩
        have H0' := Lib.hid h0'
        clear hbo9 ht9 hoj9 hr9 hb9 hfpN h2' h0' k0 k1 k2 k3 k4 k5 k6 k7 k8 k9 k10 k11 k12 k13
        go_wp2_with fail
        refine HST.out.mono ?_
        rintro e w10 hwe
        obtain ⟨rfl, hE10, rv10, hoj10⟩ := EndR.went HI9.out HOD.out HBO9.out H0'.out H1.out H2.out H3.out HR10.out HB10.out hwe
        have hst10 : (d.step (pokes (k : Int) ps lm)).1.steps = k + 1 := by
          have hs := (Kc.left_step (l := pokes (k : Int) ps lm) HOD.out HI9.out.sta.wd1 HI9.out.sta.nr1 HI9.out.sta.cap1).2
          rw [hs.2.2.2.2.2.2.2.2.2, ← H0.out.2.2.1]
        have hss := osteps_o xb sbk tyk c.o (d.step (pokes (k : Int) ps lm)).1 rv10 _ w10 hoj10 (HI9.out.step HOD.out HBO9.out.mem.w32)
        rw [hst10] at hss
        have HSS := Lib.hid hss
        have HE10 := Lib.hid hE10
        clear hwe hE10 hoj10 hst10 hss
        go_wp2_with fail
        refine HSS.out.mono ?_
        rintro e w11 ⟨rfl, hb11⟩
        have HE11 := Lib.hid (HE10.out.belo hb11)
        clear hb11
        go_wp2_with fail
        go_roundw
        case rel => exact ⟨k + 1, by omega, by go_num, HE11.out⟩
        case measure => simp [intOf]; omega
      · rw [hov] at hov0
        have HOV := Lib.hid hov0
        have HBE := Lib.hid hbw
        clear hov0 hov hoj hI hr hbw h0 h1 h2 h3 hBo
        go_wp2_with fail
        refine HOV.out.mono ?_
        rintro e w9 ⟨rfl, hw9⟩
        rw [hw9]
        clear hw9
        go_wp2_with fail
        refine HOV.out.mono ?_
        rintro e w9 ⟨rfl, hw9⟩
        rw [hw9]
        clear hw9
        go_wp2_with fail
        refine (awake_g _ (tab_low HX.out.tab HBE.out) (by have := HBE.out.size; have := HX.out.g; omega)).mono ?_
        rintro e wz ⟨rfl, hbz⟩
        have HBZ := Lib.hid (HBE.out.trans (hbz.mono HBE.out.size))
        clear hbz
        go_wp2_with fail
        go_ret
        exact ⟨rfl, by first | exact HBZ.out | (rw [← HNN.out]; exact HBZ.out)⟩
    · have hkd : decide (k < M) = false := decide_eq_false hlt
      have hov : d.over = true := Kc.left_zero.1 (by have := h0.2.2.2; omega)
      have hov0 := oover_o xb sbk tyk c.o d rvk mpk wr hoj hI
      rw [hov] at hov0
      have HOV := Lib.hid hov0
      have HBE := Lib.hid hbw
      clear hov0 hov hoj hI hr hbw h0 h1 h2 h3 hBo
      go_wp2_with fail
      refine HOV.out.mono ?_
      rintro e w9 ⟨rfl, hw9⟩
      rw [hw9]
      clear hw9
      go_wp2_with fail
      refine (awake_g _ (tab_low HX.out.tab HBE.out) (by have := HBE.out.size; have := HX.out.g; omega)).mono ?_
      rintro e wz ⟨rfl, hbz⟩
      have HBZ := Lib.hid (HBE.out.trans (hbz.mono HBE.out.size))
      clear hbz
      go_wp2_with fail
      go_ret
      exact ⟨rfl, by first | exact HBZ.out | (rw [← HNN.out]; exact HBZ.out)⟩

end Go.Proofs.YtgjcniokgdicpaaGreatDoor
