/- What is asked of any object: the law. -/
import Derived.Test.YtgjcniokgdicpaaGreatDoorShN
import Derived.Test.YtgjcniokgdicpaaGreatDoorObLaw
namespace Go.Proofs.YtgjcniokgdicpaaGreatDoor
open Go.RowKit
attribute [local go_sem] Oper.semAt_some

theorem layZ_le {o : Ob} {l : List Int} (hl : o.ni = l.length) : (layZ o l).length ≤ 300 := by
  unfold layZ
  split
  · next h =>
    have hb := lay_bd h hl
    have hz := size_bd o
    rw [spl_len (by rw [layB_len]; omega), layB_len]
    omega
  · simp
set_option maxRecDepth 100000 in
set_option maxHeartbeats 8000000 in
theorem shapes_y (o : Ob) (ho : o.Ok) (l r : List Int) (op t : Int) (w : World) (hl : o.ni = l.length) (hr : o.nr = r.length) (hI : Ws w w.heap.size o.I l) (hR : Is w w.heap.size o.R r) (hw : ∀ x ∈ o.wr :: r, (Lit.int .i64 x).wf = true) (hsm : o.ni ≤ 100 ∧ o.nr ≤ 100) (hq0 : 0 ≤ ridx r t) : Calls Tryz.prog 6 #[.agg (obA o), .int .i64 op, .int .i64 t] w fun e w' => e = .returned (.bool true) ∧ Below w.heap.size w w' := by
  have hn1 : r.length ≤ 1000000 := by omega
  have hsmall := fun W => small_o o W
  rw [decide_eq_true hsm] at hsmall
  have hrd := fun W (hb : Below w.heap.size w W) => reader_o o r t w.heap.size W hr hn1 (hR.below hb (Nat.le_refl _)) hb.size
  have hrr := fun W (hb : Below w.heap.size w W) => rreader_o o r t w.heap.size W hr hn1 (hR.below hb (Nat.le_refl _)) hb.size
  have HIw := Lib.hid hI
  have HRw := Lib.hid hR
  have HLl := Lib.hid hl
  have HRr := Lib.hid hr
  have HWw := Lib.hid hw
  have HN1 := Lib.hid hn1
  have HLE := Lib.hid (layZ_le (o := o) hl)
  have HO := Lib.hid ho
  obtain ⟨q, hq⟩ : ∃ q, ridx r t = q := ⟨_, rfl⟩
  rw [hq] at hrd hrr hq0
  clear hq
  simp only [if_pos hq0, decide_eq_true hq0] at hrd
  have t9 : decide (0 ≤ q) = true := decide_eq_true hq0
  obtain ⟨SZ, hSZ⟩ : ∃ SZ, sizeZ o = SZ := ⟨_, rfl⟩
  obtain ⟨BD, hBD⟩ : ∃ BD, boundZ o op = BD := ⟨_, rfl⟩
  obtain ⟨L, hL⟩ : ∃ L, layZ o l = L := ⟨_, rfl⟩
  rw [hL] at HLE
  obtain ⟨an, han⟩ : ∃ an, decide (anyR o) = an := ⟨_, rfl⟩
  obtain ⟨ri, hri⟩ : ∃ ri, decide (rightZ o r) = ri := ⟨_, rfl⟩
  have hS0 := Lib.hid hSZ
  have hB0 := Lib.hid hBD
  have hL0 := Lib.hid hL
  have hA0 := Lib.hid han
  have hR0 := Lib.hid hri
  clear hSZ hBD hL han hri
  unfold obA at hsmall hrd hrr
  have HSM := Lib.hid hsmall
  have HRD := Lib.hid hrd
  have HRR := Lib.hid hrr
  clear hsmall hrd hrr hI hR hl hr hw hn1 hsm ho
  have hn := ObX.new w o
  have hB := (Below.refl w.heap.size w).alloc (Nat.le_refl _) (.cells (obA o) 36)
  unfold obA at hn hB
  obtain ⟨n, hn0⟩ : ∃ n, w.heap.size = n := ⟨_, rfl⟩
  rw [hn0] at hn
  have HN := Lib.hid hn
  have HB := Lib.hid hB
  clear hn hB
  unfold obA
  go_enter Tryz.func6, Tryz.ntmps6
  go_wp2_with fail
  refine (HSM.out _).mono ?_
  rintro e w1 ⟨rfl, hb1⟩
  have ho1 := ObX.kept HN.out hb1
  have hB1 := HB.out.trans (hb1.mono (by have := HB.out.size; omega))
  obtain ⟨d0, d1, d2, d3, d4, d5, d6, d7⟩ := ho1.cells
  have HB1 := Lib.hid hB1
  have HO1 := Lib.hid ho1
  clear hB1 ho1 hb1
  go_wp2_with fail
  refine (HRD.out _ HB1.out).mono ?_
  rintro e w2 ⟨rfl, hb2⟩
  have ho2 := ObX.kept HO1.out hb2
  have hB2 := HB1.out.trans (hb2.mono (by have := HB1.out.size; omega))
  clear d0 d1 d2 d3 d4 d5 d6 d7
  obtain ⟨d0, d1, d2, d3, d4, d5, d6, d7⟩ := ho2.cells
  have HB2 := Lib.hid hB2
  have HO2 := Lib.hid ho2
  clear hB2 ho2 hb2
  go_wp2_with fail
  refine (HRR.out _ HB2.out).mono ?_
  rintro e w3 ⟨rfl, hb3⟩
  have ho3 := ObX.kept HO2.out hb3
  have HBXw3 := Lib.hid (HB2.out.trans (hb3.mono (by have := HB2.out.size; omega)))
  have HO3 := Lib.hid ho3
  clear ho3 hb3 d0 d1 d2 d3 d4 d5 d6 d7 HB1 HO1 HB2 HO2
  go_wp2_with fail
  have hSd : (fun w' : World => Below w3.heap.size w3 w' ∧ w'.cell? ⟨n, 0, none⟩ = some (.int .i64 o.k) ∧ w'.cell? ⟨n, 1, none⟩ = some (.int .i64 o.wd) ∧ w'.cell? ⟨n, 2, none⟩ = some (.int .i64 o.s) ∧ w'.cell? ⟨n, 3, none⟩ = some (.int .i64 o.c) ∧ w'.cell? ⟨n, 4, none⟩ = some (.int .u32 o.st) ∧ w'.cell? ⟨n, 5, none⟩ = some (.slice o.I o.ni o.ci) ∧ w'.cell? ⟨n, 6, none⟩ = some (.int .i64 o.wr) ∧ w'.cell? ⟨n, 7, none⟩ = some (.slice o.R o.nr o.cr)) w3.drew := ⟨(Below.refl _ w3).drew, (ObX.kept HO3.out (Below.refl _ w3).drew).cells⟩
  refine wp_region_held_drew (S := (fun w' : World => Below w3.heap.size w3 w' ∧ w'.cell? ⟨n, 0, none⟩ = some (.int .i64 o.k) ∧ w'.cell? ⟨n, 1, none⟩ = some (.int .i64 o.wd) ∧ w'.cell? ⟨n, 2, none⟩ = some (.int .i64 o.s) ∧ w'.cell? ⟨n, 3, none⟩ = some (.int .i64 o.c) ∧ w'.cell? ⟨n, 4, none⟩ = some (.int .u32 o.st) ∧ w'.cell? ⟨n, 5, none⟩ = some (.slice o.I o.ni o.ci) ∧ w'.cell? ⟨n, 6, none⟩ = some (.int .i64 o.wr) ∧ w'.cell? ⟨n, 7, none⟩ = some (.slice o.R o.nr o.cr))) (by kernel_rfl) hSd (fun hHeld => ?_)
  generalize w3.drew = wd at hHeld ⊢
  have hHeld : (fun w' : World => Below w3.heap.size w3 w' ∧ w'.cell? ⟨n, 0, none⟩ = some (.int .i64 o.k) ∧ w'.cell? ⟨n, 1, none⟩ = some (.int .i64 o.wd) ∧ w'.cell? ⟨n, 2, none⟩ = some (.int .i64 o.s) ∧ w'.cell? ⟨n, 3, none⟩ = some (.int .i64 o.c) ∧ w'.cell? ⟨n, 4, none⟩ = some (.int .u32 o.st) ∧ w'.cell? ⟨n, 5, none⟩ = some (.slice o.I o.ni o.ci) ∧ w'.cell? ⟨n, 6, none⟩ = some (.int .i64 o.wr) ∧ w'.cell? ⟨n, 7, none⟩ = some (.slice o.R o.nr o.cr)) wd := hHeld
  refine wpAnyH_take (i := 0) (oi := ?_) (v := ?_) ?_ (by kernel_rfl) (by kernel_rfl) (by kernel_rfl) ?_ (Or.inl ⟨?_, ?_⟩) (by assumption) ?_
  rotate_left 2
  · (simp only [List.getElem?_toArray, List.getElem?_cons_zero]; rfl)
  · first | exact fun _ _ _ h => h | exact fun _ _ _ h => by cases h.1
  · rfl
  · ((intro wq hSq; (try dsimp only at hSq); go_simp); (try with_reducible rfl))
  try simp only [Act.put, List.setIfInBounds_toArray, List.set_cons_zero, List.set_cons_succ]
  refine wpAnyH_take (i := 2) (oi := ?_) (v := ?_) ?_ (by kernel_rfl) (by kernel_rfl) (by kernel_rfl) ?_ (Or.inl ⟨?_, ?_⟩) (by assumption) ?_
  rotate_left 2
  · (simp only [List.getElem?_toArray, List.getElem?_cons_succ, List.getElem?_cons_zero]; rfl)
  · first | exact fun _ _ _ h => h | exact fun _ _ _ h => by cases h.1
  · rfl
  · ((intro wq hSq; (try dsimp only at hSq); go_simp); (try with_reducible rfl))
  try simp only [Act.put, List.setIfInBounds_toArray, List.set_cons_zero, List.set_cons_succ]
  refine wpAnyH_ready (rs := [1]) (by kernel_rfl) (by simp) ?_
  refine AllReadyH.cons (o := ?_) ?_ (fun K hK => ?_) AllReadyH.nil
  rotate_left
  · (simp only [List.getElem?_toArray, List.getElem?_cons_succ, List.getElem?_cons_zero]; rfl)
  go_simp
  go_at_call 32
  have hcur : Below w.heap.size w wd := HBXw3.out.trans (hHeld.1.mono (by have := HBXw3.out.size; omega))
  have hcall := (hA0.out ▸ shaped_o o HO.out wd)
  unfold obA at hcall
  replace hcall := Lib.hid hcall
  clear hcur
  refine hcall.out.mono ?_
  clear hcall
  rintro ex wx1w3 ⟨rfl, hbx⟩
  have hSx : (fun w' : World => Below w3.heap.size w3 w' ∧ w'.cell? ⟨n, 0, none⟩ = some (.int .i64 o.k) ∧ w'.cell? ⟨n, 1, none⟩ = some (.int .i64 o.wd) ∧ w'.cell? ⟨n, 2, none⟩ = some (.int .i64 o.s) ∧ w'.cell? ⟨n, 3, none⟩ = some (.int .i64 o.c) ∧ w'.cell? ⟨n, 4, none⟩ = some (.int .u32 o.st) ∧ w'.cell? ⟨n, 5, none⟩ = some (.slice o.I o.ni o.ci) ∧ w'.cell? ⟨n, 6, none⟩ = some (.int .i64 o.wr) ∧ w'.cell? ⟨n, 7, none⟩ = some (.slice o.R o.nr o.cr)) wx1w3 := by
    obtain ⟨h0, u0, u1, u2, u3, u4, u5, u6, u7⟩ := hHeld
    have hk : ∀ {i : Nat} {u : Value}, _ → wx1w3.cell? ⟨n, i, none⟩ = some u := fun {i u} hc => (hbx.cell (p := ⟨n, i, none⟩) (cell_lt hc)).trans hc
    exact ⟨h0.trans (hbx.mono h0.size), hk u0, hk u1, hk u2, hk u3, hk u4, hk u5, hk u6, hk u7⟩
  clear hbx
  refine hK.out _ _ hSx (fun hHeld => ?_)
  clear hK K
  try simp only [Act.put, List.setIfInBounds_toArray, List.set_cons_zero, List.set_cons_succ]
  refine wpAnyH_ready (rs := [3]) (by kernel_rfl) (by simp) ?_
  refine AllReadyH.cons (o := ?_) ?_ (fun K hK => ?_) AllReadyH.nil
  rotate_left
  · (simp only [List.getElem?_toArray, List.getElem?_cons_succ, List.getElem?_cons_zero]; rfl)
  go_simp
  go_at_call 33
  have hcur : Below w.heap.size w wx1w3 := HBXw3.out.trans (hHeld.1.mono (by have := HBXw3.out.size; omega))
  have hcall := (hA0.out ▸ r14Right_o o HO.out wx1w3)
  unfold obA at hcall
  replace hcall := Lib.hid hcall
  clear hcur
  refine hcall.out.mono ?_
  clear hcall
  rintro ex wx2w3 ⟨rfl, hbx⟩
  have hSx : (fun w' : World => Below w3.heap.size w3 w' ∧ w'.cell? ⟨n, 0, none⟩ = some (.int .i64 o.k) ∧ w'.cell? ⟨n, 1, none⟩ = some (.int .i64 o.wd) ∧ w'.cell? ⟨n, 2, none⟩ = some (.int .i64 o.s) ∧ w'.cell? ⟨n, 3, none⟩ = some (.int .i64 o.c) ∧ w'.cell? ⟨n, 4, none⟩ = some (.int .u32 o.st) ∧ w'.cell? ⟨n, 5, none⟩ = some (.slice o.I o.ni o.ci) ∧ w'.cell? ⟨n, 6, none⟩ = some (.int .i64 o.wr) ∧ w'.cell? ⟨n, 7, none⟩ = some (.slice o.R o.nr o.cr)) wx2w3 := by
    obtain ⟨h0, u0, u1, u2, u3, u4, u5, u6, u7⟩ := hHeld
    have hk : ∀ {i : Nat} {u : Value}, _ → wx2w3.cell? ⟨n, i, none⟩ = some u := fun {i u} hc => (hbx.cell (p := ⟨n, i, none⟩) (cell_lt hc)).trans hc
    exact ⟨h0.trans (hbx.mono h0.size), hk u0, hk u1, hk u2, hk u3, hk u4, hk u5, hk u6, hk u7⟩
  clear hbx
  refine hK.out _ _ hSx (fun hHeld => ?_)
  clear hK K
  try simp only [Act.put, List.setIfInBounds_toArray, List.set_cons_zero, List.set_cons_succ]
  refine wpAnyH_take (i := 4) (oi := ?_) (v := ?_) ?_ (by kernel_rfl) (by kernel_rfl) (by kernel_rfl) ?_ (Or.inl ⟨?_, ?_⟩) (by assumption) ?_
  rotate_left 2
  · (simp only [List.getElem?_toArray, List.getElem?_cons_succ, List.getElem?_cons_zero]; rfl)
  · first | exact fun _ _ _ h => h | exact fun _ _ _ h => by cases h.1
  · rfl
  · ((intro wq hSq; (try dsimp only at hSq); go_simp); (try with_reducible rfl))
  try simp only [Act.put, List.setIfInBounds_toArray, List.set_cons_zero, List.set_cons_succ]
  refine wpAnyH_take (i := 5) (oi := ?_) (v := ?_) ?_ (by kernel_rfl) (by kernel_rfl) (by kernel_rfl) ?_ (Or.inl ⟨?_, ?_⟩) (by assumption) ?_
  rotate_left 2
  · (simp only [List.getElem?_toArray, List.getElem?_cons_succ, List.getElem?_cons_zero]; rfl)
  · first | exact fun _ _ _ h => h | exact fun _ _ _ h => by cases h.1
  · rfl
  · ((intro wq hSq; (try dsimp only at hSq); go_simp); (try with_reducible rfl))
  try simp only [Act.put, List.setIfInBounds_toArray, List.set_cons_zero, List.set_cons_succ]
  refine wpAnyH_take (i := 6) (oi := ?_) (v := ?_) ?_ (by kernel_rfl) (by kernel_rfl) (by kernel_rfl) ?_ (Or.inl ⟨?_, ?_⟩) (by assumption) ?_
  rotate_left 2
  · (simp only [List.getElem?_toArray, List.getElem?_cons_succ, List.getElem?_cons_zero]; rfl)
  · first | exact fun _ _ _ h => h | exact fun _ _ _ h => by cases h.1
  · rfl
  · ((intro wq hSq; (try dsimp only at hSq); go_simp); (try with_reducible rfl))
  try simp only [Act.put, List.setIfInBounds_toArray, List.set_cons_zero, List.set_cons_succ]
  refine wpAnyH_take (i := 8) (oi := ?_) (v := ?_) ?_ (by kernel_rfl) (by kernel_rfl) (by kernel_rfl) ?_ (Or.inl ⟨?_, ?_⟩) (by assumption) ?_
  rotate_left 2
  · (simp only [List.getElem?_toArray, List.getElem?_cons_succ, List.getElem?_cons_zero]; rfl)
  · first | exact fun _ _ _ h => h | exact fun _ _ _ h => by cases h.1
  · rfl
  · ((intro wq hSq; (try dsimp only at hSq); go_simp); (try with_reducible rfl))
  try simp only [Act.put, List.setIfInBounds_toArray, List.set_cons_zero, List.set_cons_succ]
  refine wpAnyH_ready (rs := [7]) (by kernel_rfl) (by simp) ?_
  refine AllReadyH.cons (o := ?_) ?_ (fun K hK => ?_) AllReadyH.nil
  rotate_left
  · (simp only [List.getElem?_toArray, List.getElem?_cons_succ, List.getElem?_cons_zero]; rfl)
  go_simp
  go_at_call 34
  have hcur : Below w.heap.size w wx2w3 := HBXw3.out.trans (hHeld.1.mono (by have := HBXw3.out.size; omega))
  have hcall := (hR0.out ▸ right_o o HO.out r w.heap.size wx2w3 HRr.out HWw.out (HRw.out.below hcur (Nat.le_refl _)) hcur.size)
  unfold obA at hcall
  replace hcall := Lib.hid hcall
  clear hcur
  refine hcall.out.mono ?_
  clear hcall
  rintro ex wx3w3 ⟨rfl, hbx⟩
  have hSx : (fun w' : World => Below w3.heap.size w3 w' ∧ w'.cell? ⟨n, 0, none⟩ = some (.int .i64 o.k) ∧ w'.cell? ⟨n, 1, none⟩ = some (.int .i64 o.wd) ∧ w'.cell? ⟨n, 2, none⟩ = some (.int .i64 o.s) ∧ w'.cell? ⟨n, 3, none⟩ = some (.int .i64 o.c) ∧ w'.cell? ⟨n, 4, none⟩ = some (.int .u32 o.st) ∧ w'.cell? ⟨n, 5, none⟩ = some (.slice o.I o.ni o.ci) ∧ w'.cell? ⟨n, 6, none⟩ = some (.int .i64 o.wr) ∧ w'.cell? ⟨n, 7, none⟩ = some (.slice o.R o.nr o.cr)) wx3w3 := by
    obtain ⟨h0, u0, u1, u2, u3, u4, u5, u6, u7⟩ := hHeld
    have hk : ∀ {i : Nat} {u : Value}, _ → wx3w3.cell? ⟨n, i, none⟩ = some u := fun {i u} hc => (hbx.cell (p := ⟨n, i, none⟩) (cell_lt hc)).trans hc
    exact ⟨h0.trans (hbx.mono h0.size), hk u0, hk u1, hk u2, hk u3, hk u4, hk u5, hk u6, hk u7⟩
  clear hbx
  refine hK.out _ _ hSx (fun hHeld => ?_)
  clear hK K
  try simp only [Act.put, List.setIfInBounds_toArray, List.set_cons_zero, List.set_cons_succ]
  refine wpAnyH_ready (rs := [9]) (by kernel_rfl) (by simp) ?_
  refine AllReadyH.cons (o := ?_) ?_ (fun K hK => ?_) AllReadyH.nil
  rotate_left
  · (simp only [List.getElem?_toArray, List.getElem?_cons_succ, List.getElem?_cons_zero]; rfl)
  go_simp
  go_at_call 35
  have hcur : Below w.heap.size w wx3w3 := HBXw3.out.trans (hHeld.1.mono (by have := HBXw3.out.size; omega))
  have hcall := (hR0.out ▸ rright_o o HO.out r w.heap.size wx3w3 HRr.out HWw.out (HRw.out.below hcur (Nat.le_refl _)) hcur.size)
  unfold obA at hcall
  replace hcall := Lib.hid hcall
  clear hcur
  refine hcall.out.mono ?_
  clear hcall
  rintro ex wx4w3 ⟨rfl, hbx⟩
  have hSx : (fun w' : World => Below w3.heap.size w3 w' ∧ w'.cell? ⟨n, 0, none⟩ = some (.int .i64 o.k) ∧ w'.cell? ⟨n, 1, none⟩ = some (.int .i64 o.wd) ∧ w'.cell? ⟨n, 2, none⟩ = some (.int .i64 o.s) ∧ w'.cell? ⟨n, 3, none⟩ = some (.int .i64 o.c) ∧ w'.cell? ⟨n, 4, none⟩ = some (.int .u32 o.st) ∧ w'.cell? ⟨n, 5, none⟩ = some (.slice o.I o.ni o.ci) ∧ w'.cell? ⟨n, 6, none⟩ = some (.int .i64 o.wr) ∧ w'.cell? ⟨n, 7, none⟩ = some (.slice o.R o.nr o.cr)) wx4w3 := by
    obtain ⟨h0, u0, u1, u2, u3, u4, u5, u6, u7⟩ := hHeld
    have hk : ∀ {i : Nat} {u : Value}, _ → wx4w3.cell? ⟨n, i, none⟩ = some u := fun {i u} hc => (hbx.cell (p := ⟨n, i, none⟩) (cell_lt hc)).trans hc
    exact ⟨h0.trans (hbx.mono h0.size), hk u0, hk u1, hk u2, hk u3, hk u4, hk u5, hk u6, hk u7⟩
  clear hbx
  refine hK.out _ _ hSx (fun hHeld => ?_)
  clear hK K
  try simp only [Act.put, List.setIfInBounds_toArray, List.set_cons_zero, List.set_cons_succ]
  refine wpAnyH_take (i := 10) (oi := ?_) (v := ?_) ?_ (by kernel_rfl) (by kernel_rfl) (by kernel_rfl) ?_ (Or.inl ⟨?_, ?_⟩) (by assumption) ?_
  rotate_left 2
  · (simp only [List.getElem?_toArray, List.getElem?_cons_succ, List.getElem?_cons_zero]; rfl)
  · first | exact fun _ _ _ h => h | exact fun _ _ _ h => by cases h.1
  · rfl
  · ((intro wq hSq; (try dsimp only at hSq); go_simp); (try with_reducible rfl))
  try simp only [Act.put, List.setIfInBounds_toArray, List.set_cons_zero, List.set_cons_succ]
  refine wpAnyH_take (i := 11) (oi := ?_) (v := ?_) ?_ (by kernel_rfl) (by kernel_rfl) (by kernel_rfl) ?_ (Or.inl ⟨?_, ?_⟩) (by assumption) ?_
  rotate_left 2
  · (simp only [List.getElem?_toArray, List.getElem?_cons_succ, List.getElem?_cons_zero]; rfl)
  · first | exact fun _ _ _ h => h | exact fun _ _ _ h => by cases h.1
  · rfl
  · ((intro wq hSq; (try dsimp only at hSq); go_simp); (try with_reducible rfl))
  try simp only [Act.put, List.setIfInBounds_toArray, List.set_cons_zero, List.set_cons_succ]
  refine wpAnyH_take (i := 12) (oi := ?_) (v := ?_) ?_ (by kernel_rfl) (by kernel_rfl) (by kernel_rfl) ?_ (Or.inl ⟨?_, ?_⟩) (by assumption) ?_
  rotate_left 2
  · (simp only [List.getElem?_toArray, List.getElem?_cons_succ, List.getElem?_cons_zero]; rfl)
  · first | exact fun _ _ _ h => h | exact fun _ _ _ h => by cases h.1
  · rfl
  · ((intro wq hSq; (try dsimp only at hSq); go_simp); (try with_reducible rfl))
  try simp only [Act.put, List.setIfInBounds_toArray, List.set_cons_zero, List.set_cons_succ]
  refine wpAnyH_take (i := 13) (oi := ?_) (v := ?_) ?_ (by kernel_rfl) (by kernel_rfl) (by kernel_rfl) ?_ (Or.inl ⟨?_, ?_⟩) (by assumption) ?_
  rotate_left 2
  · (simp only [List.getElem?_toArray, List.getElem?_cons_succ, List.getElem?_cons_zero]; rfl)
  · first | exact fun _ _ _ h => h | exact fun _ _ _ h => by cases h.1
  · rfl
  · ((intro wq hSq; (try dsimp only at hSq); go_simp); (try with_reducible rfl))
  try simp only [Act.put, List.setIfInBounds_toArray, List.set_cons_zero, List.set_cons_succ]
  refine wpAnyH_take (i := 14) (oi := ?_) (v := ?_) ?_ (by kernel_rfl) (by kernel_rfl) (by kernel_rfl) ?_ (Or.inl ⟨?_, ?_⟩) (by assumption) ?_
  rotate_left 2
  · (simp only [List.getElem?_toArray, List.getElem?_cons_succ, List.getElem?_cons_zero]; rfl)
  · first | exact fun _ _ _ h => h | exact fun _ _ _ h => by cases h.1
  · rfl
  · ((intro wq hSq; (try dsimp only at hSq); go_simp); (try with_reducible rfl))
  try simp only [Act.put, List.setIfInBounds_toArray, List.set_cons_zero, List.set_cons_succ]
  refine wpAnyH_take (i := 15) (oi := ?_) (v := ?_) ?_ (by kernel_rfl) (by kernel_rfl) (by kernel_rfl) ?_ (Or.inl ⟨?_, ?_⟩) (by assumption) ?_
  rotate_left 2
  · (simp only [List.getElem?_toArray, List.getElem?_cons_succ, List.getElem?_cons_zero]; rfl)
  · first | exact fun _ _ _ h => h | exact fun _ _ _ h => by cases h.1
  · rfl
  · ((intro wq hSq; (try dsimp only at hSq); go_simp); (try with_reducible rfl))
  try simp only [Act.put, List.setIfInBounds_toArray, List.set_cons_zero, List.set_cons_succ]
  refine wpAnyH_take (i := 16) (oi := ?_) (v := ?_) ?_ (by kernel_rfl) (by kernel_rfl) (by kernel_rfl) ?_ (Or.inl ⟨?_, ?_⟩) (by assumption) ?_
  rotate_left 2
  · (simp only [List.getElem?_toArray, List.getElem?_cons_succ, List.getElem?_cons_zero]; rfl)
  · first | exact fun _ _ _ h => h | exact fun _ _ _ h => by cases h.1
  · rfl
  · ((intro wq hSq; (try dsimp only at hSq); go_simp); (try with_reducible rfl))
  try simp only [Act.put, List.setIfInBounds_toArray, List.set_cons_zero, List.set_cons_succ]
  refine wpAnyH_take (i := 17) (oi := ?_) (v := ?_) ?_ (by kernel_rfl) (by kernel_rfl) (by kernel_rfl) ?_ (Or.inl ⟨?_, ?_⟩) (by assumption) ?_
  rotate_left 2
  · (simp only [List.getElem?_toArray, List.getElem?_cons_succ, List.getElem?_cons_zero]; rfl)
  · first | exact fun _ _ _ h => h | exact fun _ _ _ h => by cases h.1
  · rfl
  · ((intro wq hSq; (try dsimp only at hSq); go_simp); (try with_reducible rfl))
  try simp only [Act.put, List.setIfInBounds_toArray, List.set_cons_zero, List.set_cons_succ]
  refine wpAnyH_take (i := 18) (oi := ?_) (v := ?_) ?_ (by kernel_rfl) (by kernel_rfl) (by kernel_rfl) ?_ (Or.inl ⟨?_, ?_⟩) (by assumption) ?_
  rotate_left 2
  · (simp only [List.getElem?_toArray, List.getElem?_cons_succ, List.getElem?_cons_zero]; rfl)
  · first | exact fun _ _ _ h => h | exact fun _ _ _ h => by cases h.1
  · rfl
  · ((intro wq hSq; (try dsimp only at hSq); go_simp); (try with_reducible rfl))
  try simp only [Act.put, List.setIfInBounds_toArray, List.set_cons_zero, List.set_cons_succ]
  refine wpAnyH_take (i := 19) (oi := ?_) (v := ?_) ?_ (by kernel_rfl) (by kernel_rfl) (by kernel_rfl) ?_ (Or.inl ⟨?_, ?_⟩) (by assumption) ?_
  rotate_left 2
  · (simp only [List.getElem?_toArray, List.getElem?_cons_succ, List.getElem?_cons_zero]; rfl)
  · first | exact fun _ _ _ h => h | exact fun _ _ _ h => by cases h.1
  · rfl
  · ((intro wq hSq; (try dsimp only at hSq); go_simp); (try with_reducible rfl))
  try simp only [Act.put, List.setIfInBounds_toArray, List.set_cons_zero, List.set_cons_succ]
  refine wpAnyH_take (i := 20) (oi := ?_) (v := ?_) ?_ (by kernel_rfl) (by kernel_rfl) (by kernel_rfl) ?_ (Or.inl ⟨?_, ?_⟩) (by assumption) ?_
  rotate_left 2
  · (simp only [List.getElem?_toArray, List.getElem?_cons_succ, List.getElem?_cons_zero]; rfl)
  · first | exact fun _ _ _ h => h | exact fun _ _ _ h => by cases h.1
  · rfl
  · ((intro wq hSq; (try dsimp only at hSq); go_simp); (try with_reducible rfl))
  try simp only [Act.put, List.setIfInBounds_toArray, List.set_cons_zero, List.set_cons_succ]
  refine wpAnyH_take (i := 21) (oi := ?_) (v := ?_) ?_ (by kernel_rfl) (by kernel_rfl) (by kernel_rfl) ?_ (Or.inl ⟨?_, ?_⟩) (by assumption) ?_
  rotate_left 2
  · (simp only [List.getElem?_toArray, List.getElem?_cons_succ, List.getElem?_cons_zero]; rfl)
  · first | exact fun _ _ _ h => h | exact fun _ _ _ h => by cases h.1
  · rfl
  · ((intro wq hSq; (try dsimp only at hSq); go_simp); (try with_reducible rfl))
  try simp only [Act.put, List.setIfInBounds_toArray, List.set_cons_zero, List.set_cons_succ]
  refine wpAnyH_take (i := 22) (oi := ?_) (v := ?_) ?_ (by kernel_rfl) (by kernel_rfl) (by kernel_rfl) ?_ (Or.inl ⟨?_, ?_⟩) (by assumption) ?_
  rotate_left 2
  · (simp only [List.getElem?_toArray, List.getElem?_cons_succ, List.getElem?_cons_zero]; rfl)
  · first | exact fun _ _ _ h => h | exact fun _ _ _ h => by cases h.1
  · rfl
  · ((intro wq hSq; (try dsimp only at hSq); go_simp); (try with_reducible rfl))
  try simp only [Act.put, List.setIfInBounds_toArray, List.set_cons_zero, List.set_cons_succ]
  refine wpAnyH_take (i := 23) (oi := ?_) (v := ?_) ?_ (by kernel_rfl) (by kernel_rfl) (by kernel_rfl) ?_ (Or.inl ⟨?_, ?_⟩) (by assumption) ?_
  rotate_left 2
  · (simp only [List.getElem?_toArray, List.getElem?_cons_succ, List.getElem?_cons_zero]; rfl)
  · first | exact fun _ _ _ h => h | exact fun _ _ _ h => by cases h.1
  · rfl
  · ((intro wq hSq; (try dsimp only at hSq); go_simp); (try with_reducible rfl))
  try simp only [Act.put, List.setIfInBounds_toArray, List.set_cons_zero, List.set_cons_succ]
  refine wpAnyH_take (i := 24) (oi := ?_) (v := ?_) ?_ (by kernel_rfl) (by kernel_rfl) (by kernel_rfl) ?_ (Or.inl ⟨?_, ?_⟩) (by assumption) ?_
  rotate_left 2
  · (simp only [List.getElem?_toArray, List.getElem?_cons_succ, List.getElem?_cons_zero]; rfl)
  · first | exact fun _ _ _ h => h | exact fun _ _ _ h => by cases h.1
  · rfl
  · ((intro wq hSq; (try dsimp only at hSq); go_simp); (try with_reducible rfl))
  try simp only [Act.put, List.setIfInBounds_toArray, List.set_cons_zero, List.set_cons_succ]
  refine wpAnyH_take (i := 25) (oi := ?_) (v := ?_) ?_ (by kernel_rfl) (by kernel_rfl) (by kernel_rfl) ?_ (Or.inl ⟨?_, ?_⟩) (by assumption) ?_
  rotate_left 2
  · (simp only [List.getElem?_toArray, List.getElem?_cons_succ, List.getElem?_cons_zero]; rfl)
  · first | exact fun _ _ _ h => h | exact fun _ _ _ h => by cases h.1
  · rfl
  · ((intro wq hSq; (try dsimp only at hSq); go_simp); (try with_reducible rfl))
  try simp only [Act.put, List.setIfInBounds_toArray, List.set_cons_zero, List.set_cons_succ]
  refine wpAnyH_take (i := 26) (oi := ?_) (v := ?_) ?_ (by kernel_rfl) (by kernel_rfl) (by kernel_rfl) ?_ (Or.inl ⟨?_, ?_⟩) (by assumption) ?_
  rotate_left 2
  · (simp only [List.getElem?_toArray, List.getElem?_cons_succ, List.getElem?_cons_zero]; rfl)
  · first | exact fun _ _ _ h => h | exact fun _ _ _ h => by cases h.1
  · rfl
  · ((intro wq hSq; (try dsimp only at hSq); go_simp); (try with_reducible rfl))
  try simp only [Act.put, List.setIfInBounds_toArray, List.set_cons_zero, List.set_cons_succ]
  refine wpAnyH_take (i := 27) (oi := ?_) (v := ?_) ?_ (by kernel_rfl) (by kernel_rfl) (by kernel_rfl) ?_ (Or.inl ⟨?_, ?_⟩) (by assumption) ?_
  rotate_left 2
  · (simp only [List.getElem?_toArray, List.getElem?_cons_succ, List.getElem?_cons_zero]; rfl)
  · first | exact fun _ _ _ h => h | exact fun _ _ _ h => by cases h.1
  · rfl
  · ((intro wq hSq; (try dsimp only at hSq); go_simp); (try with_reducible rfl))
  try simp only [Act.put, List.setIfInBounds_toArray, List.set_cons_zero, List.set_cons_succ]
  refine wpAnyH_take (i := 28) (oi := ?_) (v := ?_) ?_ (by kernel_rfl) (by kernel_rfl) (by kernel_rfl) ?_ (Or.inl ⟨?_, ?_⟩) (by assumption) ?_
  rotate_left 2
  · (simp only [List.getElem?_toArray, List.getElem?_cons_succ, List.getElem?_cons_zero]; rfl)
  · first | exact fun _ _ _ h => h | exact fun _ _ _ h => by cases h.1
  · rfl
  · ((intro wq hSq; (try dsimp only at hSq); go_simp); (try with_reducible rfl))
  try simp only [Act.put, List.setIfInBounds_toArray, List.set_cons_zero, List.set_cons_succ]
  refine wpAnyH_take (i := 29) (oi := ?_) (v := ?_) ?_ (by kernel_rfl) (by kernel_rfl) (by kernel_rfl) ?_ (Or.inl ⟨?_, ?_⟩) (by assumption) ?_
  rotate_left 2
  · (simp only [List.getElem?_toArray, List.getElem?_cons_succ, List.getElem?_cons_zero]; rfl)
  · first | exact fun _ _ _ h => h | exact fun _ _ _ h => by cases h.1
  · rfl
  · ((intro wq hSq; (try dsimp only at hSq); go_simp); (try with_reducible rfl))
  try simp only [Act.put, List.setIfInBounds_toArray, List.set_cons_zero, List.set_cons_succ]
  refine wpAnyH_take (i := 30) (oi := ?_) (v := undef) ?_ (by kernel_rfl) (by kernel_rfl) (by kernel_rfl) ?_ (Or.inr ⟨?_, rfl⟩) (by assumption) ?_
  rotate_left 1
  · (simp only [List.getElem?_toArray, List.getElem?_cons_succ, List.getElem?_cons_zero]; rfl)
  · first | exact fun _ _ _ h => h | exact fun _ _ _ h => by cases h.1
  · rfl
  try simp only [Act.put, List.setIfInBounds_toArray, List.set_cons_zero, List.set_cons_succ]
  refine wpAnyH_take (i := 31) (oi := ?_) (v := undef) ?_ (by kernel_rfl) (by kernel_rfl) (by kernel_rfl) ?_ (Or.inr ⟨?_, rfl⟩) (by assumption) ?_
  rotate_left 1
  · (simp only [List.getElem?_toArray, List.getElem?_cons_succ, List.getElem?_cons_zero]; rfl)
  · first | exact fun _ _ _ h => h | exact fun _ _ _ h => by cases h.1
  · rfl
  try simp only [Act.put, List.setIfInBounds_toArray, List.set_cons_zero, List.set_cons_succ]
  refine wpAnyH_take (i := 32) (oi := ?_) (v := ?_) ?_ (by kernel_rfl) (by kernel_rfl) (by kernel_rfl) ?_ (Or.inl ⟨?_, ?_⟩) (by assumption) ?_
  rotate_left 2
  · (simp only [List.getElem?_toArray, List.getElem?_cons_succ, List.getElem?_cons_zero]; rfl)
  · first | exact fun _ _ _ h => h | exact fun _ _ _ h => by cases h.1
  · rfl
  · ((intro wq hSq; (try dsimp only at hSq); go_simp); (try with_reducible rfl))
  try simp only [Act.put, List.setIfInBounds_toArray, List.set_cons_zero, List.set_cons_succ]
  refine wpAnyH_take (i := 33) (oi := ?_) (v := ?_) ?_ (by kernel_rfl) (by kernel_rfl) (by kernel_rfl) ?_ (Or.inl ⟨?_, ?_⟩) (by assumption) ?_
  rotate_left 2
  · (simp only [List.getElem?_toArray, List.getElem?_cons_succ, List.getElem?_cons_zero]; rfl)
  · first | exact fun _ _ _ h => h | exact fun _ _ _ h => by cases h.1
  · rfl
  · ((intro wq hSq; (try dsimp only at hSq); go_simp); (try with_reducible rfl))
  try simp only [Act.put, List.setIfInBounds_toArray, List.set_cons_zero, List.set_cons_succ]
  refine wpAnyH_done (by kernel_rfl) ?_ _
  clear hSd
  obtain ⟨w4, hw4⟩ : ∃ w4, wx4w3 = w4 := ⟨_, rfl⟩
  rw [hw4] at hHeld ⊢
  clear hw4
  have HBXw4 := Lib.hid (HBXw3.out.trans (hHeld.1.mono (by have := HBXw3.out.size; omega)))
  have hlt3 := HO3.out.lt
  have HO4 := Lib.hid (ObX.kept HO3.out hHeld.1)
  clear hHeld
  go_wp2_with fail
  have hSd : (fun w' : World => Below w4.heap.size w4 w' ∧ w'.cell? ⟨n, 0, none⟩ = some (.int .i64 o.k) ∧ w'.cell? ⟨n, 1, none⟩ = some (.int .i64 o.wd) ∧ w'.cell? ⟨n, 2, none⟩ = some (.int .i64 o.s) ∧ w'.cell? ⟨n, 3, none⟩ = some (.int .i64 o.c) ∧ w'.cell? ⟨n, 4, none⟩ = some (.int .u32 o.st) ∧ w'.cell? ⟨n, 5, none⟩ = some (.slice o.I o.ni o.ci) ∧ w'.cell? ⟨n, 6, none⟩ = some (.int .i64 o.wr) ∧ w'.cell? ⟨n, 7, none⟩ = some (.slice o.R o.nr o.cr)) w4.drew := ⟨(Below.refl _ w4).drew, (ObX.kept HO4.out (Below.refl _ w4).drew).cells⟩
  refine wp_region_held_drew (S := (fun w' : World => Below w4.heap.size w4 w' ∧ w'.cell? ⟨n, 0, none⟩ = some (.int .i64 o.k) ∧ w'.cell? ⟨n, 1, none⟩ = some (.int .i64 o.wd) ∧ w'.cell? ⟨n, 2, none⟩ = some (.int .i64 o.s) ∧ w'.cell? ⟨n, 3, none⟩ = some (.int .i64 o.c) ∧ w'.cell? ⟨n, 4, none⟩ = some (.int .u32 o.st) ∧ w'.cell? ⟨n, 5, none⟩ = some (.slice o.I o.ni o.ci) ∧ w'.cell? ⟨n, 6, none⟩ = some (.int .i64 o.wr) ∧ w'.cell? ⟨n, 7, none⟩ = some (.slice o.R o.nr o.cr))) (by kernel_rfl) hSd (fun hHeld => ?_)
  generalize w4.drew = wd at hHeld ⊢
  have hHeld : (fun w' : World => Below w4.heap.size w4 w' ∧ w'.cell? ⟨n, 0, none⟩ = some (.int .i64 o.k) ∧ w'.cell? ⟨n, 1, none⟩ = some (.int .i64 o.wd) ∧ w'.cell? ⟨n, 2, none⟩ = some (.int .i64 o.s) ∧ w'.cell? ⟨n, 3, none⟩ = some (.int .i64 o.c) ∧ w'.cell? ⟨n, 4, none⟩ = some (.int .u32 o.st) ∧ w'.cell? ⟨n, 5, none⟩ = some (.slice o.I o.ni o.ci) ∧ w'.cell? ⟨n, 6, none⟩ = some (.int .i64 o.wr) ∧ w'.cell? ⟨n, 7, none⟩ = some (.slice o.R o.nr o.cr)) wd := hHeld
  refine wpAnyH_take (i := 0) (oi := ?_) (v := ?_) ?_ (by kernel_rfl) (by kernel_rfl) (by kernel_rfl) ?_ (Or.inl ⟨?_, ?_⟩) (by assumption) ?_
  rotate_left 2
  · (simp only [List.getElem?_toArray, List.getElem?_cons_zero]; rfl)
  · first | exact fun _ _ _ h => h | exact fun _ _ _ h => by cases h.1
  · rfl
  · ((intro wq hSq; (try dsimp only at hSq); go_simp); (try with_reducible rfl))
  try simp only [Act.put, List.setIfInBounds_toArray, List.set_cons_zero, List.set_cons_succ]
  refine wpAnyH_take (i := 2) (oi := ?_) (v := ?_) ?_ (by kernel_rfl) (by kernel_rfl) (by kernel_rfl) ?_ (Or.inl ⟨?_, ?_⟩) (by assumption) ?_
  rotate_left 2
  · (simp only [List.getElem?_toArray, List.getElem?_cons_succ, List.getElem?_cons_zero]; rfl)
  · first | exact fun _ _ _ h => h | exact fun _ _ _ h => by cases h.1
  · rfl
  · ((intro wq hSq; (try dsimp only at hSq); go_simp); (try with_reducible rfl))
  try simp only [Act.put, List.setIfInBounds_toArray, List.set_cons_zero, List.set_cons_succ]
  refine wpAnyH_ready (rs := [1]) (by kernel_rfl) (by simp) ?_
  refine AllReadyH.cons (o := ?_) ?_ (fun K hK => ?_) AllReadyH.nil
  rotate_left
  · (simp only [List.getElem?_toArray, List.getElem?_cons_succ, List.getElem?_cons_zero]; rfl)
  go_simp
  go_at_call 16
  have hcur : Below w.heap.size w wd := HBXw4.out.trans (hHeld.1.mono (by have := HBXw4.out.size; omega))
  have hcall := (hS0.out ▸ size_o o HO.out wd)
  unfold obA at hcall
  replace hcall := Lib.hid hcall
  clear hcur
  refine hcall.out.mono ?_
  clear hcall
  rintro ex wx1w4 ⟨rfl, hbx⟩
  have hSx : (fun w' : World => Below w4.heap.size w4 w' ∧ w'.cell? ⟨n, 0, none⟩ = some (.int .i64 o.k) ∧ w'.cell? ⟨n, 1, none⟩ = some (.int .i64 o.wd) ∧ w'.cell? ⟨n, 2, none⟩ = some (.int .i64 o.s) ∧ w'.cell? ⟨n, 3, none⟩ = some (.int .i64 o.c) ∧ w'.cell? ⟨n, 4, none⟩ = some (.int .u32 o.st) ∧ w'.cell? ⟨n, 5, none⟩ = some (.slice o.I o.ni o.ci) ∧ w'.cell? ⟨n, 6, none⟩ = some (.int .i64 o.wr) ∧ w'.cell? ⟨n, 7, none⟩ = some (.slice o.R o.nr o.cr)) wx1w4 := by
    obtain ⟨h0, u0, u1, u2, u3, u4, u5, u6, u7⟩ := hHeld
    have hk : ∀ {i : Nat} {u : Value}, _ → wx1w4.cell? ⟨n, i, none⟩ = some u := fun {i u} hc => (hbx.cell (p := ⟨n, i, none⟩) (cell_lt hc)).trans hc
    exact ⟨h0.trans (hbx.mono h0.size), hk u0, hk u1, hk u2, hk u3, hk u4, hk u5, hk u6, hk u7⟩
  clear hbx
  refine hK.out _ _ hSx (fun hHeld => ?_)
  clear hK K
  try simp only [Act.put, List.setIfInBounds_toArray, List.set_cons_zero, List.set_cons_succ]
  refine wpAnyH_ready (rs := [3]) (by kernel_rfl) (by simp) ?_
  refine AllReadyH.cons (o := ?_) ?_ (fun K hK => ?_) AllReadyH.nil
  rotate_left
  · (simp only [List.getElem?_toArray, List.getElem?_cons_succ, List.getElem?_cons_zero]; rfl)
  go_simp
  go_at_call 36
  have hcur : Below w.heap.size w wx1w4 := HBXw4.out.trans (hHeld.1.mono (by have := HBXw4.out.size; omega))
  have hcall := (hS0.out ▸ rsize_o o HO.out wx1w4)
  unfold obA at hcall
  replace hcall := Lib.hid hcall
  clear hcur
  refine hcall.out.mono ?_
  clear hcall
  rintro ex wx2w4 ⟨rfl, hbx⟩
  have hSx : (fun w' : World => Below w4.heap.size w4 w' ∧ w'.cell? ⟨n, 0, none⟩ = some (.int .i64 o.k) ∧ w'.cell? ⟨n, 1, none⟩ = some (.int .i64 o.wd) ∧ w'.cell? ⟨n, 2, none⟩ = some (.int .i64 o.s) ∧ w'.cell? ⟨n, 3, none⟩ = some (.int .i64 o.c) ∧ w'.cell? ⟨n, 4, none⟩ = some (.int .u32 o.st) ∧ w'.cell? ⟨n, 5, none⟩ = some (.slice o.I o.ni o.ci) ∧ w'.cell? ⟨n, 6, none⟩ = some (.int .i64 o.wr) ∧ w'.cell? ⟨n, 7, none⟩ = some (.slice o.R o.nr o.cr)) wx2w4 := by
    obtain ⟨h0, u0, u1, u2, u3, u4, u5, u6, u7⟩ := hHeld
    have hk : ∀ {i : Nat} {u : Value}, _ → wx2w4.cell? ⟨n, i, none⟩ = some u := fun {i u} hc => (hbx.cell (p := ⟨n, i, none⟩) (cell_lt hc)).trans hc
    exact ⟨h0.trans (hbx.mono h0.size), hk u0, hk u1, hk u2, hk u3, hk u4, hk u5, hk u6, hk u7⟩
  clear hbx
  refine hK.out _ _ hSx (fun hHeld => ?_)
  clear hK K
  try simp only [Act.put, List.setIfInBounds_toArray, List.set_cons_zero, List.set_cons_succ]
  refine wpAnyH_take (i := 4) (oi := ?_) (v := ?_) ?_ (by kernel_rfl) (by kernel_rfl) (by kernel_rfl) ?_ (Or.inl ⟨?_, ?_⟩) (by assumption) ?_
  rotate_left 2
  · (simp only [List.getElem?_toArray, List.getElem?_cons_succ, List.getElem?_cons_zero]; rfl)
  · first | exact fun _ _ _ h => h | exact fun _ _ _ h => by cases h.1
  · rfl
  · ((intro wq hSq; (try dsimp only at hSq); go_simp); (try with_reducible rfl))
  try simp only [Act.put, List.setIfInBounds_toArray, List.set_cons_zero, List.set_cons_succ]
  refine wpAnyH_take (i := 5) (oi := ?_) (v := ?_) ?_ (by kernel_rfl) (by kernel_rfl) (by kernel_rfl) ?_ (Or.inl ⟨?_, ?_⟩) (by assumption) ?_
  rotate_left 2
  · (simp only [List.getElem?_toArray, List.getElem?_cons_succ, List.getElem?_cons_zero]; rfl)
  · first | exact fun _ _ _ h => h | exact fun _ _ _ h => by cases h.1
  · rfl
  · ((intro wq hSq; (try dsimp only at hSq); go_simp); (try with_reducible rfl))
  try simp only [Act.put, List.setIfInBounds_toArray, List.set_cons_zero, List.set_cons_succ]
  refine wpAnyH_take (i := 6) (oi := ?_) (v := ?_) ?_ (by kernel_rfl) (by kernel_rfl) (by kernel_rfl) ?_ (Or.inl ⟨?_, ?_⟩) (by assumption) ?_
  rotate_left 2
  · (simp only [List.getElem?_toArray, List.getElem?_cons_succ, List.getElem?_cons_zero]; rfl)
  · first | exact fun _ _ _ h => h | exact fun _ _ _ h => by cases h.1
  · rfl
  · ((intro wq hSq; (try dsimp only at hSq); go_simp); (try with_reducible rfl))
  try simp only [Act.put, List.setIfInBounds_toArray, List.set_cons_zero, List.set_cons_succ]
  refine wpAnyH_take (i := 8) (oi := ?_) (v := ?_) ?_ (by kernel_rfl) (by kernel_rfl) (by kernel_rfl) ?_ (Or.inl ⟨?_, ?_⟩) (by assumption) ?_
  rotate_left 2
  · (simp only [List.getElem?_toArray, List.getElem?_cons_succ, List.getElem?_cons_zero]; rfl)
  · first | exact fun _ _ _ h => h | exact fun _ _ _ h => by cases h.1
  · rfl
  · ((intro wq hSq; (try dsimp only at hSq); go_simp); (try with_reducible rfl))
  try simp only [Act.put, List.setIfInBounds_toArray, List.set_cons_zero, List.set_cons_succ]
  refine wpAnyH_ready (rs := [7]) (by kernel_rfl) (by simp) ?_
  refine AllReadyH.cons (o := ?_) ?_ (fun K hK => ?_) AllReadyH.nil
  rotate_left
  · (simp only [List.getElem?_toArray, List.getElem?_cons_succ, List.getElem?_cons_zero]; rfl)
  go_simp
  go_at_call 37
  have hcur : Below w.heap.size w wx2w4 := HBXw4.out.trans (hHeld.1.mono (by have := HBXw4.out.size; omega))
  have hcall := (hL0.out ▸ lay_o o HO.out l w.heap.size wx2w4 HLl.out (HIw.out.below hcur (Nat.le_refl _)) hcur.size)
  unfold obA at hcall
  replace hcall := Lib.hid hcall
  clear hcur
  refine hcall.out.mono ?_
  clear hcall
  rintro ex wx3w4 ⟨A1, c1, rfl, hcap, hws, hbx⟩
  have hSx : (fun w' : World => Below w4.heap.size w4 w' ∧ w'.cell? ⟨n, 0, none⟩ = some (.int .i64 o.k) ∧ w'.cell? ⟨n, 1, none⟩ = some (.int .i64 o.wd) ∧ w'.cell? ⟨n, 2, none⟩ = some (.int .i64 o.s) ∧ w'.cell? ⟨n, 3, none⟩ = some (.int .i64 o.c) ∧ w'.cell? ⟨n, 4, none⟩ = some (.int .u32 o.st) ∧ w'.cell? ⟨n, 5, none⟩ = some (.slice o.I o.ni o.ci) ∧ w'.cell? ⟨n, 6, none⟩ = some (.int .i64 o.wr) ∧ w'.cell? ⟨n, 7, none⟩ = some (.slice o.R o.nr o.cr)) wx3w4 := by
    obtain ⟨h0, u0, u1, u2, u3, u4, u5, u6, u7⟩ := hHeld
    have hk : ∀ {i : Nat} {u : Value}, _ → wx3w4.cell? ⟨n, i, none⟩ = some u := fun {i u} hc => (hbx.cell (p := ⟨n, i, none⟩) (cell_lt hc)).trans hc
    exact ⟨h0.trans (hbx.mono h0.size), hk u0, hk u1, hk u2, hk u3, hk u4, hk u5, hk u6, hk u7⟩
  have HW1 := Lib.hid hws
  clear hws hcap
  clear hbx
  refine hK.out _ _ hSx (fun hHeld => ?_)
  clear hK K
  try simp only [Act.put, List.setIfInBounds_toArray, List.set_cons_zero, List.set_cons_succ]
  refine wpAnyH_ready (rs := [9]) (by kernel_rfl) (by simp) ?_
  refine AllReadyH.cons (o := ?_) ?_ (fun K hK => ?_) AllReadyH.nil
  rotate_left
  · (simp only [List.getElem?_toArray, List.getElem?_cons_succ, List.getElem?_cons_zero]; rfl)
  go_simp
  go_at_call 38
  have hcur : Below w.heap.size w wx3w4 := HBXw4.out.trans (hHeld.1.mono (by have := HBXw4.out.size; omega))
  have hcall := (hL0.out ▸ rlay_o o HO.out l w.heap.size wx3w4 HLl.out (HIw.out.below hcur (Nat.le_refl _)) hcur.size)
  unfold obA at hcall
  replace hcall := Lib.hid hcall
  clear hcur
  refine hcall.out.mono ?_
  clear hcall
  rintro ex wx4w4 ⟨A2, c2, rfl, hcap, hws, hbx⟩
  have hSx : (fun w' : World => Below w4.heap.size w4 w' ∧ w'.cell? ⟨n, 0, none⟩ = some (.int .i64 o.k) ∧ w'.cell? ⟨n, 1, none⟩ = some (.int .i64 o.wd) ∧ w'.cell? ⟨n, 2, none⟩ = some (.int .i64 o.s) ∧ w'.cell? ⟨n, 3, none⟩ = some (.int .i64 o.c) ∧ w'.cell? ⟨n, 4, none⟩ = some (.int .u32 o.st) ∧ w'.cell? ⟨n, 5, none⟩ = some (.slice o.I o.ni o.ci) ∧ w'.cell? ⟨n, 6, none⟩ = some (.int .i64 o.wr) ∧ w'.cell? ⟨n, 7, none⟩ = some (.slice o.R o.nr o.cr)) wx4w4 := by
    obtain ⟨h0, u0, u1, u2, u3, u4, u5, u6, u7⟩ := hHeld
    have hk : ∀ {i : Nat} {u : Value}, _ → wx4w4.cell? ⟨n, i, none⟩ = some u := fun {i u} hc => (hbx.cell (p := ⟨n, i, none⟩) (cell_lt hc)).trans hc
    exact ⟨h0.trans (hbx.mono h0.size), hk u0, hk u1, hk u2, hk u3, hk u4, hk u5, hk u6, hk u7⟩
  replace HW1 := Lib.hid (HW1.out.below hbx hbx.size)
  have HW2 := Lib.hid hws
  clear hws hcap
  clear hbx
  refine hK.out _ _ hSx (fun hHeld => ?_)
  clear hK K
  try simp only [Act.put, List.setIfInBounds_toArray, List.set_cons_zero, List.set_cons_succ]
  refine wpAnyH_ready (rs := [10]) (by kernel_rfl) (by simp) ?_
  refine AllReadyH.cons (o := ?_) ?_ (fun K hK => ?_) AllReadyH.nil
  rotate_left
  · (simp only [List.getElem?_toArray, List.getElem?_cons_succ, List.getElem?_cons_zero]; rfl)
  go_simp
  go_at_call 27
  have hcur : Below w.heap.size w wx4w4 := HBXw4.out.trans (hHeld.1.mono (by have := HBXw4.out.size; omega))
  have hcall := pwords_any A1 A2 c1 c2 L L wx4w4 (by have := HLE.out; omega) (by have := HLE.out; omega) HW1.out HW2.out
  unfold obA at hcall
  replace hcall := Lib.hid hcall
  clear hcur
  refine hcall.out.mono ?_
  clear hcall
  rintro ex wx5w4 ⟨rfl, hbx⟩
  have hSx : (fun w' : World => Below w4.heap.size w4 w' ∧ w'.cell? ⟨n, 0, none⟩ = some (.int .i64 o.k) ∧ w'.cell? ⟨n, 1, none⟩ = some (.int .i64 o.wd) ∧ w'.cell? ⟨n, 2, none⟩ = some (.int .i64 o.s) ∧ w'.cell? ⟨n, 3, none⟩ = some (.int .i64 o.c) ∧ w'.cell? ⟨n, 4, none⟩ = some (.int .u32 o.st) ∧ w'.cell? ⟨n, 5, none⟩ = some (.slice o.I o.ni o.ci) ∧ w'.cell? ⟨n, 6, none⟩ = some (.int .i64 o.wr) ∧ w'.cell? ⟨n, 7, none⟩ = some (.slice o.R o.nr o.cr)) wx5w4 := by
    obtain ⟨h0, u0, u1, u2, u3, u4, u5, u6, u7⟩ := hHeld
    have hk : ∀ {i : Nat} {u : Value}, _ → wx5w4.cell? ⟨n, i, none⟩ = some u := fun {i u} hc => (hbx.cell (p := ⟨n, i, none⟩) (cell_lt hc)).trans hc
    exact ⟨h0.trans (hbx.mono h0.size), hk u0, hk u1, hk u2, hk u3, hk u4, hk u5, hk u6, hk u7⟩
  replace HW1 := Lib.hid (HW1.out.below hbx hbx.size)
  replace HW2 := Lib.hid (HW2.out.below hbx hbx.size)
  clear hbx
  refine hK.out _ _ hSx (fun hHeld => ?_)
  clear hK K
  try simp only [Act.put, List.setIfInBounds_toArray, List.set_cons_zero, List.set_cons_succ]
  refine wpAnyH_take (i := 11) (oi := ?_) (v := ?_) ?_ (by kernel_rfl) (by kernel_rfl) (by kernel_rfl) ?_ (Or.inl ⟨?_, ?_⟩) (by assumption) ?_
  rotate_left 2
  · (simp only [List.getElem?_toArray, List.getElem?_cons_succ, List.getElem?_cons_zero]; rfl)
  · first | exact fun _ _ _ h => h | exact fun _ _ _ h => by cases h.1
  · rfl
  · ((intro wq hSq; (try dsimp only at hSq); go_simp); (try with_reducible rfl))
  try simp only [Act.put, List.setIfInBounds_toArray, List.set_cons_zero, List.set_cons_succ]
  refine wpAnyH_take (i := 12) (oi := ?_) (v := ?_) ?_ (by kernel_rfl) (by kernel_rfl) (by kernel_rfl) ?_ (Or.inl ⟨?_, ?_⟩) (by assumption) ?_
  rotate_left 2
  · (simp only [List.getElem?_toArray, List.getElem?_cons_succ, List.getElem?_cons_zero]; rfl)
  · first | exact fun _ _ _ h => h | exact fun _ _ _ h => by cases h.1
  · rfl
  · ((intro wq hSq; (try dsimp only at hSq); go_simp); (try with_reducible rfl))
  try simp only [Act.put, List.setIfInBounds_toArray, List.set_cons_zero, List.set_cons_succ]
  refine wpAnyH_take (i := 13) (oi := ?_) (v := ?_) ?_ (by kernel_rfl) (by kernel_rfl) (by kernel_rfl) ?_ (Or.inl ⟨?_, ?_⟩) (by assumption) ?_
  rotate_left 2
  · (simp only [List.getElem?_toArray, List.getElem?_cons_succ, List.getElem?_cons_zero]; rfl)
  · first | exact fun _ _ _ h => h | exact fun _ _ _ h => by cases h.1
  · rfl
  · ((intro wq hSq; (try dsimp only at hSq); go_simp); (try with_reducible rfl))
  try simp only [Act.put, List.setIfInBounds_toArray, List.set_cons_zero, List.set_cons_succ]
  refine wpAnyH_take (i := 14) (oi := ?_) (v := ?_) ?_ (by kernel_rfl) (by kernel_rfl) (by kernel_rfl) ?_ (Or.inl ⟨?_, ?_⟩) (by assumption) ?_
  rotate_left 2
  · (simp only [List.getElem?_toArray, List.getElem?_cons_succ, List.getElem?_cons_zero]; rfl)
  · first | exact fun _ _ _ h => h | exact fun _ _ _ h => by cases h.1
  · rfl
  · ((intro wq hSq; (try dsimp only at hSq); go_simp); (try with_reducible rfl))
  try simp only [Act.put, List.setIfInBounds_toArray, List.set_cons_zero, List.set_cons_succ]
  refine wpAnyH_take (i := 16) (oi := ?_) (v := ?_) ?_ (by kernel_rfl) (by kernel_rfl) (by kernel_rfl) ?_ (Or.inl ⟨?_, ?_⟩) (by assumption) ?_
  rotate_left 2
  · (simp only [List.getElem?_toArray, List.getElem?_cons_succ, List.getElem?_cons_zero]; rfl)
  · first | exact fun _ _ _ h => h | exact fun _ _ _ h => by cases h.1
  · rfl
  · ((intro wq hSq; (try dsimp only at hSq); go_simp); (try with_reducible rfl))
  try simp only [Act.put, List.setIfInBounds_toArray, List.set_cons_zero, List.set_cons_succ]
  refine wpAnyH_take (i := 17) (oi := ?_) (v := ?_) ?_ (by kernel_rfl) (by kernel_rfl) (by kernel_rfl) ?_ (Or.inl ⟨?_, ?_⟩) (by assumption) ?_
  rotate_left 2
  · (simp only [List.getElem?_toArray, List.getElem?_cons_succ, List.getElem?_cons_zero]; rfl)
  · first | exact fun _ _ _ h => h | exact fun _ _ _ h => by cases h.1
  · rfl
  · ((intro wq hSq; (try dsimp only at hSq); go_simp); (try with_reducible rfl))
  try simp only [Act.put, List.setIfInBounds_toArray, List.set_cons_zero, List.set_cons_succ]
  refine wpAnyH_ready (rs := [15]) (by kernel_rfl) (by simp) ?_
  refine AllReadyH.cons (o := ?_) ?_ (fun K hK => ?_) AllReadyH.nil
  rotate_left
  · (simp only [List.getElem?_toArray, List.getElem?_cons_succ, List.getElem?_cons_zero]; rfl)
  go_simp
  go_at_call 19
  have hcur : Below w.heap.size w wx5w4 := HBXw4.out.trans (hHeld.1.mono (by have := HBXw4.out.size; omega))
  have hcall := (hB0.out ▸ bound_o o HO.out op wx5w4)
  unfold obA at hcall
  replace hcall := Lib.hid hcall
  clear hcur
  refine hcall.out.mono ?_
  clear hcall
  rintro ex wx6w4 ⟨rfl, hbx⟩
  have hSx : (fun w' : World => Below w4.heap.size w4 w' ∧ w'.cell? ⟨n, 0, none⟩ = some (.int .i64 o.k) ∧ w'.cell? ⟨n, 1, none⟩ = some (.int .i64 o.wd) ∧ w'.cell? ⟨n, 2, none⟩ = some (.int .i64 o.s) ∧ w'.cell? ⟨n, 3, none⟩ = some (.int .i64 o.c) ∧ w'.cell? ⟨n, 4, none⟩ = some (.int .u32 o.st) ∧ w'.cell? ⟨n, 5, none⟩ = some (.slice o.I o.ni o.ci) ∧ w'.cell? ⟨n, 6, none⟩ = some (.int .i64 o.wr) ∧ w'.cell? ⟨n, 7, none⟩ = some (.slice o.R o.nr o.cr)) wx6w4 := by
    obtain ⟨h0, u0, u1, u2, u3, u4, u5, u6, u7⟩ := hHeld
    have hk : ∀ {i : Nat} {u : Value}, _ → wx6w4.cell? ⟨n, i, none⟩ = some u := fun {i u} hc => (hbx.cell (p := ⟨n, i, none⟩) (cell_lt hc)).trans hc
    exact ⟨h0.trans (hbx.mono h0.size), hk u0, hk u1, hk u2, hk u3, hk u4, hk u5, hk u6, hk u7⟩
  replace HW1 := Lib.hid (HW1.out.below hbx hbx.size)
  replace HW2 := Lib.hid (HW2.out.below hbx hbx.size)
  clear hbx
  refine hK.out _ _ hSx (fun hHeld => ?_)
  clear hK K
  try simp only [Act.put, List.setIfInBounds_toArray, List.set_cons_zero, List.set_cons_succ]
  refine wpAnyH_ready (rs := [18]) (by kernel_rfl) (by simp) ?_
  refine AllReadyH.cons (o := ?_) ?_ (fun K hK => ?_) AllReadyH.nil
  rotate_left
  · (simp only [List.getElem?_toArray, List.getElem?_cons_succ, List.getElem?_cons_zero]; rfl)
  go_simp
  go_at_call 39
  have hcur : Below w.heap.size w wx6w4 := HBXw4.out.trans (hHeld.1.mono (by have := HBXw4.out.size; omega))
  have hcall := (hB0.out ▸ rbound_o o HO.out op wx6w4)
  unfold obA at hcall
  replace hcall := Lib.hid hcall
  clear hcur
  refine hcall.out.mono ?_
  clear hcall
  rintro ex wx7w4 ⟨rfl, hbx⟩
  have hSx : (fun w' : World => Below w4.heap.size w4 w' ∧ w'.cell? ⟨n, 0, none⟩ = some (.int .i64 o.k) ∧ w'.cell? ⟨n, 1, none⟩ = some (.int .i64 o.wd) ∧ w'.cell? ⟨n, 2, none⟩ = some (.int .i64 o.s) ∧ w'.cell? ⟨n, 3, none⟩ = some (.int .i64 o.c) ∧ w'.cell? ⟨n, 4, none⟩ = some (.int .u32 o.st) ∧ w'.cell? ⟨n, 5, none⟩ = some (.slice o.I o.ni o.ci) ∧ w'.cell? ⟨n, 6, none⟩ = some (.int .i64 o.wr) ∧ w'.cell? ⟨n, 7, none⟩ = some (.slice o.R o.nr o.cr)) wx7w4 := by
    obtain ⟨h0, u0, u1, u2, u3, u4, u5, u6, u7⟩ := hHeld
    have hk : ∀ {i : Nat} {u : Value}, _ → wx7w4.cell? ⟨n, i, none⟩ = some u := fun {i u} hc => (hbx.cell (p := ⟨n, i, none⟩) (cell_lt hc)).trans hc
    exact ⟨h0.trans (hbx.mono h0.size), hk u0, hk u1, hk u2, hk u3, hk u4, hk u5, hk u6, hk u7⟩
  replace HW1 := Lib.hid (HW1.out.below hbx hbx.size)
  replace HW2 := Lib.hid (HW2.out.below hbx hbx.size)
  clear hbx
  refine hK.out _ _ hSx (fun hHeld => ?_)
  clear hK K
  try simp only [Act.put, List.setIfInBounds_toArray, List.set_cons_zero, List.set_cons_succ]
  refine wpAnyH_take (i := 19) (oi := ?_) (v := ?_) ?_ (by kernel_rfl) (by kernel_rfl) (by kernel_rfl) ?_ (Or.inl ⟨?_, ?_⟩) (by assumption) ?_
  rotate_left 2
  · (simp only [List.getElem?_toArray, List.getElem?_cons_succ, List.getElem?_cons_zero]; rfl)
  · first | exact fun _ _ _ h => h | exact fun _ _ _ h => by cases h.1
  · rfl
  · ((intro wq hSq; (try dsimp only at hSq); go_simp); (try with_reducible rfl))
  try simp only [Act.put, List.setIfInBounds_toArray, List.set_cons_zero, List.set_cons_succ]
  refine wpAnyH_take (i := 20) (oi := ?_) (v := ?_) ?_ (by kernel_rfl) (by kernel_rfl) (by kernel_rfl) ?_ (Or.inl ⟨?_, ?_⟩) (by assumption) ?_
  rotate_left 2
  · (simp only [List.getElem?_toArray, List.getElem?_cons_succ, List.getElem?_cons_zero]; rfl)
  · first | exact fun _ _ _ h => h | exact fun _ _ _ h => by cases h.1
  · rfl
  · ((intro wq hSq; (try dsimp only at hSq); go_simp); (try with_reducible rfl))
  try simp only [Act.put, List.setIfInBounds_toArray, List.set_cons_zero, List.set_cons_succ]
  refine wpAnyH_take (i := 21) (oi := ?_) (v := ?_) ?_ (by kernel_rfl) (by kernel_rfl) (by kernel_rfl) ?_ (Or.inl ⟨?_, ?_⟩) (by assumption) ?_
  rotate_left 2
  · (simp only [List.getElem?_toArray, List.getElem?_cons_succ, List.getElem?_cons_zero]; rfl)
  · first | exact fun _ _ _ h => h | exact fun _ _ _ h => by cases h.1
  · rfl
  · ((intro wq hSq; (try dsimp only at hSq); go_simp); (try with_reducible rfl))
  try simp only [Act.put, List.setIfInBounds_toArray, List.set_cons_zero, List.set_cons_succ]
  refine wpAnyH_ready (rs := [22]) (by kernel_rfl) (by simp) ?_
  refine AllReadyH.cons (o := ?_) ?_ (fun K hK => ?_) AllReadyH.nil
  rotate_left
  · (simp only [List.getElem?_toArray, List.getElem?_cons_succ, List.getElem?_cons_zero]; rfl)
  go_simp
  go_at_call 7
  have hcur : Below w.heap.size w wx7w4 := HBXw4.out.trans (hHeld.1.mono (by have := HBXw4.out.size; omega))
  have hcall := kawake_any wx7w4
  unfold obA at hcall
  replace hcall := Lib.hid hcall
  clear hcur
  refine hcall.out.mono ?_
  clear hcall
  rintro ex wx8w4 ⟨rfl, hbx⟩
  have hSx : (fun w' : World => Below w4.heap.size w4 w' ∧ w'.cell? ⟨n, 0, none⟩ = some (.int .i64 o.k) ∧ w'.cell? ⟨n, 1, none⟩ = some (.int .i64 o.wd) ∧ w'.cell? ⟨n, 2, none⟩ = some (.int .i64 o.s) ∧ w'.cell? ⟨n, 3, none⟩ = some (.int .i64 o.c) ∧ w'.cell? ⟨n, 4, none⟩ = some (.int .u32 o.st) ∧ w'.cell? ⟨n, 5, none⟩ = some (.slice o.I o.ni o.ci) ∧ w'.cell? ⟨n, 6, none⟩ = some (.int .i64 o.wr) ∧ w'.cell? ⟨n, 7, none⟩ = some (.slice o.R o.nr o.cr)) wx8w4 := by
    obtain ⟨h0, u0, u1, u2, u3, u4, u5, u6, u7⟩ := hHeld
    have hk : ∀ {i : Nat} {u : Value}, _ → wx8w4.cell? ⟨n, i, none⟩ = some u := fun {i u} hc => (hbx.cell (p := ⟨n, i, none⟩) (cell_lt hc)).trans hc
    exact ⟨h0.trans (hbx.mono h0.size), hk u0, hk u1, hk u2, hk u3, hk u4, hk u5, hk u6, hk u7⟩
  replace HW1 := Lib.hid (HW1.out.below hbx hbx.size)
  replace HW2 := Lib.hid (HW2.out.below hbx hbx.size)
  clear hbx
  refine hK.out _ _ hSx (fun hHeld => ?_)
  clear hK K
  try simp only [Act.put, List.setIfInBounds_toArray, List.set_cons_zero, List.set_cons_succ]
  refine wpAnyH_take (i := 23) (oi := ?_) (v := ?_) ?_ (by kernel_rfl) (by kernel_rfl) (by kernel_rfl) ?_ (Or.inl ⟨?_, ?_⟩) (by assumption) ?_
  rotate_left 2
  · (simp only [List.getElem?_toArray, List.getElem?_cons_succ, List.getElem?_cons_zero]; rfl)
  · first | exact fun _ _ _ h => h | exact fun _ _ _ h => by cases h.1
  · rfl
  · ((intro wq hSq; (try dsimp only at hSq); go_simp); (try with_reducible rfl))
  try simp only [Act.put, List.setIfInBounds_toArray, List.set_cons_zero, List.set_cons_succ]
  refine wpAnyH_take (i := 24) (oi := ?_) (v := ?_) ?_ (by kernel_rfl) (by kernel_rfl) (by kernel_rfl) ?_ (Or.inl ⟨?_, ?_⟩) (by assumption) ?_
  rotate_left 2
  · (simp only [List.getElem?_toArray, List.getElem?_cons_succ, List.getElem?_cons_zero]; rfl)
  · first | exact fun _ _ _ h => h | exact fun _ _ _ h => by cases h.1
  · rfl
  · ((intro wq hSq; (try dsimp only at hSq); go_simp); (try with_reducible rfl))
  try simp only [Act.put, List.setIfInBounds_toArray, List.set_cons_zero, List.set_cons_succ]
  refine wpAnyH_done (by kernel_rfl) ?_ _
  clear hSd
  go_wp2_with fail
  go_ret
  exact ⟨rfl, by rw [← hn0]; exact HBXw4.out.trans (hHeld.1.mono (by have := HBXw4.out.size; omega))⟩
set_option maxRecDepth 100000 in
set_option maxHeartbeats 8000000 in
theorem shapes_n (o : Ob) (ho : o.Ok) (l r : List Int) (op t : Int) (w : World) (hl : o.ni = l.length) (hr : o.nr = r.length) (hI : Ws w w.heap.size o.I l) (hR : Is w w.heap.size o.R r) (hw : ∀ x ∈ o.wr :: r, (Lit.int .i64 x).wf = true) (hsm : o.ni ≤ 100 ∧ o.nr ≤ 100) (hq0 : ridx r t = -1) : Calls Tryz.prog 6 #[.agg (obA o), .int .i64 op, .int .i64 t] w fun e w' => e = .returned (.bool true) ∧ Below w.heap.size w w' := by
  have hn1 : r.length ≤ 1000000 := by omega
  have hsmall := fun W => small_o o W
  rw [decide_eq_true hsm] at hsmall
  have hrd := fun W (hb : Below w.heap.size w W) => reader_o o r t w.heap.size W hr hn1 (hR.below hb (Nat.le_refl _)) hb.size
  have hrr := fun W (hb : Below w.heap.size w W) => rreader_o o r t w.heap.size W hr hn1 (hR.below hb (Nat.le_refl _)) hb.size
  have HIw := Lib.hid hI
  have HRw := Lib.hid hR
  have HLl := Lib.hid hl
  have HRr := Lib.hid hr
  have HWw := Lib.hid hw
  have HN1 := Lib.hid hn1
  have HLE := Lib.hid (layZ_le (o := o) hl)
  have HO := Lib.hid ho
  obtain ⟨q, hq⟩ : ∃ q, ridx r t = q := ⟨_, rfl⟩
  rw [hq] at hrd hrr hq0
  clear hq
  subst hq0
  simp only [if_neg (show ¬ (0 : Int) ≤ -1 by omega), decide_eq_false (show ¬ (0 : Int) ≤ -1 by omega)] at hrd
  obtain ⟨SZ, hSZ⟩ : ∃ SZ, sizeZ o = SZ := ⟨_, rfl⟩
  obtain ⟨BD, hBD⟩ : ∃ BD, boundZ o op = BD := ⟨_, rfl⟩
  obtain ⟨L, hL⟩ : ∃ L, layZ o l = L := ⟨_, rfl⟩
  rw [hL] at HLE
  obtain ⟨an, han⟩ : ∃ an, decide (anyR o) = an := ⟨_, rfl⟩
  obtain ⟨ri, hri⟩ : ∃ ri, decide (rightZ o r) = ri := ⟨_, rfl⟩
  have hS0 := Lib.hid hSZ
  have hB0 := Lib.hid hBD
  have hL0 := Lib.hid hL
  have hA0 := Lib.hid han
  have hR0 := Lib.hid hri
  clear hSZ hBD hL han hri
  unfold obA at hsmall hrd hrr
  have HSM := Lib.hid hsmall
  have HRD := Lib.hid hrd
  have HRR := Lib.hid hrr
  clear hsmall hrd hrr hI hR hl hr hw hn1 hsm ho
  have hn := ObX.new w o
  have hB := (Below.refl w.heap.size w).alloc (Nat.le_refl _) (.cells (obA o) 36)
  unfold obA at hn hB
  obtain ⟨n, hn0⟩ : ∃ n, w.heap.size = n := ⟨_, rfl⟩
  rw [hn0] at hn
  have HN := Lib.hid hn
  have HB := Lib.hid hB
  clear hn hB
  unfold obA
  go_enter Tryz.func6, Tryz.ntmps6
  go_wp2_with fail
  refine (HSM.out _).mono ?_
  rintro e w1 ⟨rfl, hb1⟩
  have ho1 := ObX.kept HN.out hb1
  have hB1 := HB.out.trans (hb1.mono (by have := HB.out.size; omega))
  obtain ⟨d0, d1, d2, d3, d4, d5, d6, d7⟩ := ho1.cells
  have HB1 := Lib.hid hB1
  have HO1 := Lib.hid ho1
  clear hB1 ho1 hb1
  go_wp2_with fail
  refine (HRD.out _ HB1.out).mono ?_
  rintro e w2 ⟨rfl, hb2⟩
  have ho2 := ObX.kept HO1.out hb2
  have hB2 := HB1.out.trans (hb2.mono (by have := HB1.out.size; omega))
  clear d0 d1 d2 d3 d4 d5 d6 d7
  obtain ⟨d0, d1, d2, d3, d4, d5, d6, d7⟩ := ho2.cells
  have HB2 := Lib.hid hB2
  have HO2 := Lib.hid ho2
  clear hB2 ho2 hb2
  go_wp2_with fail
  refine (HRR.out _ HB2.out).mono ?_
  rintro e w3 ⟨rfl, hb3⟩
  have ho3 := ObX.kept HO2.out hb3
  have HBXw3 := Lib.hid (HB2.out.trans (hb3.mono (by have := HB2.out.size; omega)))
  have HO3 := Lib.hid ho3
  clear ho3 hb3 d0 d1 d2 d3 d4 d5 d6 d7 HB1 HO1 HB2 HO2
  go_wp2_with fail
  have hSd : (fun w' : World => Below w3.heap.size w3 w' ∧ w'.cell? ⟨n, 0, none⟩ = some (.int .i64 o.k) ∧ w'.cell? ⟨n, 1, none⟩ = some (.int .i64 o.wd) ∧ w'.cell? ⟨n, 2, none⟩ = some (.int .i64 o.s) ∧ w'.cell? ⟨n, 3, none⟩ = some (.int .i64 o.c) ∧ w'.cell? ⟨n, 4, none⟩ = some (.int .u32 o.st) ∧ w'.cell? ⟨n, 5, none⟩ = some (.slice o.I o.ni o.ci) ∧ w'.cell? ⟨n, 6, none⟩ = some (.int .i64 o.wr) ∧ w'.cell? ⟨n, 7, none⟩ = some (.slice o.R o.nr o.cr)) w3.drew := ⟨(Below.refl _ w3).drew, (ObX.kept HO3.out (Below.refl _ w3).drew).cells⟩
  refine wp_region_held_drew (S := (fun w' : World => Below w3.heap.size w3 w' ∧ w'.cell? ⟨n, 0, none⟩ = some (.int .i64 o.k) ∧ w'.cell? ⟨n, 1, none⟩ = some (.int .i64 o.wd) ∧ w'.cell? ⟨n, 2, none⟩ = some (.int .i64 o.s) ∧ w'.cell? ⟨n, 3, none⟩ = some (.int .i64 o.c) ∧ w'.cell? ⟨n, 4, none⟩ = some (.int .u32 o.st) ∧ w'.cell? ⟨n, 5, none⟩ = some (.slice o.I o.ni o.ci) ∧ w'.cell? ⟨n, 6, none⟩ = some (.int .i64 o.wr) ∧ w'.cell? ⟨n, 7, none⟩ = some (.slice o.R o.nr o.cr))) (by kernel_rfl) hSd (fun hHeld => ?_)
  generalize w3.drew = wd at hHeld ⊢
  have hHeld : (fun w' : World => Below w3.heap.size w3 w' ∧ w'.cell? ⟨n, 0, none⟩ = some (.int .i64 o.k) ∧ w'.cell? ⟨n, 1, none⟩ = some (.int .i64 o.wd) ∧ w'.cell? ⟨n, 2, none⟩ = some (.int .i64 o.s) ∧ w'.cell? ⟨n, 3, none⟩ = some (.int .i64 o.c) ∧ w'.cell? ⟨n, 4, none⟩ = some (.int .u32 o.st) ∧ w'.cell? ⟨n, 5, none⟩ = some (.slice o.I o.ni o.ci) ∧ w'.cell? ⟨n, 6, none⟩ = some (.int .i64 o.wr) ∧ w'.cell? ⟨n, 7, none⟩ = some (.slice o.R o.nr o.cr)) wd := hHeld
  refine wpAnyH_take (i := 0) (oi := ?_) (v := ?_) ?_ (by kernel_rfl) (by kernel_rfl) (by kernel_rfl) ?_ (Or.inl ⟨?_, ?_⟩) (by assumption) ?_
  rotate_left 2
  · (simp only [List.getElem?_toArray, List.getElem?_cons_zero]; rfl)
  · first | exact fun _ _ _ h => h | exact fun _ _ _ h => by cases h.1
  · rfl
  · ((intro wq hSq; (try dsimp only at hSq); go_simp); (try with_reducible rfl))
  try simp only [Act.put, List.setIfInBounds_toArray, List.set_cons_zero, List.set_cons_succ]
  refine wpAnyH_take (i := 2) (oi := ?_) (v := ?_) ?_ (by kernel_rfl) (by kernel_rfl) (by kernel_rfl) ?_ (Or.inl ⟨?_, ?_⟩) (by assumption) ?_
  rotate_left 2
  · (simp only [List.getElem?_toArray, List.getElem?_cons_succ, List.getElem?_cons_zero]; rfl)
  · first | exact fun _ _ _ h => h | exact fun _ _ _ h => by cases h.1
  · rfl
  · ((intro wq hSq; (try dsimp only at hSq); go_simp); (try with_reducible rfl))
  try simp only [Act.put, List.setIfInBounds_toArray, List.set_cons_zero, List.set_cons_succ]
  refine wpAnyH_ready (rs := [1]) (by kernel_rfl) (by simp) ?_
  refine AllReadyH.cons (o := ?_) ?_ (fun K hK => ?_) AllReadyH.nil
  rotate_left
  · (simp only [List.getElem?_toArray, List.getElem?_cons_succ, List.getElem?_cons_zero]; rfl)
  go_simp
  go_at_call 32
  have hcur : Below w.heap.size w wd := HBXw3.out.trans (hHeld.1.mono (by have := HBXw3.out.size; omega))
  have hcall := (hA0.out ▸ shaped_o o HO.out wd)
  unfold obA at hcall
  replace hcall := Lib.hid hcall
  clear hcur
  refine hcall.out.mono ?_
  clear hcall
  rintro ex wx1w3 ⟨rfl, hbx⟩
  have hSx : (fun w' : World => Below w3.heap.size w3 w' ∧ w'.cell? ⟨n, 0, none⟩ = some (.int .i64 o.k) ∧ w'.cell? ⟨n, 1, none⟩ = some (.int .i64 o.wd) ∧ w'.cell? ⟨n, 2, none⟩ = some (.int .i64 o.s) ∧ w'.cell? ⟨n, 3, none⟩ = some (.int .i64 o.c) ∧ w'.cell? ⟨n, 4, none⟩ = some (.int .u32 o.st) ∧ w'.cell? ⟨n, 5, none⟩ = some (.slice o.I o.ni o.ci) ∧ w'.cell? ⟨n, 6, none⟩ = some (.int .i64 o.wr) ∧ w'.cell? ⟨n, 7, none⟩ = some (.slice o.R o.nr o.cr)) wx1w3 := by
    obtain ⟨h0, u0, u1, u2, u3, u4, u5, u6, u7⟩ := hHeld
    have hk : ∀ {i : Nat} {u : Value}, _ → wx1w3.cell? ⟨n, i, none⟩ = some u := fun {i u} hc => (hbx.cell (p := ⟨n, i, none⟩) (cell_lt hc)).trans hc
    exact ⟨h0.trans (hbx.mono h0.size), hk u0, hk u1, hk u2, hk u3, hk u4, hk u5, hk u6, hk u7⟩
  clear hbx
  refine hK.out _ _ hSx (fun hHeld => ?_)
  clear hK K
  try simp only [Act.put, List.setIfInBounds_toArray, List.set_cons_zero, List.set_cons_succ]
  refine wpAnyH_ready (rs := [3]) (by kernel_rfl) (by simp) ?_
  refine AllReadyH.cons (o := ?_) ?_ (fun K hK => ?_) AllReadyH.nil
  rotate_left
  · (simp only [List.getElem?_toArray, List.getElem?_cons_succ, List.getElem?_cons_zero]; rfl)
  go_simp
  go_at_call 33
  have hcur : Below w.heap.size w wx1w3 := HBXw3.out.trans (hHeld.1.mono (by have := HBXw3.out.size; omega))
  have hcall := (hA0.out ▸ r14Right_o o HO.out wx1w3)
  unfold obA at hcall
  replace hcall := Lib.hid hcall
  clear hcur
  refine hcall.out.mono ?_
  clear hcall
  rintro ex wx2w3 ⟨rfl, hbx⟩
  have hSx : (fun w' : World => Below w3.heap.size w3 w' ∧ w'.cell? ⟨n, 0, none⟩ = some (.int .i64 o.k) ∧ w'.cell? ⟨n, 1, none⟩ = some (.int .i64 o.wd) ∧ w'.cell? ⟨n, 2, none⟩ = some (.int .i64 o.s) ∧ w'.cell? ⟨n, 3, none⟩ = some (.int .i64 o.c) ∧ w'.cell? ⟨n, 4, none⟩ = some (.int .u32 o.st) ∧ w'.cell? ⟨n, 5, none⟩ = some (.slice o.I o.ni o.ci) ∧ w'.cell? ⟨n, 6, none⟩ = some (.int .i64 o.wr) ∧ w'.cell? ⟨n, 7, none⟩ = some (.slice o.R o.nr o.cr)) wx2w3 := by
    obtain ⟨h0, u0, u1, u2, u3, u4, u5, u6, u7⟩ := hHeld
    have hk : ∀ {i : Nat} {u : Value}, _ → wx2w3.cell? ⟨n, i, none⟩ = some u := fun {i u} hc => (hbx.cell (p := ⟨n, i, none⟩) (cell_lt hc)).trans hc
    exact ⟨h0.trans (hbx.mono h0.size), hk u0, hk u1, hk u2, hk u3, hk u4, hk u5, hk u6, hk u7⟩
  clear hbx
  refine hK.out _ _ hSx (fun hHeld => ?_)
  clear hK K
  try simp only [Act.put, List.setIfInBounds_toArray, List.set_cons_zero, List.set_cons_succ]
  refine wpAnyH_take (i := 4) (oi := ?_) (v := ?_) ?_ (by kernel_rfl) (by kernel_rfl) (by kernel_rfl) ?_ (Or.inl ⟨?_, ?_⟩) (by assumption) ?_
  rotate_left 2
  · (simp only [List.getElem?_toArray, List.getElem?_cons_succ, List.getElem?_cons_zero]; rfl)
  · first | exact fun _ _ _ h => h | exact fun _ _ _ h => by cases h.1
  · rfl
  · ((intro wq hSq; (try dsimp only at hSq); go_simp); (try with_reducible rfl))
  try simp only [Act.put, List.setIfInBounds_toArray, List.set_cons_zero, List.set_cons_succ]
  refine wpAnyH_take (i := 5) (oi := ?_) (v := ?_) ?_ (by kernel_rfl) (by kernel_rfl) (by kernel_rfl) ?_ (Or.inl ⟨?_, ?_⟩) (by assumption) ?_
  rotate_left 2
  · (simp only [List.getElem?_toArray, List.getElem?_cons_succ, List.getElem?_cons_zero]; rfl)
  · first | exact fun _ _ _ h => h | exact fun _ _ _ h => by cases h.1
  · rfl
  · ((intro wq hSq; (try dsimp only at hSq); go_simp); (try with_reducible rfl))
  try simp only [Act.put, List.setIfInBounds_toArray, List.set_cons_zero, List.set_cons_succ]
  refine wpAnyH_take (i := 6) (oi := ?_) (v := ?_) ?_ (by kernel_rfl) (by kernel_rfl) (by kernel_rfl) ?_ (Or.inl ⟨?_, ?_⟩) (by assumption) ?_
  rotate_left 2
  · (simp only [List.getElem?_toArray, List.getElem?_cons_succ, List.getElem?_cons_zero]; rfl)
  · first | exact fun _ _ _ h => h | exact fun _ _ _ h => by cases h.1
  · rfl
  · ((intro wq hSq; (try dsimp only at hSq); go_simp); (try with_reducible rfl))
  try simp only [Act.put, List.setIfInBounds_toArray, List.set_cons_zero, List.set_cons_succ]
  refine wpAnyH_take (i := 8) (oi := ?_) (v := ?_) ?_ (by kernel_rfl) (by kernel_rfl) (by kernel_rfl) ?_ (Or.inl ⟨?_, ?_⟩) (by assumption) ?_
  rotate_left 2
  · (simp only [List.getElem?_toArray, List.getElem?_cons_succ, List.getElem?_cons_zero]; rfl)
  · first | exact fun _ _ _ h => h | exact fun _ _ _ h => by cases h.1
  · rfl
  · ((intro wq hSq; (try dsimp only at hSq); go_simp); (try with_reducible rfl))
  try simp only [Act.put, List.setIfInBounds_toArray, List.set_cons_zero, List.set_cons_succ]
  refine wpAnyH_ready (rs := [7]) (by kernel_rfl) (by simp) ?_
  refine AllReadyH.cons (o := ?_) ?_ (fun K hK => ?_) AllReadyH.nil
  rotate_left
  · (simp only [List.getElem?_toArray, List.getElem?_cons_succ, List.getElem?_cons_zero]; rfl)
  go_simp
  go_at_call 34
  have hcur : Below w.heap.size w wx2w3 := HBXw3.out.trans (hHeld.1.mono (by have := HBXw3.out.size; omega))
  have hcall := (hR0.out ▸ right_o o HO.out r w.heap.size wx2w3 HRr.out HWw.out (HRw.out.below hcur (Nat.le_refl _)) hcur.size)
  unfold obA at hcall
  replace hcall := Lib.hid hcall
  clear hcur
  refine hcall.out.mono ?_
  clear hcall
  rintro ex wx3w3 ⟨rfl, hbx⟩
  have hSx : (fun w' : World => Below w3.heap.size w3 w' ∧ w'.cell? ⟨n, 0, none⟩ = some (.int .i64 o.k) ∧ w'.cell? ⟨n, 1, none⟩ = some (.int .i64 o.wd) ∧ w'.cell? ⟨n, 2, none⟩ = some (.int .i64 o.s) ∧ w'.cell? ⟨n, 3, none⟩ = some (.int .i64 o.c) ∧ w'.cell? ⟨n, 4, none⟩ = some (.int .u32 o.st) ∧ w'.cell? ⟨n, 5, none⟩ = some (.slice o.I o.ni o.ci) ∧ w'.cell? ⟨n, 6, none⟩ = some (.int .i64 o.wr) ∧ w'.cell? ⟨n, 7, none⟩ = some (.slice o.R o.nr o.cr)) wx3w3 := by
    obtain ⟨h0, u0, u1, u2, u3, u4, u5, u6, u7⟩ := hHeld
    have hk : ∀ {i : Nat} {u : Value}, _ → wx3w3.cell? ⟨n, i, none⟩ = some u := fun {i u} hc => (hbx.cell (p := ⟨n, i, none⟩) (cell_lt hc)).trans hc
    exact ⟨h0.trans (hbx.mono h0.size), hk u0, hk u1, hk u2, hk u3, hk u4, hk u5, hk u6, hk u7⟩
  clear hbx
  refine hK.out _ _ hSx (fun hHeld => ?_)
  clear hK K
  try simp only [Act.put, List.setIfInBounds_toArray, List.set_cons_zero, List.set_cons_succ]
  refine wpAnyH_ready (rs := [9]) (by kernel_rfl) (by simp) ?_
  refine AllReadyH.cons (o := ?_) ?_ (fun K hK => ?_) AllReadyH.nil
  rotate_left
  · (simp only [List.getElem?_toArray, List.getElem?_cons_succ, List.getElem?_cons_zero]; rfl)
  go_simp
  go_at_call 35
  have hcur : Below w.heap.size w wx3w3 := HBXw3.out.trans (hHeld.1.mono (by have := HBXw3.out.size; omega))
  have hcall := (hR0.out ▸ rright_o o HO.out r w.heap.size wx3w3 HRr.out HWw.out (HRw.out.below hcur (Nat.le_refl _)) hcur.size)
  unfold obA at hcall
  replace hcall := Lib.hid hcall
  clear hcur
  refine hcall.out.mono ?_
  clear hcall
  rintro ex wx4w3 ⟨rfl, hbx⟩
  have hSx : (fun w' : World => Below w3.heap.size w3 w' ∧ w'.cell? ⟨n, 0, none⟩ = some (.int .i64 o.k) ∧ w'.cell? ⟨n, 1, none⟩ = some (.int .i64 o.wd) ∧ w'.cell? ⟨n, 2, none⟩ = some (.int .i64 o.s) ∧ w'.cell? ⟨n, 3, none⟩ = some (.int .i64 o.c) ∧ w'.cell? ⟨n, 4, none⟩ = some (.int .u32 o.st) ∧ w'.cell? ⟨n, 5, none⟩ = some (.slice o.I o.ni o.ci) ∧ w'.cell? ⟨n, 6, none⟩ = some (.int .i64 o.wr) ∧ w'.cell? ⟨n, 7, none⟩ = some (.slice o.R o.nr o.cr)) wx4w3 := by
    obtain ⟨h0, u0, u1, u2, u3, u4, u5, u6, u7⟩ := hHeld
    have hk : ∀ {i : Nat} {u : Value}, _ → wx4w3.cell? ⟨n, i, none⟩ = some u := fun {i u} hc => (hbx.cell (p := ⟨n, i, none⟩) (cell_lt hc)).trans hc
    exact ⟨h0.trans (hbx.mono h0.size), hk u0, hk u1, hk u2, hk u3, hk u4, hk u5, hk u6, hk u7⟩
  clear hbx
  refine hK.out _ _ hSx (fun hHeld => ?_)
  clear hK K
  try simp only [Act.put, List.setIfInBounds_toArray, List.set_cons_zero, List.set_cons_succ]
  refine wpAnyH_take (i := 10) (oi := ?_) (v := ?_) ?_ (by kernel_rfl) (by kernel_rfl) (by kernel_rfl) ?_ (Or.inl ⟨?_, ?_⟩) (by assumption) ?_
  rotate_left 2
  · (simp only [List.getElem?_toArray, List.getElem?_cons_succ, List.getElem?_cons_zero]; rfl)
  · first | exact fun _ _ _ h => h | exact fun _ _ _ h => by cases h.1
  · rfl
  · ((intro wq hSq; (try dsimp only at hSq); go_simp); (try with_reducible rfl))
  try simp only [Act.put, List.setIfInBounds_toArray, List.set_cons_zero, List.set_cons_succ]
  refine wpAnyH_take (i := 11) (oi := ?_) (v := ?_) ?_ (by kernel_rfl) (by kernel_rfl) (by kernel_rfl) ?_ (Or.inl ⟨?_, ?_⟩) (by assumption) ?_
  rotate_left 2
  · (simp only [List.getElem?_toArray, List.getElem?_cons_succ, List.getElem?_cons_zero]; rfl)
  · first | exact fun _ _ _ h => h | exact fun _ _ _ h => by cases h.1
  · rfl
  · ((intro wq hSq; (try dsimp only at hSq); go_simp); (try with_reducible rfl))
  try simp only [Act.put, List.setIfInBounds_toArray, List.set_cons_zero, List.set_cons_succ]
  refine wpAnyH_take (i := 12) (oi := ?_) (v := ?_) ?_ (by kernel_rfl) (by kernel_rfl) (by kernel_rfl) ?_ (Or.inl ⟨?_, ?_⟩) (by assumption) ?_
  rotate_left 2
  · (simp only [List.getElem?_toArray, List.getElem?_cons_succ, List.getElem?_cons_zero]; rfl)
  · first | exact fun _ _ _ h => h | exact fun _ _ _ h => by cases h.1
  · rfl
  · ((intro wq hSq; (try dsimp only at hSq); go_simp); (try with_reducible rfl))
  try simp only [Act.put, List.setIfInBounds_toArray, List.set_cons_zero, List.set_cons_succ]
  refine wpAnyH_take (i := 13) (oi := ?_) (v := ?_) ?_ (by kernel_rfl) (by kernel_rfl) (by kernel_rfl) ?_ (Or.inl ⟨?_, ?_⟩) (by assumption) ?_
  rotate_left 2
  · (simp only [List.getElem?_toArray, List.getElem?_cons_succ, List.getElem?_cons_zero]; rfl)
  · first | exact fun _ _ _ h => h | exact fun _ _ _ h => by cases h.1
  · rfl
  · ((intro wq hSq; (try dsimp only at hSq); go_simp); (try with_reducible rfl))
  try simp only [Act.put, List.setIfInBounds_toArray, List.set_cons_zero, List.set_cons_succ]
  refine wpAnyH_take (i := 14) (oi := ?_) (v := ?_) ?_ (by kernel_rfl) (by kernel_rfl) (by kernel_rfl) ?_ (Or.inl ⟨?_, ?_⟩) (by assumption) ?_
  rotate_left 2
  · (simp only [List.getElem?_toArray, List.getElem?_cons_succ, List.getElem?_cons_zero]; rfl)
  · first | exact fun _ _ _ h => h | exact fun _ _ _ h => by cases h.1
  · rfl
  · ((intro wq hSq; (try dsimp only at hSq); go_simp); (try with_reducible rfl))
  try simp only [Act.put, List.setIfInBounds_toArray, List.set_cons_zero, List.set_cons_succ]
  refine wpAnyH_take (i := 15) (oi := ?_) (v := ?_) ?_ (by kernel_rfl) (by kernel_rfl) (by kernel_rfl) ?_ (Or.inl ⟨?_, ?_⟩) (by assumption) ?_
  rotate_left 2
  · (simp only [List.getElem?_toArray, List.getElem?_cons_succ, List.getElem?_cons_zero]; rfl)
  · first | exact fun _ _ _ h => h | exact fun _ _ _ h => by cases h.1
  · rfl
  · ((intro wq hSq; (try dsimp only at hSq); go_simp); (try with_reducible rfl))
  try simp only [Act.put, List.setIfInBounds_toArray, List.set_cons_zero, List.set_cons_succ]
  refine wpAnyH_take (i := 16) (oi := ?_) (v := ?_) ?_ (by kernel_rfl) (by kernel_rfl) (by kernel_rfl) ?_ (Or.inl ⟨?_, ?_⟩) (by assumption) ?_
  rotate_left 2
  · (simp only [List.getElem?_toArray, List.getElem?_cons_succ, List.getElem?_cons_zero]; rfl)
  · first | exact fun _ _ _ h => h | exact fun _ _ _ h => by cases h.1
  · rfl
  · ((intro wq hSq; (try dsimp only at hSq); go_simp); (try with_reducible rfl))
  try simp only [Act.put, List.setIfInBounds_toArray, List.set_cons_zero, List.set_cons_succ]
  refine wpAnyH_take (i := 17) (oi := ?_) (v := ?_) ?_ (by kernel_rfl) (by kernel_rfl) (by kernel_rfl) ?_ (Or.inl ⟨?_, ?_⟩) (by assumption) ?_
  rotate_left 2
  · (simp only [List.getElem?_toArray, List.getElem?_cons_succ, List.getElem?_cons_zero]; rfl)
  · first | exact fun _ _ _ h => h | exact fun _ _ _ h => by cases h.1
  · rfl
  · ((intro wq hSq; (try dsimp only at hSq); go_simp); (try with_reducible rfl))
  try simp only [Act.put, List.setIfInBounds_toArray, List.set_cons_zero, List.set_cons_succ]
  refine wpAnyH_take (i := 18) (oi := ?_) (v := ?_) ?_ (by kernel_rfl) (by kernel_rfl) (by kernel_rfl) ?_ (Or.inl ⟨?_, ?_⟩) (by assumption) ?_
  rotate_left 2
  · (simp only [List.getElem?_toArray, List.getElem?_cons_succ, List.getElem?_cons_zero]; rfl)
  · first | exact fun _ _ _ h => h | exact fun _ _ _ h => by cases h.1
  · rfl
  · ((intro wq hSq; (try dsimp only at hSq); go_simp); (try with_reducible rfl))
  try simp only [Act.put, List.setIfInBounds_toArray, List.set_cons_zero, List.set_cons_succ]
  refine wpAnyH_take (i := 19) (oi := ?_) (v := ?_) ?_ (by kernel_rfl) (by kernel_rfl) (by kernel_rfl) ?_ (Or.inl ⟨?_, ?_⟩) (by assumption) ?_
  rotate_left 2
  · (simp only [List.getElem?_toArray, List.getElem?_cons_succ, List.getElem?_cons_zero]; rfl)
  · first | exact fun _ _ _ h => h | exact fun _ _ _ h => by cases h.1
  · rfl
  · ((intro wq hSq; (try dsimp only at hSq); go_simp); (try with_reducible rfl))
  try simp only [Act.put, List.setIfInBounds_toArray, List.set_cons_zero, List.set_cons_succ]
  refine wpAnyH_take (i := 20) (oi := ?_) (v := ?_) ?_ (by kernel_rfl) (by kernel_rfl) (by kernel_rfl) ?_ (Or.inl ⟨?_, ?_⟩) (by assumption) ?_
  rotate_left 2
  · (simp only [List.getElem?_toArray, List.getElem?_cons_succ, List.getElem?_cons_zero]; rfl)
  · first | exact fun _ _ _ h => h | exact fun _ _ _ h => by cases h.1
  · rfl
  · ((intro wq hSq; (try dsimp only at hSq); go_simp); (try with_reducible rfl))
  try simp only [Act.put, List.setIfInBounds_toArray, List.set_cons_zero, List.set_cons_succ]
  refine wpAnyH_take (i := 21) (oi := ?_) (v := undef) ?_ (by kernel_rfl) (by kernel_rfl) (by kernel_rfl) ?_ (Or.inr ⟨?_, rfl⟩) (by assumption) ?_
  rotate_left 1
  · (simp only [List.getElem?_toArray, List.getElem?_cons_succ, List.getElem?_cons_zero]; rfl)
  · first | exact fun _ _ _ h => h | exact fun _ _ _ h => by cases h.1
  · rfl
  try simp only [Act.put, List.setIfInBounds_toArray, List.set_cons_zero, List.set_cons_succ]
  refine wpAnyH_take (i := 22) (oi := ?_) (v := undef) ?_ (by kernel_rfl) (by kernel_rfl) (by kernel_rfl) ?_ (Or.inr ⟨?_, rfl⟩) (by assumption) ?_
  rotate_left 1
  · (simp only [List.getElem?_toArray, List.getElem?_cons_succ, List.getElem?_cons_zero]; rfl)
  · first | exact fun _ _ _ h => h | exact fun _ _ _ h => by cases h.1
  · rfl
  try simp only [Act.put, List.setIfInBounds_toArray, List.set_cons_zero, List.set_cons_succ]
  refine wpAnyH_take (i := 23) (oi := ?_) (v := undef) ?_ (by kernel_rfl) (by kernel_rfl) (by kernel_rfl) ?_ (Or.inr ⟨?_, rfl⟩) (by assumption) ?_
  rotate_left 1
  · (simp only [List.getElem?_toArray, List.getElem?_cons_succ, List.getElem?_cons_zero]; rfl)
  · first | exact fun _ _ _ h => h | exact fun _ _ _ h => by cases h.1
  · rfl
  try simp only [Act.put, List.setIfInBounds_toArray, List.set_cons_zero, List.set_cons_succ]
  refine wpAnyH_take (i := 24) (oi := ?_) (v := ?_) ?_ (by kernel_rfl) (by kernel_rfl) (by kernel_rfl) ?_ (Or.inl ⟨?_, ?_⟩) (by assumption) ?_
  rotate_left 2
  · (simp only [List.getElem?_toArray, List.getElem?_cons_succ, List.getElem?_cons_zero]; rfl)
  · first | exact fun _ _ _ h => h | exact fun _ _ _ h => by cases h.1
  · rfl
  · ((intro wq hSq; (try dsimp only at hSq); go_simp); (try with_reducible rfl))
  try simp only [Act.put, List.setIfInBounds_toArray, List.set_cons_zero, List.set_cons_succ]
  refine wpAnyH_take (i := 25) (oi := ?_) (v := ?_) ?_ (by kernel_rfl) (by kernel_rfl) (by kernel_rfl) ?_ (Or.inl ⟨?_, ?_⟩) (by assumption) ?_
  rotate_left 2
  · (simp only [List.getElem?_toArray, List.getElem?_cons_succ, List.getElem?_cons_zero]; rfl)
  · first | exact fun _ _ _ h => h | exact fun _ _ _ h => by cases h.1
  · rfl
  · ((intro wq hSq; (try dsimp only at hSq); go_simp); (try with_reducible rfl))
  try simp only [Act.put, List.setIfInBounds_toArray, List.set_cons_zero, List.set_cons_succ]
  refine wpAnyH_take (i := 26) (oi := ?_) (v := ?_) ?_ (by kernel_rfl) (by kernel_rfl) (by kernel_rfl) ?_ (Or.inl ⟨?_, ?_⟩) (by assumption) ?_
  rotate_left 2
  · (simp only [List.getElem?_toArray, List.getElem?_cons_succ, List.getElem?_cons_zero]; rfl)
  · first | exact fun _ _ _ h => h | exact fun _ _ _ h => by cases h.1
  · rfl
  · ((intro wq hSq; (try dsimp only at hSq); go_simp); (try with_reducible rfl))
  try simp only [Act.put, List.setIfInBounds_toArray, List.set_cons_zero, List.set_cons_succ]
  refine wpAnyH_take (i := 27) (oi := ?_) (v := ?_) ?_ (by kernel_rfl) (by kernel_rfl) (by kernel_rfl) ?_ (Or.inl ⟨?_, ?_⟩) (by assumption) ?_
  rotate_left 2
  · (simp only [List.getElem?_toArray, List.getElem?_cons_succ, List.getElem?_cons_zero]; rfl)
  · first | exact fun _ _ _ h => h | exact fun _ _ _ h => by cases h.1
  · rfl
  · ((intro wq hSq; (try dsimp only at hSq); go_simp); (try with_reducible rfl))
  try simp only [Act.put, List.setIfInBounds_toArray, List.set_cons_zero, List.set_cons_succ]
  refine wpAnyH_take (i := 28) (oi := ?_) (v := ?_) ?_ (by kernel_rfl) (by kernel_rfl) (by kernel_rfl) ?_ (Or.inl ⟨?_, ?_⟩) (by assumption) ?_
  rotate_left 2
  · (simp only [List.getElem?_toArray, List.getElem?_cons_succ, List.getElem?_cons_zero]; rfl)
  · first | exact fun _ _ _ h => h | exact fun _ _ _ h => by cases h.1
  · rfl
  · ((intro wq hSq; (try dsimp only at hSq); go_simp); (try with_reducible rfl))
  try simp only [Act.put, List.setIfInBounds_toArray, List.set_cons_zero, List.set_cons_succ]
  refine wpAnyH_take (i := 29) (oi := ?_) (v := ?_) ?_ (by kernel_rfl) (by kernel_rfl) (by kernel_rfl) ?_ (Or.inl ⟨?_, ?_⟩) (by assumption) ?_
  rotate_left 2
  · (simp only [List.getElem?_toArray, List.getElem?_cons_succ, List.getElem?_cons_zero]; rfl)
  · first | exact fun _ _ _ h => h | exact fun _ _ _ h => by cases h.1
  · rfl
  · ((intro wq hSq; (try dsimp only at hSq); go_simp); (try with_reducible rfl))
  try simp only [Act.put, List.setIfInBounds_toArray, List.set_cons_zero, List.set_cons_succ]
  refine wpAnyH_take (i := 30) (oi := ?_) (v := ?_) ?_ (by kernel_rfl) (by kernel_rfl) (by kernel_rfl) ?_ (Or.inl ⟨?_, ?_⟩) (by assumption) ?_
  rotate_left 2
  · (simp only [List.getElem?_toArray, List.getElem?_cons_succ, List.getElem?_cons_zero]; rfl)
  · first | exact fun _ _ _ h => h | exact fun _ _ _ h => by cases h.1
  · rfl
  · ((intro wq hSq; (try dsimp only at hSq); go_simp); (try with_reducible rfl))
  try simp only [Act.put, List.setIfInBounds_toArray, List.set_cons_zero, List.set_cons_succ]
  refine wpAnyH_take (i := 31) (oi := ?_) (v := ?_) ?_ (by kernel_rfl) (by kernel_rfl) (by kernel_rfl) ?_ (Or.inl ⟨?_, ?_⟩) (by assumption) ?_
  rotate_left 2
  · (simp only [List.getElem?_toArray, List.getElem?_cons_succ, List.getElem?_cons_zero]; rfl)
  · first | exact fun _ _ _ h => h | exact fun _ _ _ h => by cases h.1
  · rfl
  · ((intro wq hSq; (try dsimp only at hSq); go_simp); (try with_reducible rfl))
  try simp only [Act.put, List.setIfInBounds_toArray, List.set_cons_zero, List.set_cons_succ]
  refine wpAnyH_take (i := 32) (oi := ?_) (v := ?_) ?_ (by kernel_rfl) (by kernel_rfl) (by kernel_rfl) ?_ (Or.inl ⟨?_, ?_⟩) (by assumption) ?_
  rotate_left 2
  · (simp only [List.getElem?_toArray, List.getElem?_cons_succ, List.getElem?_cons_zero]; rfl)
  · first | exact fun _ _ _ h => h | exact fun _ _ _ h => by cases h.1
  · rfl
  · ((intro wq hSq; (try dsimp only at hSq); go_simp); (try with_reducible rfl))
  try simp only [Act.put, List.setIfInBounds_toArray, List.set_cons_zero, List.set_cons_succ]
  refine wpAnyH_take (i := 33) (oi := ?_) (v := ?_) ?_ (by kernel_rfl) (by kernel_rfl) (by kernel_rfl) ?_ (Or.inl ⟨?_, ?_⟩) (by assumption) ?_
  rotate_left 2
  · (simp only [List.getElem?_toArray, List.getElem?_cons_succ, List.getElem?_cons_zero]; rfl)
  · first | exact fun _ _ _ h => h | exact fun _ _ _ h => by cases h.1
  · rfl
  · ((intro wq hSq; (try dsimp only at hSq); go_simp); (try with_reducible rfl))
  try simp only [Act.put, List.setIfInBounds_toArray, List.set_cons_zero, List.set_cons_succ]
  refine wpAnyH_done (by kernel_rfl) ?_ _
  clear hSd
  obtain ⟨w4, hw4⟩ : ∃ w4, wx4w3 = w4 := ⟨_, rfl⟩
  rw [hw4] at hHeld ⊢
  clear hw4
  have HBXw4 := Lib.hid (HBXw3.out.trans (hHeld.1.mono (by have := HBXw3.out.size; omega)))
  have hlt3 := HO3.out.lt
  have HO4 := Lib.hid (ObX.kept HO3.out hHeld.1)
  clear hHeld
  go_wp2_with fail
  have hSd : (fun w' : World => Below w4.heap.size w4 w' ∧ w'.cell? ⟨n, 0, none⟩ = some (.int .i64 o.k) ∧ w'.cell? ⟨n, 1, none⟩ = some (.int .i64 o.wd) ∧ w'.cell? ⟨n, 2, none⟩ = some (.int .i64 o.s) ∧ w'.cell? ⟨n, 3, none⟩ = some (.int .i64 o.c) ∧ w'.cell? ⟨n, 4, none⟩ = some (.int .u32 o.st) ∧ w'.cell? ⟨n, 5, none⟩ = some (.slice o.I o.ni o.ci) ∧ w'.cell? ⟨n, 6, none⟩ = some (.int .i64 o.wr) ∧ w'.cell? ⟨n, 7, none⟩ = some (.slice o.R o.nr o.cr)) w4.drew := ⟨(Below.refl _ w4).drew, (ObX.kept HO4.out (Below.refl _ w4).drew).cells⟩
  refine wp_region_held_drew (S := (fun w' : World => Below w4.heap.size w4 w' ∧ w'.cell? ⟨n, 0, none⟩ = some (.int .i64 o.k) ∧ w'.cell? ⟨n, 1, none⟩ = some (.int .i64 o.wd) ∧ w'.cell? ⟨n, 2, none⟩ = some (.int .i64 o.s) ∧ w'.cell? ⟨n, 3, none⟩ = some (.int .i64 o.c) ∧ w'.cell? ⟨n, 4, none⟩ = some (.int .u32 o.st) ∧ w'.cell? ⟨n, 5, none⟩ = some (.slice o.I o.ni o.ci) ∧ w'.cell? ⟨n, 6, none⟩ = some (.int .i64 o.wr) ∧ w'.cell? ⟨n, 7, none⟩ = some (.slice o.R o.nr o.cr))) (by kernel_rfl) hSd (fun hHeld => ?_)
  generalize w4.drew = wd at hHeld ⊢
  have hHeld : (fun w' : World => Below w4.heap.size w4 w' ∧ w'.cell? ⟨n, 0, none⟩ = some (.int .i64 o.k) ∧ w'.cell? ⟨n, 1, none⟩ = some (.int .i64 o.wd) ∧ w'.cell? ⟨n, 2, none⟩ = some (.int .i64 o.s) ∧ w'.cell? ⟨n, 3, none⟩ = some (.int .i64 o.c) ∧ w'.cell? ⟨n, 4, none⟩ = some (.int .u32 o.st) ∧ w'.cell? ⟨n, 5, none⟩ = some (.slice o.I o.ni o.ci) ∧ w'.cell? ⟨n, 6, none⟩ = some (.int .i64 o.wr) ∧ w'.cell? ⟨n, 7, none⟩ = some (.slice o.R o.nr o.cr)) wd := hHeld
  refine wpAnyH_take (i := 0) (oi := ?_) (v := ?_) ?_ (by kernel_rfl) (by kernel_rfl) (by kernel_rfl) ?_ (Or.inl ⟨?_, ?_⟩) (by assumption) ?_
  rotate_left 2
  · (simp only [List.getElem?_toArray, List.getElem?_cons_zero]; rfl)
  · first | exact fun _ _ _ h => h | exact fun _ _ _ h => by cases h.1
  · rfl
  · ((intro wq hSq; (try dsimp only at hSq); go_simp); (try with_reducible rfl))
  try simp only [Act.put, List.setIfInBounds_toArray, List.set_cons_zero, List.set_cons_succ]
  refine wpAnyH_take (i := 2) (oi := ?_) (v := ?_) ?_ (by kernel_rfl) (by kernel_rfl) (by kernel_rfl) ?_ (Or.inl ⟨?_, ?_⟩) (by assumption) ?_
  rotate_left 2
  · (simp only [List.getElem?_toArray, List.getElem?_cons_succ, List.getElem?_cons_zero]; rfl)
  · first | exact fun _ _ _ h => h | exact fun _ _ _ h => by cases h.1
  · rfl
  · ((intro wq hSq; (try dsimp only at hSq); go_simp); (try with_reducible rfl))
  try simp only [Act.put, List.setIfInBounds_toArray, List.set_cons_zero, List.set_cons_succ]
  refine wpAnyH_ready (rs := [1]) (by kernel_rfl) (by simp) ?_
  refine AllReadyH.cons (o := ?_) ?_ (fun K hK => ?_) AllReadyH.nil
  rotate_left
  · (simp only [List.getElem?_toArray, List.getElem?_cons_succ, List.getElem?_cons_zero]; rfl)
  go_simp
  go_at_call 16
  have hcur : Below w.heap.size w wd := HBXw4.out.trans (hHeld.1.mono (by have := HBXw4.out.size; omega))
  have hcall := (hS0.out ▸ size_o o HO.out wd)
  unfold obA at hcall
  replace hcall := Lib.hid hcall
  clear hcur
  refine hcall.out.mono ?_
  clear hcall
  rintro ex wx1w4 ⟨rfl, hbx⟩
  have hSx : (fun w' : World => Below w4.heap.size w4 w' ∧ w'.cell? ⟨n, 0, none⟩ = some (.int .i64 o.k) ∧ w'.cell? ⟨n, 1, none⟩ = some (.int .i64 o.wd) ∧ w'.cell? ⟨n, 2, none⟩ = some (.int .i64 o.s) ∧ w'.cell? ⟨n, 3, none⟩ = some (.int .i64 o.c) ∧ w'.cell? ⟨n, 4, none⟩ = some (.int .u32 o.st) ∧ w'.cell? ⟨n, 5, none⟩ = some (.slice o.I o.ni o.ci) ∧ w'.cell? ⟨n, 6, none⟩ = some (.int .i64 o.wr) ∧ w'.cell? ⟨n, 7, none⟩ = some (.slice o.R o.nr o.cr)) wx1w4 := by
    obtain ⟨h0, u0, u1, u2, u3, u4, u5, u6, u7⟩ := hHeld
    have hk : ∀ {i : Nat} {u : Value}, _ → wx1w4.cell? ⟨n, i, none⟩ = some u := fun {i u} hc => (hbx.cell (p := ⟨n, i, none⟩) (cell_lt hc)).trans hc
    exact ⟨h0.trans (hbx.mono h0.size), hk u0, hk u1, hk u2, hk u3, hk u4, hk u5, hk u6, hk u7⟩
  clear hbx
  refine hK.out _ _ hSx (fun hHeld => ?_)
  clear hK K
  try simp only [Act.put, List.setIfInBounds_toArray, List.set_cons_zero, List.set_cons_succ]
  refine wpAnyH_ready (rs := [3]) (by kernel_rfl) (by simp) ?_
  refine AllReadyH.cons (o := ?_) ?_ (fun K hK => ?_) AllReadyH.nil
  rotate_left
  · (simp only [List.getElem?_toArray, List.getElem?_cons_succ, List.getElem?_cons_zero]; rfl)
  go_simp
  go_at_call 36
  have hcur : Below w.heap.size w wx1w4 := HBXw4.out.trans (hHeld.1.mono (by have := HBXw4.out.size; omega))
  have hcall := (hS0.out ▸ rsize_o o HO.out wx1w4)
  unfold obA at hcall
  replace hcall := Lib.hid hcall
  clear hcur
  refine hcall.out.mono ?_
  clear hcall
  rintro ex wx2w4 ⟨rfl, hbx⟩
  have hSx : (fun w' : World => Below w4.heap.size w4 w' ∧ w'.cell? ⟨n, 0, none⟩ = some (.int .i64 o.k) ∧ w'.cell? ⟨n, 1, none⟩ = some (.int .i64 o.wd) ∧ w'.cell? ⟨n, 2, none⟩ = some (.int .i64 o.s) ∧ w'.cell? ⟨n, 3, none⟩ = some (.int .i64 o.c) ∧ w'.cell? ⟨n, 4, none⟩ = some (.int .u32 o.st) ∧ w'.cell? ⟨n, 5, none⟩ = some (.slice o.I o.ni o.ci) ∧ w'.cell? ⟨n, 6, none⟩ = some (.int .i64 o.wr) ∧ w'.cell? ⟨n, 7, none⟩ = some (.slice o.R o.nr o.cr)) wx2w4 := by
    obtain ⟨h0, u0, u1, u2, u3, u4, u5, u6, u7⟩ := hHeld
    have hk : ∀ {i : Nat} {u : Value}, _ → wx2w4.cell? ⟨n, i, none⟩ = some u := fun {i u} hc => (hbx.cell (p := ⟨n, i, none⟩) (cell_lt hc)).trans hc
    exact ⟨h0.trans (hbx.mono h0.size), hk u0, hk u1, hk u2, hk u3, hk u4, hk u5, hk u6, hk u7⟩
  clear hbx
  refine hK.out _ _ hSx (fun hHeld => ?_)
  clear hK K
  try simp only [Act.put, List.setIfInBounds_toArray, List.set_cons_zero, List.set_cons_succ]
  refine wpAnyH_take (i := 4) (oi := ?_) (v := ?_) ?_ (by kernel_rfl) (by kernel_rfl) (by kernel_rfl) ?_ (Or.inl ⟨?_, ?_⟩) (by assumption) ?_
  rotate_left 2
  · (simp only [List.getElem?_toArray, List.getElem?_cons_succ, List.getElem?_cons_zero]; rfl)
  · first | exact fun _ _ _ h => h | exact fun _ _ _ h => by cases h.1
  · rfl
  · ((intro wq hSq; (try dsimp only at hSq); go_simp); (try with_reducible rfl))
  try simp only [Act.put, List.setIfInBounds_toArray, List.set_cons_zero, List.set_cons_succ]
  refine wpAnyH_take (i := 5) (oi := ?_) (v := ?_) ?_ (by kernel_rfl) (by kernel_rfl) (by kernel_rfl) ?_ (Or.inl ⟨?_, ?_⟩) (by assumption) ?_
  rotate_left 2
  · (simp only [List.getElem?_toArray, List.getElem?_cons_succ, List.getElem?_cons_zero]; rfl)
  · first | exact fun _ _ _ h => h | exact fun _ _ _ h => by cases h.1
  · rfl
  · ((intro wq hSq; (try dsimp only at hSq); go_simp); (try with_reducible rfl))
  try simp only [Act.put, List.setIfInBounds_toArray, List.set_cons_zero, List.set_cons_succ]
  refine wpAnyH_take (i := 6) (oi := ?_) (v := ?_) ?_ (by kernel_rfl) (by kernel_rfl) (by kernel_rfl) ?_ (Or.inl ⟨?_, ?_⟩) (by assumption) ?_
  rotate_left 2
  · (simp only [List.getElem?_toArray, List.getElem?_cons_succ, List.getElem?_cons_zero]; rfl)
  · first | exact fun _ _ _ h => h | exact fun _ _ _ h => by cases h.1
  · rfl
  · ((intro wq hSq; (try dsimp only at hSq); go_simp); (try with_reducible rfl))
  try simp only [Act.put, List.setIfInBounds_toArray, List.set_cons_zero, List.set_cons_succ]
  refine wpAnyH_take (i := 8) (oi := ?_) (v := ?_) ?_ (by kernel_rfl) (by kernel_rfl) (by kernel_rfl) ?_ (Or.inl ⟨?_, ?_⟩) (by assumption) ?_
  rotate_left 2
  · (simp only [List.getElem?_toArray, List.getElem?_cons_succ, List.getElem?_cons_zero]; rfl)
  · first | exact fun _ _ _ h => h | exact fun _ _ _ h => by cases h.1
  · rfl
  · ((intro wq hSq; (try dsimp only at hSq); go_simp); (try with_reducible rfl))
  try simp only [Act.put, List.setIfInBounds_toArray, List.set_cons_zero, List.set_cons_succ]
  refine wpAnyH_ready (rs := [7]) (by kernel_rfl) (by simp) ?_
  refine AllReadyH.cons (o := ?_) ?_ (fun K hK => ?_) AllReadyH.nil
  rotate_left
  · (simp only [List.getElem?_toArray, List.getElem?_cons_succ, List.getElem?_cons_zero]; rfl)
  go_simp
  go_at_call 37
  have hcur : Below w.heap.size w wx2w4 := HBXw4.out.trans (hHeld.1.mono (by have := HBXw4.out.size; omega))
  have hcall := (hL0.out ▸ lay_o o HO.out l w.heap.size wx2w4 HLl.out (HIw.out.below hcur (Nat.le_refl _)) hcur.size)
  unfold obA at hcall
  replace hcall := Lib.hid hcall
  clear hcur
  refine hcall.out.mono ?_
  clear hcall
  rintro ex wx3w4 ⟨A1, c1, rfl, hcap, hws, hbx⟩
  have hSx : (fun w' : World => Below w4.heap.size w4 w' ∧ w'.cell? ⟨n, 0, none⟩ = some (.int .i64 o.k) ∧ w'.cell? ⟨n, 1, none⟩ = some (.int .i64 o.wd) ∧ w'.cell? ⟨n, 2, none⟩ = some (.int .i64 o.s) ∧ w'.cell? ⟨n, 3, none⟩ = some (.int .i64 o.c) ∧ w'.cell? ⟨n, 4, none⟩ = some (.int .u32 o.st) ∧ w'.cell? ⟨n, 5, none⟩ = some (.slice o.I o.ni o.ci) ∧ w'.cell? ⟨n, 6, none⟩ = some (.int .i64 o.wr) ∧ w'.cell? ⟨n, 7, none⟩ = some (.slice o.R o.nr o.cr)) wx3w4 := by
    obtain ⟨h0, u0, u1, u2, u3, u4, u5, u6, u7⟩ := hHeld
    have hk : ∀ {i : Nat} {u : Value}, _ → wx3w4.cell? ⟨n, i, none⟩ = some u := fun {i u} hc => (hbx.cell (p := ⟨n, i, none⟩) (cell_lt hc)).trans hc
    exact ⟨h0.trans (hbx.mono h0.size), hk u0, hk u1, hk u2, hk u3, hk u4, hk u5, hk u6, hk u7⟩
  have HW1 := Lib.hid hws
  clear hws hcap
  clear hbx
  refine hK.out _ _ hSx (fun hHeld => ?_)
  clear hK K
  try simp only [Act.put, List.setIfInBounds_toArray, List.set_cons_zero, List.set_cons_succ]
  refine wpAnyH_ready (rs := [9]) (by kernel_rfl) (by simp) ?_
  refine AllReadyH.cons (o := ?_) ?_ (fun K hK => ?_) AllReadyH.nil
  rotate_left
  · (simp only [List.getElem?_toArray, List.getElem?_cons_succ, List.getElem?_cons_zero]; rfl)
  go_simp
  go_at_call 38
  have hcur : Below w.heap.size w wx3w4 := HBXw4.out.trans (hHeld.1.mono (by have := HBXw4.out.size; omega))
  have hcall := (hL0.out ▸ rlay_o o HO.out l w.heap.size wx3w4 HLl.out (HIw.out.below hcur (Nat.le_refl _)) hcur.size)
  unfold obA at hcall
  replace hcall := Lib.hid hcall
  clear hcur
  refine hcall.out.mono ?_
  clear hcall
  rintro ex wx4w4 ⟨A2, c2, rfl, hcap, hws, hbx⟩
  have hSx : (fun w' : World => Below w4.heap.size w4 w' ∧ w'.cell? ⟨n, 0, none⟩ = some (.int .i64 o.k) ∧ w'.cell? ⟨n, 1, none⟩ = some (.int .i64 o.wd) ∧ w'.cell? ⟨n, 2, none⟩ = some (.int .i64 o.s) ∧ w'.cell? ⟨n, 3, none⟩ = some (.int .i64 o.c) ∧ w'.cell? ⟨n, 4, none⟩ = some (.int .u32 o.st) ∧ w'.cell? ⟨n, 5, none⟩ = some (.slice o.I o.ni o.ci) ∧ w'.cell? ⟨n, 6, none⟩ = some (.int .i64 o.wr) ∧ w'.cell? ⟨n, 7, none⟩ = some (.slice o.R o.nr o.cr)) wx4w4 := by
    obtain ⟨h0, u0, u1, u2, u3, u4, u5, u6, u7⟩ := hHeld
    have hk : ∀ {i : Nat} {u : Value}, _ → wx4w4.cell? ⟨n, i, none⟩ = some u := fun {i u} hc => (hbx.cell (p := ⟨n, i, none⟩) (cell_lt hc)).trans hc
    exact ⟨h0.trans (hbx.mono h0.size), hk u0, hk u1, hk u2, hk u3, hk u4, hk u5, hk u6, hk u7⟩
  replace HW1 := Lib.hid (HW1.out.below hbx hbx.size)
  have HW2 := Lib.hid hws
  clear hws hcap
  clear hbx
  refine hK.out _ _ hSx (fun hHeld => ?_)
  clear hK K
  try simp only [Act.put, List.setIfInBounds_toArray, List.set_cons_zero, List.set_cons_succ]
  refine wpAnyH_ready (rs := [10]) (by kernel_rfl) (by simp) ?_
  refine AllReadyH.cons (o := ?_) ?_ (fun K hK => ?_) AllReadyH.nil
  rotate_left
  · (simp only [List.getElem?_toArray, List.getElem?_cons_succ, List.getElem?_cons_zero]; rfl)
  go_simp
  go_at_call 27
  have hcur : Below w.heap.size w wx4w4 := HBXw4.out.trans (hHeld.1.mono (by have := HBXw4.out.size; omega))
  have hcall := pwords_any A1 A2 c1 c2 L L wx4w4 (by have := HLE.out; omega) (by have := HLE.out; omega) HW1.out HW2.out
  unfold obA at hcall
  replace hcall := Lib.hid hcall
  clear hcur
  refine hcall.out.mono ?_
  clear hcall
  rintro ex wx5w4 ⟨rfl, hbx⟩
  have hSx : (fun w' : World => Below w4.heap.size w4 w' ∧ w'.cell? ⟨n, 0, none⟩ = some (.int .i64 o.k) ∧ w'.cell? ⟨n, 1, none⟩ = some (.int .i64 o.wd) ∧ w'.cell? ⟨n, 2, none⟩ = some (.int .i64 o.s) ∧ w'.cell? ⟨n, 3, none⟩ = some (.int .i64 o.c) ∧ w'.cell? ⟨n, 4, none⟩ = some (.int .u32 o.st) ∧ w'.cell? ⟨n, 5, none⟩ = some (.slice o.I o.ni o.ci) ∧ w'.cell? ⟨n, 6, none⟩ = some (.int .i64 o.wr) ∧ w'.cell? ⟨n, 7, none⟩ = some (.slice o.R o.nr o.cr)) wx5w4 := by
    obtain ⟨h0, u0, u1, u2, u3, u4, u5, u6, u7⟩ := hHeld
    have hk : ∀ {i : Nat} {u : Value}, _ → wx5w4.cell? ⟨n, i, none⟩ = some u := fun {i u} hc => (hbx.cell (p := ⟨n, i, none⟩) (cell_lt hc)).trans hc
    exact ⟨h0.trans (hbx.mono h0.size), hk u0, hk u1, hk u2, hk u3, hk u4, hk u5, hk u6, hk u7⟩
  replace HW1 := Lib.hid (HW1.out.below hbx hbx.size)
  replace HW2 := Lib.hid (HW2.out.below hbx hbx.size)
  clear hbx
  refine hK.out _ _ hSx (fun hHeld => ?_)
  clear hK K
  try simp only [Act.put, List.setIfInBounds_toArray, List.set_cons_zero, List.set_cons_succ]
  refine wpAnyH_take (i := 11) (oi := ?_) (v := ?_) ?_ (by kernel_rfl) (by kernel_rfl) (by kernel_rfl) ?_ (Or.inl ⟨?_, ?_⟩) (by assumption) ?_
  rotate_left 2
  · (simp only [List.getElem?_toArray, List.getElem?_cons_succ, List.getElem?_cons_zero]; rfl)
  · first | exact fun _ _ _ h => h | exact fun _ _ _ h => by cases h.1
  · rfl
  · ((intro wq hSq; (try dsimp only at hSq); go_simp); (try with_reducible rfl))
  try simp only [Act.put, List.setIfInBounds_toArray, List.set_cons_zero, List.set_cons_succ]
  refine wpAnyH_take (i := 12) (oi := ?_) (v := ?_) ?_ (by kernel_rfl) (by kernel_rfl) (by kernel_rfl) ?_ (Or.inl ⟨?_, ?_⟩) (by assumption) ?_
  rotate_left 2
  · (simp only [List.getElem?_toArray, List.getElem?_cons_succ, List.getElem?_cons_zero]; rfl)
  · first | exact fun _ _ _ h => h | exact fun _ _ _ h => by cases h.1
  · rfl
  · ((intro wq hSq; (try dsimp only at hSq); go_simp); (try with_reducible rfl))
  try simp only [Act.put, List.setIfInBounds_toArray, List.set_cons_zero, List.set_cons_succ]
  refine wpAnyH_take (i := 13) (oi := ?_) (v := ?_) ?_ (by kernel_rfl) (by kernel_rfl) (by kernel_rfl) ?_ (Or.inl ⟨?_, ?_⟩) (by assumption) ?_
  rotate_left 2
  · (simp only [List.getElem?_toArray, List.getElem?_cons_succ, List.getElem?_cons_zero]; rfl)
  · first | exact fun _ _ _ h => h | exact fun _ _ _ h => by cases h.1
  · rfl
  · ((intro wq hSq; (try dsimp only at hSq); go_simp); (try with_reducible rfl))
  try simp only [Act.put, List.setIfInBounds_toArray, List.set_cons_zero, List.set_cons_succ]
  refine wpAnyH_take (i := 14) (oi := ?_) (v := ?_) ?_ (by kernel_rfl) (by kernel_rfl) (by kernel_rfl) ?_ (Or.inl ⟨?_, ?_⟩) (by assumption) ?_
  rotate_left 2
  · (simp only [List.getElem?_toArray, List.getElem?_cons_succ, List.getElem?_cons_zero]; rfl)
  · first | exact fun _ _ _ h => h | exact fun _ _ _ h => by cases h.1
  · rfl
  · ((intro wq hSq; (try dsimp only at hSq); go_simp); (try with_reducible rfl))
  try simp only [Act.put, List.setIfInBounds_toArray, List.set_cons_zero, List.set_cons_succ]
  refine wpAnyH_take (i := 16) (oi := ?_) (v := ?_) ?_ (by kernel_rfl) (by kernel_rfl) (by kernel_rfl) ?_ (Or.inl ⟨?_, ?_⟩) (by assumption) ?_
  rotate_left 2
  · (simp only [List.getElem?_toArray, List.getElem?_cons_succ, List.getElem?_cons_zero]; rfl)
  · first | exact fun _ _ _ h => h | exact fun _ _ _ h => by cases h.1
  · rfl
  · ((intro wq hSq; (try dsimp only at hSq); go_simp); (try with_reducible rfl))
  try simp only [Act.put, List.setIfInBounds_toArray, List.set_cons_zero, List.set_cons_succ]
  refine wpAnyH_take (i := 17) (oi := ?_) (v := ?_) ?_ (by kernel_rfl) (by kernel_rfl) (by kernel_rfl) ?_ (Or.inl ⟨?_, ?_⟩) (by assumption) ?_
  rotate_left 2
  · (simp only [List.getElem?_toArray, List.getElem?_cons_succ, List.getElem?_cons_zero]; rfl)
  · first | exact fun _ _ _ h => h | exact fun _ _ _ h => by cases h.1
  · rfl
  · ((intro wq hSq; (try dsimp only at hSq); go_simp); (try with_reducible rfl))
  try simp only [Act.put, List.setIfInBounds_toArray, List.set_cons_zero, List.set_cons_succ]
  refine wpAnyH_ready (rs := [15]) (by kernel_rfl) (by simp) ?_
  refine AllReadyH.cons (o := ?_) ?_ (fun K hK => ?_) AllReadyH.nil
  rotate_left
  · (simp only [List.getElem?_toArray, List.getElem?_cons_succ, List.getElem?_cons_zero]; rfl)
  go_simp
  go_at_call 19
  have hcur : Below w.heap.size w wx5w4 := HBXw4.out.trans (hHeld.1.mono (by have := HBXw4.out.size; omega))
  have hcall := (hB0.out ▸ bound_o o HO.out op wx5w4)
  unfold obA at hcall
  replace hcall := Lib.hid hcall
  clear hcur
  refine hcall.out.mono ?_
  clear hcall
  rintro ex wx6w4 ⟨rfl, hbx⟩
  have hSx : (fun w' : World => Below w4.heap.size w4 w' ∧ w'.cell? ⟨n, 0, none⟩ = some (.int .i64 o.k) ∧ w'.cell? ⟨n, 1, none⟩ = some (.int .i64 o.wd) ∧ w'.cell? ⟨n, 2, none⟩ = some (.int .i64 o.s) ∧ w'.cell? ⟨n, 3, none⟩ = some (.int .i64 o.c) ∧ w'.cell? ⟨n, 4, none⟩ = some (.int .u32 o.st) ∧ w'.cell? ⟨n, 5, none⟩ = some (.slice o.I o.ni o.ci) ∧ w'.cell? ⟨n, 6, none⟩ = some (.int .i64 o.wr) ∧ w'.cell? ⟨n, 7, none⟩ = some (.slice o.R o.nr o.cr)) wx6w4 := by
    obtain ⟨h0, u0, u1, u2, u3, u4, u5, u6, u7⟩ := hHeld
    have hk : ∀ {i : Nat} {u : Value}, _ → wx6w4.cell? ⟨n, i, none⟩ = some u := fun {i u} hc => (hbx.cell (p := ⟨n, i, none⟩) (cell_lt hc)).trans hc
    exact ⟨h0.trans (hbx.mono h0.size), hk u0, hk u1, hk u2, hk u3, hk u4, hk u5, hk u6, hk u7⟩
  replace HW1 := Lib.hid (HW1.out.below hbx hbx.size)
  replace HW2 := Lib.hid (HW2.out.below hbx hbx.size)
  clear hbx
  refine hK.out _ _ hSx (fun hHeld => ?_)
  clear hK K
  try simp only [Act.put, List.setIfInBounds_toArray, List.set_cons_zero, List.set_cons_succ]
  refine wpAnyH_ready (rs := [18]) (by kernel_rfl) (by simp) ?_
  refine AllReadyH.cons (o := ?_) ?_ (fun K hK => ?_) AllReadyH.nil
  rotate_left
  · (simp only [List.getElem?_toArray, List.getElem?_cons_succ, List.getElem?_cons_zero]; rfl)
  go_simp
  go_at_call 39
  have hcur : Below w.heap.size w wx6w4 := HBXw4.out.trans (hHeld.1.mono (by have := HBXw4.out.size; omega))
  have hcall := (hB0.out ▸ rbound_o o HO.out op wx6w4)
  unfold obA at hcall
  replace hcall := Lib.hid hcall
  clear hcur
  refine hcall.out.mono ?_
  clear hcall
  rintro ex wx7w4 ⟨rfl, hbx⟩
  have hSx : (fun w' : World => Below w4.heap.size w4 w' ∧ w'.cell? ⟨n, 0, none⟩ = some (.int .i64 o.k) ∧ w'.cell? ⟨n, 1, none⟩ = some (.int .i64 o.wd) ∧ w'.cell? ⟨n, 2, none⟩ = some (.int .i64 o.s) ∧ w'.cell? ⟨n, 3, none⟩ = some (.int .i64 o.c) ∧ w'.cell? ⟨n, 4, none⟩ = some (.int .u32 o.st) ∧ w'.cell? ⟨n, 5, none⟩ = some (.slice o.I o.ni o.ci) ∧ w'.cell? ⟨n, 6, none⟩ = some (.int .i64 o.wr) ∧ w'.cell? ⟨n, 7, none⟩ = some (.slice o.R o.nr o.cr)) wx7w4 := by
    obtain ⟨h0, u0, u1, u2, u3, u4, u5, u6, u7⟩ := hHeld
    have hk : ∀ {i : Nat} {u : Value}, _ → wx7w4.cell? ⟨n, i, none⟩ = some u := fun {i u} hc => (hbx.cell (p := ⟨n, i, none⟩) (cell_lt hc)).trans hc
    exact ⟨h0.trans (hbx.mono h0.size), hk u0, hk u1, hk u2, hk u3, hk u4, hk u5, hk u6, hk u7⟩
  replace HW1 := Lib.hid (HW1.out.below hbx hbx.size)
  replace HW2 := Lib.hid (HW2.out.below hbx hbx.size)
  clear hbx
  refine hK.out _ _ hSx (fun hHeld => ?_)
  clear hK K
  try simp only [Act.put, List.setIfInBounds_toArray, List.set_cons_zero, List.set_cons_succ]
  refine wpAnyH_take (i := 19) (oi := ?_) (v := ?_) ?_ (by kernel_rfl) (by kernel_rfl) (by kernel_rfl) ?_ (Or.inl ⟨?_, ?_⟩) (by assumption) ?_
  rotate_left 2
  · (simp only [List.getElem?_toArray, List.getElem?_cons_succ, List.getElem?_cons_zero]; rfl)
  · first | exact fun _ _ _ h => h | exact fun _ _ _ h => by cases h.1
  · rfl
  · ((intro wq hSq; (try dsimp only at hSq); go_simp); (try with_reducible rfl))
  try simp only [Act.put, List.setIfInBounds_toArray, List.set_cons_zero, List.set_cons_succ]
  refine wpAnyH_take (i := 20) (oi := ?_) (v := ?_) ?_ (by kernel_rfl) (by kernel_rfl) (by kernel_rfl) ?_ (Or.inl ⟨?_, ?_⟩) (by assumption) ?_
  rotate_left 2
  · (simp only [List.getElem?_toArray, List.getElem?_cons_succ, List.getElem?_cons_zero]; rfl)
  · first | exact fun _ _ _ h => h | exact fun _ _ _ h => by cases h.1
  · rfl
  · ((intro wq hSq; (try dsimp only at hSq); go_simp); (try with_reducible rfl))
  try simp only [Act.put, List.setIfInBounds_toArray, List.set_cons_zero, List.set_cons_succ]
  refine wpAnyH_take (i := 21) (oi := ?_) (v := ?_) ?_ (by kernel_rfl) (by kernel_rfl) (by kernel_rfl) ?_ (Or.inl ⟨?_, ?_⟩) (by assumption) ?_
  rotate_left 2
  · (simp only [List.getElem?_toArray, List.getElem?_cons_succ, List.getElem?_cons_zero]; rfl)
  · first | exact fun _ _ _ h => h | exact fun _ _ _ h => by cases h.1
  · rfl
  · ((intro wq hSq; (try dsimp only at hSq); go_simp); (try with_reducible rfl))
  try simp only [Act.put, List.setIfInBounds_toArray, List.set_cons_zero, List.set_cons_succ]
  refine wpAnyH_ready (rs := [22]) (by kernel_rfl) (by simp) ?_
  refine AllReadyH.cons (o := ?_) ?_ (fun K hK => ?_) AllReadyH.nil
  rotate_left
  · (simp only [List.getElem?_toArray, List.getElem?_cons_succ, List.getElem?_cons_zero]; rfl)
  go_simp
  go_at_call 7
  have hcur : Below w.heap.size w wx7w4 := HBXw4.out.trans (hHeld.1.mono (by have := HBXw4.out.size; omega))
  have hcall := kawake_any wx7w4
  unfold obA at hcall
  replace hcall := Lib.hid hcall
  clear hcur
  refine hcall.out.mono ?_
  clear hcall
  rintro ex wx8w4 ⟨rfl, hbx⟩
  have hSx : (fun w' : World => Below w4.heap.size w4 w' ∧ w'.cell? ⟨n, 0, none⟩ = some (.int .i64 o.k) ∧ w'.cell? ⟨n, 1, none⟩ = some (.int .i64 o.wd) ∧ w'.cell? ⟨n, 2, none⟩ = some (.int .i64 o.s) ∧ w'.cell? ⟨n, 3, none⟩ = some (.int .i64 o.c) ∧ w'.cell? ⟨n, 4, none⟩ = some (.int .u32 o.st) ∧ w'.cell? ⟨n, 5, none⟩ = some (.slice o.I o.ni o.ci) ∧ w'.cell? ⟨n, 6, none⟩ = some (.int .i64 o.wr) ∧ w'.cell? ⟨n, 7, none⟩ = some (.slice o.R o.nr o.cr)) wx8w4 := by
    obtain ⟨h0, u0, u1, u2, u3, u4, u5, u6, u7⟩ := hHeld
    have hk : ∀ {i : Nat} {u : Value}, _ → wx8w4.cell? ⟨n, i, none⟩ = some u := fun {i u} hc => (hbx.cell (p := ⟨n, i, none⟩) (cell_lt hc)).trans hc
    exact ⟨h0.trans (hbx.mono h0.size), hk u0, hk u1, hk u2, hk u3, hk u4, hk u5, hk u6, hk u7⟩
  replace HW1 := Lib.hid (HW1.out.below hbx hbx.size)
  replace HW2 := Lib.hid (HW2.out.below hbx hbx.size)
  clear hbx
  refine hK.out _ _ hSx (fun hHeld => ?_)
  clear hK K
  try simp only [Act.put, List.setIfInBounds_toArray, List.set_cons_zero, List.set_cons_succ]
  refine wpAnyH_take (i := 23) (oi := ?_) (v := ?_) ?_ (by kernel_rfl) (by kernel_rfl) (by kernel_rfl) ?_ (Or.inl ⟨?_, ?_⟩) (by assumption) ?_
  rotate_left 2
  · (simp only [List.getElem?_toArray, List.getElem?_cons_succ, List.getElem?_cons_zero]; rfl)
  · first | exact fun _ _ _ h => h | exact fun _ _ _ h => by cases h.1
  · rfl
  · ((intro wq hSq; (try dsimp only at hSq); go_simp); (try with_reducible rfl))
  try simp only [Act.put, List.setIfInBounds_toArray, List.set_cons_zero, List.set_cons_succ]
  refine wpAnyH_take (i := 24) (oi := ?_) (v := ?_) ?_ (by kernel_rfl) (by kernel_rfl) (by kernel_rfl) ?_ (Or.inl ⟨?_, ?_⟩) (by assumption) ?_
  rotate_left 2
  · (simp only [List.getElem?_toArray, List.getElem?_cons_succ, List.getElem?_cons_zero]; rfl)
  · first | exact fun _ _ _ h => h | exact fun _ _ _ h => by cases h.1
  · rfl
  · ((intro wq hSq; (try dsimp only at hSq); go_simp); (try with_reducible rfl))
  try simp only [Act.put, List.setIfInBounds_toArray, List.set_cons_zero, List.set_cons_succ]
  refine wpAnyH_done (by kernel_rfl) ?_ _
  clear hSd
  go_wp2_with fail
  go_ret
  exact ⟨rfl, by rw [← hn0]; exact HBXw4.out.trans (hHeld.1.mono (by have := HBXw4.out.size; omega))⟩
set_option maxRecDepth 100000 in
theorem objectShapes_any (o : Ob) (h0 : 0 ≤ o.st) (h1 : o.st < 4294967296) (l r : List Int) (op t : Int) (w : World) (hl : o.ni = l.length) (hr : o.nr = r.length) (hI : Ws w w.heap.size o.I l) (hR : Is w w.heap.size o.R r) (hw : ∀ x ∈ o.wr :: r, (Lit.int .i64 x).wf = true) : Calls Tryz.prog 6 #[.agg (obA o), .int .i64 op, .int .i64 t] w fun e w' => e = .returned (.bool true) ∧ Below w.heap.size w w' := by
  by_cases hsm : o.ni ≤ 100 ∧ o.nr ≤ 100
  · have ho : o.Ok := ⟨h0, h1, by omega, by omega⟩
    by_cases hq : 0 ≤ ridx r t
    · exact shapes_y o ho l r op t w hl hr hI hR hw hsm hq
    · exact shapes_n o ho l r op t w hl hr hI hR hw hsm (by have := ridx_bd r t; omega)
  · have hs := fun W => small_o o W
    rw [decide_eq_false hsm] at hs
    have hB := (Below.refl w.heap.size w).alloc (Nat.le_refl _) (.cells (obA o) 36)
    unfold obA at hs hB
    have HS := Lib.hid hs
    have HB := Lib.hid hB
    clear hs hB hsm hw hR hI hr hl h0 h1
    unfold obA
    go_enter Tryz.func6, Tryz.ntmps6
    go_wp2_with fail
    refine (HS.out _).mono ?_
    rintro e w1 ⟨rfl, hb1⟩
    have HB1 := Lib.hid (HB.out.trans (hb1.mono (by have := HB.out.size; omega)))
    clear hb1
    go_wp2_with fail
    refine (kawake_any _).mono ?_
    rintro e w2 ⟨rfl, hb2⟩
    have HB2 := Lib.hid (HB1.out.trans (hb2.mono (by have := HB1.out.size; omega)))
    clear hb2
    go_wp2_with fail
    go_ret
    exact ⟨rfl, HB2.out⟩

end Go.Proofs.YtgjcniokgdicpaaGreatDoor
