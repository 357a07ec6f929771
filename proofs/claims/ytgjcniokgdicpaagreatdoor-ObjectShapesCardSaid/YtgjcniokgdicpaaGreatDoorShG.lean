/- The reference: how many words, how many steps. -/
import Derived.Test.YtgjcniokgdicpaaGreatDoorShE
import Derived.Test.YtgjcniokgdicpaaGreatDoorShF
namespace Go.Proofs.YtgjcniokgdicpaaGreatDoor
open Go.RowKit
attribute [local go_sem] Oper.semAt_some

theorem quiet_to {P : Program} {f : FuncId} {args : Array Value} {W : World} {a b : Value} (h : Calls P f args W fun e w' => e = .returned a ∧ w' = W) (hab : a = b) : Calls P f args W fun e w' => e = .returned b ∧ Below W.heap.size W w' :=
  h.mono fun e w' q => by
    obtain ⟨q1, q2⟩ := q
    subst q2 hab
    exact ⟨q1, Below.refl _ _⟩
def headZ (o : Ob) : Int := if o.k = 1 then 4 else if o.k = 2 ∨ o.k = 5 then 1 + o.nr else if o.k = 6 then 2 else 1
def recZ (o : Ob) : Int := if o.k = 1 then 4 else if o.k = 2 then (o.nr : Int) + 2 else if o.k = 3 then 1 else o.s
theorem head_four {o : Ob} (h : o.k = 1) : headZ o = 4 := by
  unfold headZ
  simp [h]
theorem rec_four {o : Ob} (h : o.k = 1) : recZ o = 4 := by
  unfold recZ
  simp [h]
theorem head_chen {o : Ob} (h : o.k = 2) : headZ o = 1 + (o.nr : Int) := by
  unfold headZ
  simp [h]
theorem rec_chen {o : Ob} (h : o.k = 2) : recZ o = (o.nr : Int) + 2 := by
  unfold recZ
  simp [h]
theorem head_seq {o : Ob} (h : o.k = 3) : headZ o = 1 := by
  unfold headZ
  simp [h]
theorem rec_seq {o : Ob} (h : o.k = 3) : recZ o = 1 := by
  unfold recZ
  simp [h]
theorem head_ring {o : Ob} (h : o.k = 4) : headZ o = 1 := by
  unfold headZ
  simp [h]
theorem rec_ring {o : Ob} (h : o.k = 4) : recZ o = o.s := by
  unfold recZ
  simp [h]
theorem head_cab {o : Ob} (h : o.k = 5) : headZ o = 1 + (o.nr : Int) := by
  unfold headZ
  simp [h]
theorem rec_cab {o : Ob} (h : o.k = 5) : recZ o = o.s := by
  unfold recZ
  simp [h]
theorem head_fifo {o : Ob} (h : o.k = 6) : headZ o = 2 := by
  unfold headZ
  simp [h]
theorem rec_fifo {o : Ob} (h : o.k = 6) : recZ o = o.s := by
  unfold recZ
  simp [h]
theorem any_cases {o : Ob} (h : anyR o) : (o.k = 1 ∧ fourR o) ∨ (o.k = 2 ∧ chenR o) ∨ (o.k = 3 ∧ seqR o) ∨ (o.k = 4 ∧ ringR o) ∨ (o.k = 5 ∧ cabR o) ∨ (o.k = 6 ∧ fifoR o) := by
  obtain ⟨k1, k2, k3, k4, k5, k6⟩ := @kind_of o
  rcases h with q | q | q | q | q | q
  · exact .inl ⟨k1 q, q⟩
  · exact .inr (.inl ⟨k2 q, q⟩)
  · exact .inr (.inr (.inl ⟨k3 q, q⟩))
  · exact .inr (.inr (.inr (.inl ⟨k4 q, q⟩)))
  · exact .inr (.inr (.inr (.inr (.inl ⟨k5 q, q⟩))))
  · exact .inr (.inr (.inr (.inr (.inr ⟨k6 q, q⟩))))
theorem any_bd {o : Ob} (h : anyR o) : (1 ≤ o.wd ∧ o.wd ≤ 8) ∧ (1 ≤ o.nr ∧ o.nr ≤ 4) ∧ (1 ≤ headZ o ∧ headZ o ≤ 5) ∧ (1 ≤ recZ o ∧ recZ o ≤ 16) ∧ sizeZ o = headZ o + recZ o * o.wd := by
  rcases any_cases h with ⟨k, q⟩ | ⟨k, q⟩ | ⟨k, q⟩ | ⟨k, q⟩ | ⟨k, q⟩ | ⟨k, q⟩
  · have b := four_bd q
    rw [sizeZ_four q, head_four k, rec_four k]
    exact ⟨by omega, by omega, by omega, by omega, by first | rfl | omega⟩
  · have b := chen_bd q
    rw [sizeZ_chen q, head_chen k, rec_chen k]
    exact ⟨by omega, by omega, by omega, by omega, by first | rfl | omega⟩
  · have b := seq_bd q
    rw [sizeZ_seq q, head_seq k, rec_seq k]
    exact ⟨by omega, by omega, by omega, by omega, by first | rfl | omega⟩
  · have b := ring_bd q
    rw [sizeZ_ring q, head_ring k, rec_ring k]
    exact ⟨by omega, by omega, by omega, by omega, by first | rfl | omega⟩
  · have b := cab_bd q
    rw [sizeZ_cab q, head_cab k, rec_cab k]
    exact ⟨by omega, by omega, by omega, by omega, by first | rfl | omega⟩
  · have b := fifo_bd q
    rw [sizeZ_fifo q, head_fifo k, rec_fifo k]
    exact ⟨by omega, by omega, by omega, by omega, by first | rfl | omega⟩
theorem size_bd (o : Ob) : 0 ≤ sizeZ o ∧ sizeZ o ≤ 261 := by
  by_cases h : anyR o
  · obtain ⟨a, _, c, d, e⟩ := any_bd h
    have := mul_bd (a := recZ o) (b := o.wd) (by omega) (by omega) (by omega) (by omega)
    omega
  · rw [sizeZ_no h]
    omega
set_option maxRecDepth 100000 in
theorem head_o (o : Ob) (h : o.nr ≤ 4) (w : World) : Calls Tryz.prog 112 #[.agg (obA o)] w fun e w' => e = .returned (.int .i64 (headZ o)) ∧ Below w.heap.size w w' := by
  have q5 : (o.nr : Int) ≤ 4 := by omega
  obtain ⟨Z, hZ⟩ : ∃ Z, headZ o = Z := ⟨_, rfl⟩
  rw [hZ]
  have hn := ObX.new w o
  have hB := (Below.refl w.heap.size w).alloc (Nat.le_refl _) (.cells (obA o) 36)
  obtain ⟨n, hn0⟩ : ∃ n, w.heap.size = n := ⟨_, rfl⟩
  rw [hn0] at hn hB
  have HN := Lib.hid hn
  have HB := Lib.hid hB
  clear hn hB
  rw [hn0]
  by_cases hk1 : o.k = 1
  · have kb1 : (o.k == 1) = true := by simpa using hk1
    unfold headZ at hZ
    simp [hk1] at hZ
    subst hZ
    clear hk1
    unfold obA at *
    go_enter Tryz.func112, Tryz.ntmps112
    go_wp2_with fail
    go_ret
    exact ⟨rfl, HB.out⟩
  · have kb1 : (o.k == 1) = false := by simpa using hk1
    by_cases hk2 : o.k = 2
    · have kb2 : (o.k == 2) = true := by simpa using hk2
      unfold headZ at hZ
      simp [hk2] at hZ
      subst hZ
      clear hk1
      clear hk2
      unfold obA at *
      go_enter Tryz.func112, Tryz.ntmps112
      go_wp2_with fail
      go_ret
      exact ⟨rfl, HB.out⟩
    · have kb2 : (o.k == 2) = false := by simpa using hk2
      by_cases hk5 : o.k = 5
      · have kb5 : (o.k == 5) = true := by simpa using hk5
        unfold headZ at hZ
        simp [hk5] at hZ
        subst hZ
        clear hk1
        clear hk2
        clear hk5
        unfold obA at *
        go_enter Tryz.func112, Tryz.ntmps112
        go_wp2_with fail
        go_ret
        exact ⟨rfl, HB.out⟩
      · have kb5 : (o.k == 5) = false := by simpa using hk5
        by_cases hk6 : o.k = 6
        · have kb6 : (o.k == 6) = true := by simpa using hk6
          unfold headZ at hZ
          simp [hk6] at hZ
          subst hZ
          clear hk1
          clear hk2
          clear hk5
          clear hk6
          unfold obA at *
          go_enter Tryz.func112, Tryz.ntmps112
          go_wp2_with fail
          go_ret
          exact ⟨rfl, HB.out⟩
        · have kb6 : (o.k == 6) = false := by simpa using hk6
          unfold headZ at hZ
          simp [hk1, hk2, hk5, hk6] at hZ
          subst hZ
          clear hk1
          clear hk2
          clear hk5
          clear hk6
          unfold obA at *
          go_enter Tryz.func112, Tryz.ntmps112
          go_wp2_with fail
          go_ret
          exact ⟨rfl, HB.out⟩
set_option maxRecDepth 100000 in
theorem records_o (o : Ob) (h : o.nr ≤ 4) (w : World) : Calls Tryz.prog 113 #[.agg (obA o)] w fun e w' => e = .returned (.int .i64 (recZ o)) ∧ Below w.heap.size w w' := by
  have q5 : (o.nr : Int) ≤ 4 := by omega
  obtain ⟨Z, hZ⟩ : ∃ Z, recZ o = Z := ⟨_, rfl⟩
  rw [hZ]
  have hn := ObX.new w o
  have hB := (Below.refl w.heap.size w).alloc (Nat.le_refl _) (.cells (obA o) 36)
  obtain ⟨n, hn0⟩ : ∃ n, w.heap.size = n := ⟨_, rfl⟩
  rw [hn0] at hn hB
  have HN := Lib.hid hn
  have HB := Lib.hid hB
  clear hn hB
  rw [hn0]
  by_cases hk1 : o.k = 1
  · have kb1 : (o.k == 1) = true := by simpa using hk1
    unfold recZ at hZ
    simp [hk1] at hZ
    subst hZ
    clear hk1
    unfold obA at *
    go_enter Tryz.func113, Tryz.ntmps113
    go_wp2_with fail
    go_ret
    exact ⟨rfl, HB.out⟩
  · have kb1 : (o.k == 1) = false := by simpa using hk1
    by_cases hk2 : o.k = 2
    · have kb2 : (o.k == 2) = true := by simpa using hk2
      unfold recZ at hZ
      simp [hk2] at hZ
      subst hZ
      clear hk1
      clear hk2
      unfold obA at *
      go_enter Tryz.func113, Tryz.ntmps113
      go_wp2_with fail
      go_ret
      exact ⟨rfl, HB.out⟩
    · have kb2 : (o.k == 2) = false := by simpa using hk2
      by_cases hk3 : o.k = 3
      · have kb3 : (o.k == 3) = true := by simpa using hk3
        unfold recZ at hZ
        simp [hk3] at hZ
        subst hZ
        clear hk1
        clear hk2
        clear hk3
        unfold obA at *
        go_enter Tryz.func113, Tryz.ntmps113
        go_wp2_with fail
        go_ret
        exact ⟨rfl, HB.out⟩
      · have kb3 : (o.k == 3) = false := by simpa using hk3
        unfold recZ at hZ
        simp [hk1, hk2, hk3] at hZ
        subst hZ
        clear hk1
        clear hk2
        clear hk3
        unfold obA at *
        go_enter Tryz.func113, Tryz.ntmps113
        go_wp2_with fail
        go_ret
        exact ⟨rfl, HB.out⟩
set_option maxRecDepth 100000 in
set_option maxHeartbeats 1000000 in
theorem rsize_o (o : Ob) (ho : o.Ok) (w : World) : Calls Tryz.prog 36 #[.agg (obA o)] w fun e w' => e = .returned (.int .i64 (sizeZ o)) ∧ Below w.heap.size w w' := by
  by_cases h : anyR o
  · obtain ⟨⟨q1, q2⟩, ⟨q3, q4⟩, ⟨q5, q6⟩, ⟨q7, q8⟩, q9⟩ := any_bd h
    rw [q9]
    have hr := fun W => r14Right_o o ho W
    rw [decide_eq_true h] at hr
    have hc0 := fun W => head_o o q4 W
    have hc1 := fun W => records_o o q4 W
    unfold obA at hr hc0 hc1
    clear h ho q9
    obtain ⟨H, hH⟩ : ∃ H, headZ o = H := ⟨_, rfl⟩
    obtain ⟨C, hC⟩ : ∃ C, recZ o = C := ⟨_, rfl⟩
    rw [hH] at hc0 q5 q6
    rw [hC] at hc1 q7 q8
    rw [hH, hC]
    clear hH hC
    have m := mul_bd (a := C) (b := o.wd) (by omega) (by omega) (by omega) (by omega)
    have e1 : IntKind.i64.wrap (C * o.wd) = C * o.wd := sh_wrap (by omega) (by omega)
    have e2 : IntKind.i64.wrap (H + C * o.wd) = H + C * o.wd := sh_wrap (by omega) (by omega)
    have HR := Lib.hid hr
    have HC0 := Lib.hid hc0
    have HC1 := Lib.hid hc1
    clear hr hc0 hc1
    have hn := ObX.new w o
    have hB := (Below.refl w.heap.size w).alloc (Nat.le_refl _) (.cells (obA o) 36)
    obtain ⟨n, hn0⟩ : ∃ n, w.heap.size = n := ⟨_, rfl⟩
    rw [hn0] at hn hB
    have HN := Lib.hid hn
    have HB := Lib.hid hB
    clear hn hB
    rw [hn0]
    unfold obA at *
    go_enter Tryz.func36, Tryz.ntmps36
    go_wp2_with fail
    refine (HR.out _).mono ?_
    rintro e w1 ⟨rfl, hb1⟩
    have ho1 := ObX.kept (HN.out) hb1
    have hB1 := (HB.out).trans (hb1.mono (by have := (HB.out).size; omega))
    obtain ⟨d0, d1, d2, d3, d4, d5, d6, d7⟩ := ho1.cells
    go_wp2_with fail
    clear d0 d1 d2 d3 d4 d5 d6 d7
    have hSd : (fun w' : World => Below w1.heap.size w1 w' ∧ w'.cell? ⟨n, 0, none⟩ = some (.int .i64 o.k) ∧ w'.cell? ⟨n, 1, none⟩ = some (.int .i64 o.wd) ∧ w'.cell? ⟨n, 2, none⟩ = some (.int .i64 o.s) ∧ w'.cell? ⟨n, 3, none⟩ = some (.int .i64 o.c) ∧ w'.cell? ⟨n, 4, none⟩ = some (.int .u32 o.st) ∧ w'.cell? ⟨n, 5, none⟩ = some (.slice o.I o.ni o.ci) ∧ w'.cell? ⟨n, 6, none⟩ = some (.int .i64 o.wr) ∧ w'.cell? ⟨n, 7, none⟩ = some (.slice o.R o.nr o.cr)) w1.drew := ⟨(Below.refl _ w1).drew, (ObX.kept ho1 (Below.refl _ w1).drew).cells⟩
    refine wp_region_held_drew (S := (fun w' : World => Below w1.heap.size w1 w' ∧ w'.cell? ⟨n, 0, none⟩ = some (.int .i64 o.k) ∧ w'.cell? ⟨n, 1, none⟩ = some (.int .i64 o.wd) ∧ w'.cell? ⟨n, 2, none⟩ = some (.int .i64 o.s) ∧ w'.cell? ⟨n, 3, none⟩ = some (.int .i64 o.c) ∧ w'.cell? ⟨n, 4, none⟩ = some (.int .u32 o.st) ∧ w'.cell? ⟨n, 5, none⟩ = some (.slice o.I o.ni o.ci) ∧ w'.cell? ⟨n, 6, none⟩ = some (.int .i64 o.wr) ∧ w'.cell? ⟨n, 7, none⟩ = some (.slice o.R o.nr o.cr))) (by kernel_rfl) hSd (fun hHeld => ?_)
    generalize w1.drew = wd at hHeld ⊢
    have hHeld : (fun w' : World => Below w1.heap.size w1 w' ∧ w'.cell? ⟨n, 0, none⟩ = some (.int .i64 o.k) ∧ w'.cell? ⟨n, 1, none⟩ = some (.int .i64 o.wd) ∧ w'.cell? ⟨n, 2, none⟩ = some (.int .i64 o.s) ∧ w'.cell? ⟨n, 3, none⟩ = some (.int .i64 o.c) ∧ w'.cell? ⟨n, 4, none⟩ = some (.int .u32 o.st) ∧ w'.cell? ⟨n, 5, none⟩ = some (.slice o.I o.ni o.ci) ∧ w'.cell? ⟨n, 6, none⟩ = some (.int .i64 o.wr) ∧ w'.cell? ⟨n, 7, none⟩ = some (.slice o.R o.nr o.cr)) wd := hHeld
    refine wpAnyH_take (i := 0) (oi := ?_) (v := ?_) ?_ (by kernel_rfl) (by kernel_rfl) (by kernel_rfl) ?_ (Or.inl ⟨?_, ?_⟩) (by assumption) ?_
    rotate_left 2
    · (simp only [List.getElem?_toArray, List.getElem?_cons_zero]; rfl)
    · first | exact fun _ _ _ h => h | exact fun _ _ _ h => by cases h.1
    · rfl
    · ((intro wq hSq; (try dsimp only at hSq); go_simp); (try with_reducible rfl))
    try simp only [Act.put, List.setIfInBounds_toArray, List.set_cons_zero, List.set_cons_succ]
    refine wpAnyH_take (i := 2) (oi := ?_) (v := ?_) ?_ (by kernel_rfl) (by kernel_rfl) (by kernel_rfl) ?_ (Or.inl ⟨?_, ?_⟩) (by assumption) ?_
    rotate_left 2
    · (simp only [List.getElem?_toArray, List.getElem?_cons_succ, List.getElem?_cons_zero]; rfl)
    · first | exact fun _ _ _ h => h | exact fun _ _ _ h => by cases h.1
    · rfl
    · ((intro wq hSq; (try dsimp only at hSq); go_simp); (try with_reducible rfl))
    try simp only [Act.put, List.setIfInBounds_toArray, List.set_cons_zero, List.set_cons_succ]
    refine wpAnyH_take (i := 4) (oi := ?_) (v := ?_) ?_ (by kernel_rfl) (by kernel_rfl) (by kernel_rfl) ?_ (Or.inl ⟨?_, ?_⟩) (by assumption) ?_
    rotate_left 2
    · (simp only [List.getElem?_toArray, List.getElem?_cons_succ, List.getElem?_cons_zero]; rfl)
    · first | exact fun _ _ _ h => h | exact fun _ _ _ h => by cases h.1
    · rfl
    · ((intro wq hSq; (try dsimp only at hSq); go_simp); (try with_reducible rfl))
    try simp only [Act.put, List.setIfInBounds_toArray, List.set_cons_zero, List.set_cons_succ]
    refine wpAnyH_take (i := 5) (oi := ?_) (v := ?_) ?_ (by kernel_rfl) (by kernel_rfl) (by kernel_rfl) ?_ (Or.inl ⟨?_, ?_⟩) (by assumption) ?_
    rotate_left 2
    · (simp only [List.getElem?_toArray, List.getElem?_cons_succ, List.getElem?_cons_zero]; rfl)
    · first | exact fun _ _ _ h => h | exact fun _ _ _ h => by cases h.1
    · rfl
    · ((intro wq hSq; (try dsimp only at hSq); go_simp); (try with_reducible rfl))
    try simp only [Act.put, List.setIfInBounds_toArray, List.set_cons_zero, List.set_cons_succ]
    refine wpAnyH_ready (rs := [1]) (by kernel_rfl) (by simp) ?_
    refine AllReadyH.cons (o := ?_) ?_ (fun K hK => ?_) AllReadyH.nil
    rotate_left
    · (simp only [List.getElem?_toArray, List.getElem?_cons_succ, List.getElem?_cons_zero]; rfl)
    go_simp
    go_at_call 112
    refine (HC0.out _).mono ?_
    rintro ex wx ⟨rfl, hbx⟩
    have hSx : (fun w' : World => Below w1.heap.size w1 w' ∧ w'.cell? ⟨n, 0, none⟩ = some (.int .i64 o.k) ∧ w'.cell? ⟨n, 1, none⟩ = some (.int .i64 o.wd) ∧ w'.cell? ⟨n, 2, none⟩ = some (.int .i64 o.s) ∧ w'.cell? ⟨n, 3, none⟩ = some (.int .i64 o.c) ∧ w'.cell? ⟨n, 4, none⟩ = some (.int .u32 o.st) ∧ w'.cell? ⟨n, 5, none⟩ = some (.slice o.I o.ni o.ci) ∧ w'.cell? ⟨n, 6, none⟩ = some (.int .i64 o.wr) ∧ w'.cell? ⟨n, 7, none⟩ = some (.slice o.R o.nr o.cr)) wx := by
      obtain ⟨h0, u0, u1, u2, u3, u4, u5, u6, u7⟩ := hHeld
      have hk : ∀ {i : Nat} {u : Value}, _ → wx.cell? ⟨n, i, none⟩ = some u := fun {i u} hc => (hbx.cell (p := ⟨n, i, none⟩) (cell_lt hc)).trans hc
      exact ⟨h0.trans (hbx.mono h0.size), hk u0, hk u1, hk u2, hk u3, hk u4, hk u5, hk u6, hk u7⟩
    refine hK.out _ _ hSx (fun hHeld => ?_)
    clear hK K
    try simp only [Act.put, List.setIfInBounds_toArray, List.set_cons_zero, List.set_cons_succ]
    refine wpAnyH_ready (rs := [3]) (by kernel_rfl) (by simp) ?_
    refine AllReadyH.cons (o := ?_) ?_ (fun K hK => ?_) AllReadyH.nil
    rotate_left
    · (simp only [List.getElem?_toArray, List.getElem?_cons_succ, List.getElem?_cons_zero]; rfl)
    go_simp
    go_at_call 113
    refine (HC1.out _).mono ?_
    rintro ex wx ⟨rfl, hbx⟩
    have hSx : (fun w' : World => Below w1.heap.size w1 w' ∧ w'.cell? ⟨n, 0, none⟩ = some (.int .i64 o.k) ∧ w'.cell? ⟨n, 1, none⟩ = some (.int .i64 o.wd) ∧ w'.cell? ⟨n, 2, none⟩ = some (.int .i64 o.s) ∧ w'.cell? ⟨n, 3, none⟩ = some (.int .i64 o.c) ∧ w'.cell? ⟨n, 4, none⟩ = some (.int .u32 o.st) ∧ w'.cell? ⟨n, 5, none⟩ = some (.slice o.I o.ni o.ci) ∧ w'.cell? ⟨n, 6, none⟩ = some (.int .i64 o.wr) ∧ w'.cell? ⟨n, 7, none⟩ = some (.slice o.R o.nr o.cr)) wx := by
      obtain ⟨h0, u0, u1, u2, u3, u4, u5, u6, u7⟩ := hHeld
      have hk : ∀ {i : Nat} {u : Value}, _ → wx.cell? ⟨n, i, none⟩ = some u := fun {i u} hc => (hbx.cell (p := ⟨n, i, none⟩) (cell_lt hc)).trans hc
      exact ⟨h0.trans (hbx.mono h0.size), hk u0, hk u1, hk u2, hk u3, hk u4, hk u5, hk u6, hk u7⟩
    refine hK.out _ _ hSx (fun hHeld => ?_)
    clear hK K
    try simp only [Act.put, List.setIfInBounds_toArray, List.set_cons_zero, List.set_cons_succ]
    refine wpAnyH_take (i := 6) (oi := ?_) (v := ?_) ?_ (by kernel_rfl) (by kernel_rfl) (by kernel_rfl) ?_ (Or.inl ⟨?_, ?_⟩) (by assumption) ?_
    rotate_left 2
    · (simp only [List.getElem?_toArray, List.getElem?_cons_succ, List.getElem?_cons_zero]; rfl)
    · first | exact fun _ _ _ h => h | exact fun _ _ _ h => by cases h.1
    · rfl
    · ((intro wq hSq; (try dsimp only at hSq); go_simp); (try with_reducible rfl))
    try simp only [Act.put, List.setIfInBounds_toArray, List.set_cons_zero, List.set_cons_succ]
    refine wpAnyH_take (i := 7) (oi := ?_) (v := ?_) ?_ (by kernel_rfl) (by kernel_rfl) (by kernel_rfl) ?_ (Or.inl ⟨?_, ?_⟩) (by assumption) ?_
    rotate_left 2
    · (simp only [List.getElem?_toArray, List.getElem?_cons_succ, List.getElem?_cons_zero]; rfl)
    · first | exact fun _ _ _ h => h | exact fun _ _ _ h => by cases h.1
    · rfl
    · ((intro wq hSq; (try dsimp only at hSq); go_simp); (try with_reducible rfl))
    try simp only [Act.put, List.setIfInBounds_toArray, List.set_cons_zero, List.set_cons_succ]
    refine wpAnyH_take (i := 8) (oi := ?_) (v := ?_) ?_ (by kernel_rfl) (by kernel_rfl) (by kernel_rfl) ?_ (Or.inl ⟨?_, ?_⟩) (by assumption) ?_
    rotate_left 2
    · (simp only [List.getElem?_toArray, List.getElem?_cons_succ, List.getElem?_cons_zero]; rfl)
    · first | exact fun _ _ _ h => h | exact fun _ _ _ h => by cases h.1
    · rfl
    · ((intro wq hSq; (try dsimp only at hSq); go_simp); (try with_reducible rfl))
    try simp only [Act.put, List.setIfInBounds_toArray, List.set_cons_zero, List.set_cons_succ]
    refine wpAnyH_done (by kernel_rfl) ?_ _
    clear hSd
    go_wp2_with fail
    go_ret
    exact ⟨rfl, hB1.trans (hHeld.1.mono (by have := hB1.size; omega))⟩
  · rw [sizeZ_no h]
    have hr := fun W => r14Right_o o ho W
    rw [decide_eq_false h] at hr
    clear h ho
    unfold obA at hr
    have HR := Lib.hid hr
    clear hr
    have hn := ObX.new w o
    have hB := (Below.refl w.heap.size w).alloc (Nat.le_refl _) (.cells (obA o) 36)
    obtain ⟨n, hn0⟩ : ∃ n, w.heap.size = n := ⟨_, rfl⟩
    rw [hn0] at hn hB
    have HN := Lib.hid hn
    have HB := Lib.hid hB
    clear hn hB
    rw [hn0]
    unfold obA at *
    go_enter Tryz.func36, Tryz.ntmps36
    go_wp2_with fail
    refine (HR.out _).mono ?_
    rintro e w1 ⟨rfl, hb1⟩
    have ho1 := ObX.kept (HN.out) hb1
    have hB1 := (HB.out).trans (hb1.mono (by have := (HB.out).size; omega))
    obtain ⟨d0, d1, d2, d3, d4, d5, d6, d7⟩ := ho1.cells
    go_wp2_with fail
    go_ret
    exact ⟨rfl, hB1⟩
set_option maxRecDepth 100000 in
set_option maxHeartbeats 2000000 in
theorem rbound_four (o : Ob) (ho : o.Ok) (h : fourR o) (op : Int) (w : World) : Calls Tryz.prog 39 #[.agg (obA o), .int .i64 op] w fun e w' => e = .returned (.int .i64 (boundZ o op)) ∧ Below w.heap.size w w' := by
  have hk : o.k = 1 := kind_of.1 h
  have ha : anyR o := .inl h
  have hr := fun W => r14Right_o o ho W
  rw [decide_eq_true ha] at hr
  rw [boundZ_four op h]
  have hA := fun W => quiet_to (b := .int .i64 2) (rWrites_any o.k W (by rw [hk]; rfl)) (by rw [hk]; rfl)
  have hBB := fun W => quiet_to (b := .int .i64 1) (rReads_any o.k W (by rw [hk]; rfl)) (by rw [hk]; rfl)
  obtain ⟨q1, q2, q3, q4⟩ := four_bd h
  have kb1 : (o.k == 1) = true := by rw [hk]; rfl
  clear h hk ho ha
  unfold obA at hr
  have HR := Lib.hid hr
  have HA := Lib.hid hA
  have HBB := Lib.hid hBB
  clear hr hA hBB
  have hn := ObX.new w o
  have hB := (Below.refl w.heap.size w).alloc (Nat.le_refl _) (.cells (obA o) 36)
  obtain ⟨n, hn0⟩ : ∃ n, w.heap.size = n := ⟨_, rfl⟩
  rw [hn0] at hn hB
  have HN := Lib.hid hn
  have HB := Lib.hid hB
  clear hn hB
  rw [hn0]
  by_cases hA : op = 2
  · have b1 : (op != 2) = false := by simpa using hA
    have b2 : (op == 2) = true := by simpa using hA
    rw [if_pos hA]
    clear hA
    unfold obA at *
    go_enter Tryz.func39, Tryz.ntmps39
    go_wp2_with fail
    refine (HR.out _).mono ?_
    rintro e w1 ⟨rfl, hb1⟩
    have ho1 := ObX.kept (HN.out) hb1
    have hB1 := (HB.out).trans (hb1.mono (by have := (HB.out).size; omega))
    obtain ⟨d0, d1, d2, d3, d4, d5, d6, d7⟩ := ho1.cells
    go_wp2_with fail
    refine (HA.out _).mono ?_
    rintro e w2 ⟨rfl, hb2⟩
    have ho2 := ObX.kept (ho1) hb2
    have hB2 := (hB1).trans (hb2.mono (by have := (hB1).size; omega))
    clear d0 d1 d2 d3 d4 d5 d6 d7
    obtain ⟨d0, d1, d2, d3, d4, d5, d6, d7⟩ := ho2.cells
    go_wp2_with fail
    refine (HA.out _).mono ?_
    rintro e w3 ⟨rfl, hb3⟩
    have ho3 := ObX.kept (ho2) hb3
    have hB3 := (hB2).trans (hb3.mono (by have := (hB2).size; omega))
    clear d0 d1 d2 d3 d4 d5 d6 d7
    obtain ⟨d0, d1, d2, d3, d4, d5, d6, d7⟩ := ho3.cells
    go_wp2_with fail
    go_ret
    exact ⟨rfl, hB3⟩
  · have b1 : (op != 2) = true := by simpa using hA
    have b2 : (op == 2) = false := by simpa using hA
    by_cases hB2 : op = 1
    · have b3 : (op != 1) = false := by simpa using hB2
      rw [if_neg hA, if_pos hB2]
      clear hA hB2
      unfold obA at *
      go_enter Tryz.func39, Tryz.ntmps39
      go_wp2_with fail
      refine (HR.out _).mono ?_
      rintro e w1 ⟨rfl, hb1⟩
      have ho1 := ObX.kept (HN.out) hb1
      have hB1 := (HB.out).trans (hb1.mono (by have := (HB.out).size; omega))
      obtain ⟨d0, d1, d2, d3, d4, d5, d6, d7⟩ := ho1.cells
      go_wp2_with fail
      refine (HA.out _).mono ?_
      rintro e w2 ⟨rfl, hb2⟩
      have ho2 := ObX.kept (ho1) hb2
      have hB2 := (hB1).trans (hb2.mono (by have := (hB1).size; omega))
      clear d0 d1 d2 d3 d4 d5 d6 d7
      obtain ⟨d0, d1, d2, d3, d4, d5, d6, d7⟩ := ho2.cells
      go_wp2_with fail
      refine (HBB.out _).mono ?_
      rintro e w3 ⟨rfl, hb3⟩
      have ho3 := ObX.kept (ho2) hb3
      have hB3 := (hB2).trans (hb3.mono (by have := (hB2).size; omega))
      clear d0 d1 d2 d3 d4 d5 d6 d7
      obtain ⟨d0, d1, d2, d3, d4, d5, d6, d7⟩ := ho3.cells
      go_wp2_with fail
      refine (HA.out _).mono ?_
      rintro e w4 ⟨rfl, hb4⟩
      have ho4 := ObX.kept (ho3) hb4
      have hB4 := (hB3).trans (hb4.mono (by have := (hB3).size; omega))
      clear d0 d1 d2 d3 d4 d5 d6 d7
      obtain ⟨d0, d1, d2, d3, d4, d5, d6, d7⟩ := ho4.cells
      go_wp2_with fail
      go_ret
      exact ⟨rfl, hB4⟩
    · have b3 : (op != 1) = true := by simpa using hB2
      rw [if_neg hA, if_neg hB2]
      clear hA hB2
      unfold obA at *
      go_enter Tryz.func39, Tryz.ntmps39
      go_wp2_with fail
      refine (HR.out _).mono ?_
      rintro e w1 ⟨rfl, hb1⟩
      have ho1 := ObX.kept (HN.out) hb1
      have hB1 := (HB.out).trans (hb1.mono (by have := (HB.out).size; omega))
      obtain ⟨d0, d1, d2, d3, d4, d5, d6, d7⟩ := ho1.cells
      go_wp2_with fail
      refine (HA.out _).mono ?_
      rintro e w2 ⟨rfl, hb2⟩
      have ho2 := ObX.kept (ho1) hb2
      have hB2 := (hB1).trans (hb2.mono (by have := (hB1).size; omega))
      clear d0 d1 d2 d3 d4 d5 d6 d7
      obtain ⟨d0, d1, d2, d3, d4, d5, d6, d7⟩ := ho2.cells
      go_wp2_with fail
      refine (HBB.out _).mono ?_
      rintro e w3 ⟨rfl, hb3⟩
      have ho3 := ObX.kept (ho2) hb3
      have hB3 := (hB2).trans (hb3.mono (by have := (hB2).size; omega))
      clear d0 d1 d2 d3 d4 d5 d6 d7
      obtain ⟨d0, d1, d2, d3, d4, d5, d6, d7⟩ := ho3.cells
      go_wp2_with fail
      go_ret
      exact ⟨rfl, hB3⟩
set_option maxRecDepth 100000 in
set_option maxHeartbeats 2000000 in
theorem rbound_chen (o : Ob) (ho : o.Ok) (h : chenR o) (op : Int) (w : World) : Calls Tryz.prog 39 #[.agg (obA o), .int .i64 op] w fun e w' => e = .returned (.int .i64 (boundZ o op)) ∧ Below w.heap.size w w' := by
  have hk : o.k = 2 := kind_of.2.1 h
  have ha : anyR o := .inr (.inl h)
  have hr := fun W => r14Right_o o ho W
  rw [decide_eq_true ha] at hr
  rw [boundZ_chen op h]
  have hA := fun W => quiet_to (b := .int .i64 2) (rWrites_any o.k W (by rw [hk]; rfl)) (by rw [hk]; rfl)
  have hBB := fun W => quiet_to (b := .int .i64 1) (rReads_any o.k W (by rw [hk]; rfl)) (by rw [hk]; rfl)
  obtain ⟨q1, q2, q3, q4⟩ := chen_bd h
  have kb1 : (o.k == 1) = false := by rw [hk]; rfl
  have kb2 : (o.k == 2) = true := by rw [hk]; rfl
  clear h hk ho ha
  unfold obA at hr
  have HR := Lib.hid hr
  have HA := Lib.hid hA
  have HBB := Lib.hid hBB
  clear hr hA hBB
  have hn := ObX.new w o
  have hB := (Below.refl w.heap.size w).alloc (Nat.le_refl _) (.cells (obA o) 36)
  obtain ⟨n, hn0⟩ : ∃ n, w.heap.size = n := ⟨_, rfl⟩
  rw [hn0] at hn hB
  have HN := Lib.hid hn
  have HB := Lib.hid hB
  clear hn hB
  rw [hn0]
  by_cases hA : op = 2
  · have b1 : (op != 2) = false := by simpa using hA
    have b2 : (op == 2) = true := by simpa using hA
    rw [if_pos hA]
    clear hA
    unfold obA at *
    go_enter Tryz.func39, Tryz.ntmps39
    go_wp2_with fail
    refine (HR.out _).mono ?_
    rintro e w1 ⟨rfl, hb1⟩
    have ho1 := ObX.kept (HN.out) hb1
    have hB1 := (HB.out).trans (hb1.mono (by have := (HB.out).size; omega))
    obtain ⟨d0, d1, d2, d3, d4, d5, d6, d7⟩ := ho1.cells
    go_wp2_with fail
    refine (HA.out _).mono ?_
    rintro e w2 ⟨rfl, hb2⟩
    have ho2 := ObX.kept (ho1) hb2
    have hB2 := (hB1).trans (hb2.mono (by have := (hB1).size; omega))
    clear d0 d1 d2 d3 d4 d5 d6 d7
    obtain ⟨d0, d1, d2, d3, d4, d5, d6, d7⟩ := ho2.cells
    go_wp2_with fail
    refine (HA.out _).mono ?_
    rintro e w3 ⟨rfl, hb3⟩
    have ho3 := ObX.kept (ho2) hb3
    have hB3 := (hB2).trans (hb3.mono (by have := (hB2).size; omega))
    clear d0 d1 d2 d3 d4 d5 d6 d7
    obtain ⟨d0, d1, d2, d3, d4, d5, d6, d7⟩ := ho3.cells
    go_wp2_with fail
    go_ret
    exact ⟨rfl, hB3⟩
  · have b1 : (op != 2) = true := by simpa using hA
    have b2 : (op == 2) = false := by simpa using hA
    by_cases hB2 : op = 1
    · have b3 : (op != 1) = false := by simpa using hB2
      rw [if_neg hA, if_pos hB2]
      clear hA hB2
      unfold obA at *
      go_enter Tryz.func39, Tryz.ntmps39
      go_wp2_with fail
      refine (HR.out _).mono ?_
      rintro e w1 ⟨rfl, hb1⟩
      have ho1 := ObX.kept (HN.out) hb1
      have hB1 := (HB.out).trans (hb1.mono (by have := (HB.out).size; omega))
      obtain ⟨d0, d1, d2, d3, d4, d5, d6, d7⟩ := ho1.cells
      go_wp2_with fail
      refine (HA.out _).mono ?_
      rintro e w2 ⟨rfl, hb2⟩
      have ho2 := ObX.kept (ho1) hb2
      have hB2 := (hB1).trans (hb2.mono (by have := (hB1).size; omega))
      clear d0 d1 d2 d3 d4 d5 d6 d7
      obtain ⟨d0, d1, d2, d3, d4, d5, d6, d7⟩ := ho2.cells
      go_wp2_with fail
      refine (HBB.out _).mono ?_
      rintro e w3 ⟨rfl, hb3⟩
      have ho3 := ObX.kept (ho2) hb3
      have hB3 := (hB2).trans (hb3.mono (by have := (hB2).size; omega))
      clear d0 d1 d2 d3 d4 d5 d6 d7
      obtain ⟨d0, d1, d2, d3, d4, d5, d6, d7⟩ := ho3.cells
      go_wp2_with fail
      refine (HA.out _).mono ?_
      rintro e w4 ⟨rfl, hb4⟩
      have ho4 := ObX.kept (ho3) hb4
      have hB4 := (hB3).trans (hb4.mono (by have := (hB3).size; omega))
      clear d0 d1 d2 d3 d4 d5 d6 d7
      obtain ⟨d0, d1, d2, d3, d4, d5, d6, d7⟩ := ho4.cells
      go_wp2_with fail
      go_ret
      exact ⟨rfl, hB4⟩
    · have b3 : (op != 1) = true := by simpa using hB2
      rw [if_neg hA, if_neg hB2]
      clear hA hB2
      unfold obA at *
      go_enter Tryz.func39, Tryz.ntmps39
      go_wp2_with fail
      refine (HR.out _).mono ?_
      rintro e w1 ⟨rfl, hb1⟩
      have ho1 := ObX.kept (HN.out) hb1
      have hB1 := (HB.out).trans (hb1.mono (by have := (HB.out).size; omega))
      obtain ⟨d0, d1, d2, d3, d4, d5, d6, d7⟩ := ho1.cells
      go_wp2_with fail
      refine (HA.out _).mono ?_
      rintro e w2 ⟨rfl, hb2⟩
      have ho2 := ObX.kept (ho1) hb2
      have hB2 := (hB1).trans (hb2.mono (by have := (hB1).size; omega))
      clear d0 d1 d2 d3 d4 d5 d6 d7
      obtain ⟨d0, d1, d2, d3, d4, d5, d6, d7⟩ := ho2.cells
      go_wp2_with fail
      refine (HBB.out _).mono ?_
      rintro e w3 ⟨rfl, hb3⟩
      have ho3 := ObX.kept (ho2) hb3
      have hB3 := (hB2).trans (hb3.mono (by have := (hB2).size; omega))
      clear d0 d1 d2 d3 d4 d5 d6 d7
      obtain ⟨d0, d1, d2, d3, d4, d5, d6, d7⟩ := ho3.cells
      go_wp2_with fail
      go_ret
      exact ⟨rfl, hB3⟩
set_option maxRecDepth 100000 in
set_option maxHeartbeats 2000000 in
theorem rbound_seq (o : Ob) (ho : o.Ok) (h : seqR o) (op : Int) (w : World) : Calls Tryz.prog 39 #[.agg (obA o), .int .i64 op] w fun e w' => e = .returned (.int .i64 (boundZ o op)) ∧ Below w.heap.size w w' := by
  have hk : o.k = 3 := kind_of.2.2.1 h
  have ha : anyR o := .inr (.inr (.inl h))
  have hr := fun W => r14Right_o o ho W
  rw [decide_eq_true ha] at hr
  rw [boundZ_seq op h]
  have hA := fun W => quiet_to (b := .int .i64 2) (rWrites_any o.k W (by rw [hk]; rfl)) (by rw [hk]; rfl)
  have hBB := fun W => quiet_to (b := .int .i64 1) (rReads_any o.k W (by rw [hk]; rfl)) (by rw [hk]; rfl)
  obtain ⟨q1, q2, q3, q4, q5, q6⟩ := seq_bd h
  have kb1 : (o.k == 1) = false := by rw [hk]; rfl
  have kb2 : (o.k == 2) = false := by rw [hk]; rfl
  have kb3 : (o.k == 3) = true := by rw [hk]; rfl
  have m := mul_bd (a := o.c) (b := o.wd + 2) (by omega) (by omega) (by omega) (by omega)
  have e1 : IntKind.i64.wrap (o.c * (o.wd + 2)) = o.c * (o.wd + 2) := sh_wrap (by omega) (by omega)
  clear h hk ho ha
  unfold obA at hr
  have HR := Lib.hid hr
  have HA := Lib.hid hA
  have HBB := Lib.hid hBB
  clear hr hA hBB
  have hn := ObX.new w o
  have hB := (Below.refl w.heap.size w).alloc (Nat.le_refl _) (.cells (obA o) 36)
  obtain ⟨n, hn0⟩ : ∃ n, w.heap.size = n := ⟨_, rfl⟩
  rw [hn0] at hn hB
  have HN := Lib.hid hn
  have HB := Lib.hid hB
  clear hn hB
  rw [hn0]
  by_cases hA : op = 2
  · have b1 : (op != 2) = false := by simpa using hA
    have b2 : (op == 2) = true := by simpa using hA
    rw [if_pos hA]
    clear hA
    unfold obA at *
    go_enter Tryz.func39, Tryz.ntmps39
    go_wp2_with fail
    refine (HR.out _).mono ?_
    rintro e w1 ⟨rfl, hb1⟩
    have ho1 := ObX.kept (HN.out) hb1
    have hB1 := (HB.out).trans (hb1.mono (by have := (HB.out).size; omega))
    obtain ⟨d0, d1, d2, d3, d4, d5, d6, d7⟩ := ho1.cells
    go_wp2_with fail
    refine (HA.out _).mono ?_
    rintro e w2 ⟨rfl, hb2⟩
    have ho2 := ObX.kept (ho1) hb2
    have hB2 := (hB1).trans (hb2.mono (by have := (hB1).size; omega))
    clear d0 d1 d2 d3 d4 d5 d6 d7
    obtain ⟨d0, d1, d2, d3, d4, d5, d6, d7⟩ := ho2.cells
    go_wp2_with fail
    refine (HA.out _).mono ?_
    rintro e w3 ⟨rfl, hb3⟩
    have ho3 := ObX.kept (ho2) hb3
    have hB3 := (hB2).trans (hb3.mono (by have := (hB2).size; omega))
    clear d0 d1 d2 d3 d4 d5 d6 d7
    obtain ⟨d0, d1, d2, d3, d4, d5, d6, d7⟩ := ho3.cells
    go_wp2_with fail
    go_ret
    exact ⟨rfl, hB3⟩
  · have b1 : (op != 2) = true := by simpa using hA
    have b2 : (op == 2) = false := by simpa using hA
    by_cases hB2 : op = 1
    · have b3 : (op != 1) = false := by simpa using hB2
      rw [if_neg hA, if_pos hB2]
      clear hA hB2
      unfold obA at *
      go_enter Tryz.func39, Tryz.ntmps39
      go_wp2_with fail
      refine (HR.out _).mono ?_
      rintro e w1 ⟨rfl, hb1⟩
      have ho1 := ObX.kept (HN.out) hb1
      have hB1 := (HB.out).trans (hb1.mono (by have := (HB.out).size; omega))
      obtain ⟨d0, d1, d2, d3, d4, d5, d6, d7⟩ := ho1.cells
      go_wp2_with fail
      refine (HA.out _).mono ?_
      rintro e w2 ⟨rfl, hb2⟩
      have ho2 := ObX.kept (ho1) hb2
      have hB2 := (hB1).trans (hb2.mono (by have := (hB1).size; omega))
      clear d0 d1 d2 d3 d4 d5 d6 d7
      obtain ⟨d0, d1, d2, d3, d4, d5, d6, d7⟩ := ho2.cells
      go_wp2_with fail
      refine (HBB.out _).mono ?_
      rintro e w3 ⟨rfl, hb3⟩
      have ho3 := ObX.kept (ho2) hb3
      have hB3 := (hB2).trans (hb3.mono (by have := (hB2).size; omega))
      clear d0 d1 d2 d3 d4 d5 d6 d7
      obtain ⟨d0, d1, d2, d3, d4, d5, d6, d7⟩ := ho3.cells
      go_wp2_with fail
      refine (HA.out _).mono ?_
      rintro e w4 ⟨rfl, hb4⟩
      have ho4 := ObX.kept (ho3) hb4
      have hB4 := (hB3).trans (hb4.mono (by have := (hB3).size; omega))
      clear d0 d1 d2 d3 d4 d5 d6 d7
      obtain ⟨d0, d1, d2, d3, d4, d5, d6, d7⟩ := ho4.cells
      go_wp2_with fail
      go_ret
      exact ⟨rfl, hB4⟩
    · have b3 : (op != 1) = true := by simpa using hB2
      rw [if_neg hA, if_neg hB2]
      clear hA hB2
      unfold obA at *
      go_enter Tryz.func39, Tryz.ntmps39
      go_wp2_with fail
      refine (HR.out _).mono ?_
      rintro e w1 ⟨rfl, hb1⟩
      have ho1 := ObX.kept (HN.out) hb1
      have hB1 := (HB.out).trans (hb1.mono (by have := (HB.out).size; omega))
      obtain ⟨d0, d1, d2, d3, d4, d5, d6, d7⟩ := ho1.cells
      go_wp2_with fail
      refine (HA.out _).mono ?_
      rintro e w2 ⟨rfl, hb2⟩
      have ho2 := ObX.kept (ho1) hb2
      have hB2 := (hB1).trans (hb2.mono (by have := (hB1).size; omega))
      clear d0 d1 d2 d3 d4 d5 d6 d7
      obtain ⟨d0, d1, d2, d3, d4, d5, d6, d7⟩ := ho2.cells
      go_wp2_with fail
      refine (HBB.out _).mono ?_
      rintro e w3 ⟨rfl, hb3⟩
      have ho3 := ObX.kept (ho2) hb3
      have hB3 := (hB2).trans (hb3.mono (by have := (hB2).size; omega))
      clear d0 d1 d2 d3 d4 d5 d6 d7
      obtain ⟨d0, d1, d2, d3, d4, d5, d6, d7⟩ := ho3.cells
      go_wp2_with fail
      go_ret
      exact ⟨rfl, hB3⟩
set_option maxRecDepth 100000 in
set_option maxHeartbeats 2000000 in
theorem rbound_ring (o : Ob) (ho : o.Ok) (h : ringR o) (op : Int) (w : World) : Calls Tryz.prog 39 #[.agg (obA o), .int .i64 op] w fun e w' => e = .returned (.int .i64 (boundZ o op)) ∧ Below w.heap.size w w' := by
  have hk : o.k = 4 := kind_of.2.2.2.1 h
  have ha : anyR o := .inr (.inr (.inr (.inl h)))
  have hr := fun W => r14Right_o o ho W
  rw [decide_eq_true ha] at hr
  rw [boundZ_ring op h]
  have hA := fun W => quiet_to (b := .int .i64 2) (rWrites_any o.k W (by rw [hk]; rfl)) (by rw [hk]; rfl)
  have hBB := fun W => quiet_to (b := .int .i64 1) (rReads_any o.k W (by rw [hk]; rfl)) (by rw [hk]; rfl)
  obtain ⟨q1, q2, q3, q4, q5, q6, q7, q8⟩ := ring_bd h
  have kb1 : (o.k == 1) = false := by rw [hk]; rfl
  have kb2 : (o.k == 2) = false := by rw [hk]; rfl
  have kb3 : (o.k == 3) = false := by rw [hk]; rfl
  have kb4 : (o.k == 4) = true := by rw [hk]; rfl
  have m := mul_bd (a := o.c) (b := o.wd + 2) (by omega) (by omega) (by omega) (by omega)
  have e1 : IntKind.i64.wrap (o.c * (o.wd + 2)) = o.c * (o.wd + 2) := sh_wrap (by omega) (by omega)
  clear h hk ho ha
  unfold obA at hr
  have HR := Lib.hid hr
  have HA := Lib.hid hA
  have HBB := Lib.hid hBB
  clear hr hA hBB
  have hn := ObX.new w o
  have hB := (Below.refl w.heap.size w).alloc (Nat.le_refl _) (.cells (obA o) 36)
  obtain ⟨n, hn0⟩ : ∃ n, w.heap.size = n := ⟨_, rfl⟩
  rw [hn0] at hn hB
  have HN := Lib.hid hn
  have HB := Lib.hid hB
  clear hn hB
  rw [hn0]
  by_cases hA : op = 2
  · have b1 : (op != 2) = false := by simpa using hA
    have b2 : (op == 2) = true := by simpa using hA
    rw [if_pos hA]
    clear hA
    unfold obA at *
    go_enter Tryz.func39, Tryz.ntmps39
    go_wp2_with fail
    refine (HR.out _).mono ?_
    rintro e w1 ⟨rfl, hb1⟩
    have ho1 := ObX.kept (HN.out) hb1
    have hB1 := (HB.out).trans (hb1.mono (by have := (HB.out).size; omega))
    obtain ⟨d0, d1, d2, d3, d4, d5, d6, d7⟩ := ho1.cells
    go_wp2_with fail
    refine (HA.out _).mono ?_
    rintro e w2 ⟨rfl, hb2⟩
    have ho2 := ObX.kept (ho1) hb2
    have hB2 := (hB1).trans (hb2.mono (by have := (hB1).size; omega))
    clear d0 d1 d2 d3 d4 d5 d6 d7
    obtain ⟨d0, d1, d2, d3, d4, d5, d6, d7⟩ := ho2.cells
    go_wp2_with fail
    refine (HA.out _).mono ?_
    rintro e w3 ⟨rfl, hb3⟩
    have ho3 := ObX.kept (ho2) hb3
    have hB3 := (hB2).trans (hb3.mono (by have := (hB2).size; omega))
    clear d0 d1 d2 d3 d4 d5 d6 d7
    obtain ⟨d0, d1, d2, d3, d4, d5, d6, d7⟩ := ho3.cells
    go_wp2_with fail
    go_ret
    exact ⟨rfl, hB3⟩
  · have b1 : (op != 2) = true := by simpa using hA
    have b2 : (op == 2) = false := by simpa using hA
    by_cases hB2 : op = 1
    · have b3 : (op != 1) = false := by simpa using hB2
      rw [if_neg hA, if_pos hB2]
      clear hA hB2
      unfold obA at *
      go_enter Tryz.func39, Tryz.ntmps39
      go_wp2_with fail
      refine (HR.out _).mono ?_
      rintro e w1 ⟨rfl, hb1⟩
      have ho1 := ObX.kept (HN.out) hb1
      have hB1 := (HB.out).trans (hb1.mono (by have := (HB.out).size; omega))
      obtain ⟨d0, d1, d2, d3, d4, d5, d6, d7⟩ := ho1.cells
      go_wp2_with fail
      refine (HA.out _).mono ?_
      rintro e w2 ⟨rfl, hb2⟩
      have ho2 := ObX.kept (ho1) hb2
      have hB2 := (hB1).trans (hb2.mono (by have := (hB1).size; omega))
      clear d0 d1 d2 d3 d4 d5 d6 d7
      obtain ⟨d0, d1, d2, d3, d4, d5, d6, d7⟩ := ho2.cells
      go_wp2_with fail
      refine (HBB.out _).mono ?_
      rintro e w3 ⟨rfl, hb3⟩
      have ho3 := ObX.kept (ho2) hb3
      have hB3 := (hB2).trans (hb3.mono (by have := (hB2).size; omega))
      clear d0 d1 d2 d3 d4 d5 d6 d7
      obtain ⟨d0, d1, d2, d3, d4, d5, d6, d7⟩ := ho3.cells
      go_wp2_with fail
      refine (HA.out _).mono ?_
      rintro e w4 ⟨rfl, hb4⟩
      have ho4 := ObX.kept (ho3) hb4
      have hB4 := (hB3).trans (hb4.mono (by have := (hB3).size; omega))
      clear d0 d1 d2 d3 d4 d5 d6 d7
      obtain ⟨d0, d1, d2, d3, d4, d5, d6, d7⟩ := ho4.cells
      go_wp2_with fail
      go_ret
      exact ⟨rfl, hB4⟩
    · have b3 : (op != 1) = true := by simpa using hB2
      rw [if_neg hA, if_neg hB2]
      clear hA hB2
      unfold obA at *
      go_enter Tryz.func39, Tryz.ntmps39
      go_wp2_with fail
      refine (HR.out _).mono ?_
      rintro e w1 ⟨rfl, hb1⟩
      have ho1 := ObX.kept (HN.out) hb1
      have hB1 := (HB.out).trans (hb1.mono (by have := (HB.out).size; omega))
      obtain ⟨d0, d1, d2, d3, d4, d5, d6, d7⟩ := ho1.cells
      go_wp2_with fail
      refine (HA.out _).mono ?_
      rintro e w2 ⟨rfl, hb2⟩
      have ho2 := ObX.kept (ho1) hb2
      have hB2 := (hB1).trans (hb2.mono (by have := (hB1).size; omega))
      clear d0 d1 d2 d3 d4 d5 d6 d7
      obtain ⟨d0, d1, d2, d3, d4, d5, d6, d7⟩ := ho2.cells
      go_wp2_with fail
      refine (HBB.out _).mono ?_
      rintro e w3 ⟨rfl, hb3⟩
      have ho3 := ObX.kept (ho2) hb3
      have hB3 := (hB2).trans (hb3.mono (by have := (hB2).size; omega))
      clear d0 d1 d2 d3 d4 d5 d6 d7
      obtain ⟨d0, d1, d2, d3, d4, d5, d6, d7⟩ := ho3.cells
      go_wp2_with fail
      go_ret
      exact ⟨rfl, hB3⟩
set_option maxRecDepth 100000 in
set_option maxHeartbeats 2000000 in
theorem rbound_cab (o : Ob) (ho : o.Ok) (h : cabR o) (op : Int) (w : World) : Calls Tryz.prog 39 #[.agg (obA o), .int .i64 op] w fun e w' => e = .returned (.int .i64 (boundZ o op)) ∧ Below w.heap.size w w' := by
  have hk : o.k = 5 := kind_of.2.2.2.2.1 h
  have ha : anyR o := .inr (.inr (.inr (.inr (.inl h))))
  have hr := fun W => r14Right_o o ho W
  rw [decide_eq_true ha] at hr
  rw [boundZ_cab op h]
  have hA := fun W => quiet_to (b := .int .i64 2) (rWrites_any o.k W (by rw [hk]; rfl)) (by rw [hk]; rfl)
  have hBB := fun W => quiet_to (b := .int .i64 1) (rReads_any o.k W (by rw [hk]; rfl)) (by rw [hk]; rfl)
  obtain ⟨q1, q2, q3, q4, q5, q6, q7, q8⟩ := cab_bd h
  have kb1 : (o.k == 1) = false := by rw [hk]; rfl
  have kb2 : (o.k == 2) = false := by rw [hk]; rfl
  have kb3 : (o.k == 3) = false := by rw [hk]; rfl
  have kb4 : (o.k == 4) = false := by rw [hk]; rfl
  have kb5 : (o.k == 5) = true := by rw [hk]; rfl
  clear h hk ho ha
  unfold obA at hr
  have HR := Lib.hid hr
  have HA := Lib.hid hA
  have HBB := Lib.hid hBB
  clear hr hA hBB
  have hn := ObX.new w o
  have hB := (Below.refl w.heap.size w).alloc (Nat.le_refl _) (.cells (obA o) 36)
  obtain ⟨n, hn0⟩ : ∃ n, w.heap.size = n := ⟨_, rfl⟩
  rw [hn0] at hn hB
  have HN := Lib.hid hn
  have HB := Lib.hid hB
  clear hn hB
  rw [hn0]
  by_cases hA : op = 2
  · have b1 : (op != 2) = false := by simpa using hA
    have b2 : (op == 2) = true := by simpa using hA
    rw [if_pos hA]
    clear hA
    unfold obA at *
    go_enter Tryz.func39, Tryz.ntmps39
    go_wp2_with fail
    refine (HR.out _).mono ?_
    rintro e w1 ⟨rfl, hb1⟩
    have ho1 := ObX.kept (HN.out) hb1
    have hB1 := (HB.out).trans (hb1.mono (by have := (HB.out).size; omega))
    obtain ⟨d0, d1, d2, d3, d4, d5, d6, d7⟩ := ho1.cells
    go_wp2_with fail
    refine (HA.out _).mono ?_
    rintro e w2 ⟨rfl, hb2⟩
    have ho2 := ObX.kept (ho1) hb2
    have hB2 := (hB1).trans (hb2.mono (by have := (hB1).size; omega))
    clear d0 d1 d2 d3 d4 d5 d6 d7
    obtain ⟨d0, d1, d2, d3, d4, d5, d6, d7⟩ := ho2.cells
    go_wp2_with fail
    refine (HA.out _).mono ?_
    rintro e w3 ⟨rfl, hb3⟩
    have ho3 := ObX.kept (ho2) hb3
    have hB3 := (hB2).trans (hb3.mono (by have := (hB2).size; omega))
    clear d0 d1 d2 d3 d4 d5 d6 d7
    obtain ⟨d0, d1, d2, d3, d4, d5, d6, d7⟩ := ho3.cells
    go_wp2_with fail
    go_ret
    exact ⟨rfl, hB3⟩
  · have b1 : (op != 2) = true := by simpa using hA
    have b2 : (op == 2) = false := by simpa using hA
    by_cases hB2 : op = 1
    · have b3 : (op != 1) = false := by simpa using hB2
      rw [if_neg hA, if_pos hB2]
      clear hA hB2
      unfold obA at *
      go_enter Tryz.func39, Tryz.ntmps39
      go_wp2_with fail
      refine (HR.out _).mono ?_
      rintro e w1 ⟨rfl, hb1⟩
      have ho1 := ObX.kept (HN.out) hb1
      have hB1 := (HB.out).trans (hb1.mono (by have := (HB.out).size; omega))
      obtain ⟨d0, d1, d2, d3, d4, d5, d6, d7⟩ := ho1.cells
      go_wp2_with fail
      refine (HA.out _).mono ?_
      rintro e w2 ⟨rfl, hb2⟩
      have ho2 := ObX.kept (ho1) hb2
      have hB2 := (hB1).trans (hb2.mono (by have := (hB1).size; omega))
      clear d0 d1 d2 d3 d4 d5 d6 d7
      obtain ⟨d0, d1, d2, d3, d4, d5, d6, d7⟩ := ho2.cells
      go_wp2_with fail
      refine (HBB.out _).mono ?_
      rintro e w3 ⟨rfl, hb3⟩
      have ho3 := ObX.kept (ho2) hb3
      have hB3 := (hB2).trans (hb3.mono (by have := (hB2).size; omega))
      clear d0 d1 d2 d3 d4 d5 d6 d7
      obtain ⟨d0, d1, d2, d3, d4, d5, d6, d7⟩ := ho3.cells
      go_wp2_with fail
      refine (HA.out _).mono ?_
      rintro e w4 ⟨rfl, hb4⟩
      have ho4 := ObX.kept (ho3) hb4
      have hB4 := (hB3).trans (hb4.mono (by have := (hB3).size; omega))
      clear d0 d1 d2 d3 d4 d5 d6 d7
      obtain ⟨d0, d1, d2, d3, d4, d5, d6, d7⟩ := ho4.cells
      go_wp2_with fail
      go_ret
      exact ⟨rfl, hB4⟩
    · have b3 : (op != 1) = true := by simpa using hB2
      rw [if_neg hA, if_neg hB2]
      clear hA hB2
      unfold obA at *
      go_enter Tryz.func39, Tryz.ntmps39
      go_wp2_with fail
      refine (HR.out _).mono ?_
      rintro e w1 ⟨rfl, hb1⟩
      have ho1 := ObX.kept (HN.out) hb1
      have hB1 := (HB.out).trans (hb1.mono (by have := (HB.out).size; omega))
      obtain ⟨d0, d1, d2, d3, d4, d5, d6, d7⟩ := ho1.cells
      go_wp2_with fail
      refine (HA.out _).mono ?_
      rintro e w2 ⟨rfl, hb2⟩
      have ho2 := ObX.kept (ho1) hb2
      have hB2 := (hB1).trans (hb2.mono (by have := (hB1).size; omega))
      clear d0 d1 d2 d3 d4 d5 d6 d7
      obtain ⟨d0, d1, d2, d3, d4, d5, d6, d7⟩ := ho2.cells
      go_wp2_with fail
      refine (HBB.out _).mono ?_
      rintro e w3 ⟨rfl, hb3⟩
      have ho3 := ObX.kept (ho2) hb3
      have hB3 := (hB2).trans (hb3.mono (by have := (hB2).size; omega))
      clear d0 d1 d2 d3 d4 d5 d6 d7
      obtain ⟨d0, d1, d2, d3, d4, d5, d6, d7⟩ := ho3.cells
      go_wp2_with fail
      go_ret
      exact ⟨rfl, hB3⟩
set_option maxRecDepth 100000 in
set_option maxHeartbeats 2000000 in
theorem rbound_fifo (o : Ob) (ho : o.Ok) (h : fifoR o) (op : Int) (w : World) : Calls Tryz.prog 39 #[.agg (obA o), .int .i64 op] w fun e w' => e = .returned (.int .i64 (boundZ o op)) ∧ Below w.heap.size w w' := by
  have hk : o.k = 6 := kind_of.2.2.2.2.2 h
  have ha : anyR o := .inr (.inr (.inr (.inr (.inr h))))
  have hr := fun W => r14Right_o o ho W
  rw [decide_eq_true ha] at hr
  rw [boundZ_fifo op h]
  have hA := fun W => quiet_to (b := .int .i64 3) (rWrites_any o.k W (by rw [hk]; rfl)) (by rw [hk]; rfl)
  have hBB := fun W => quiet_to (b := .int .i64 4) (rReads_any o.k W (by rw [hk]; rfl)) (by rw [hk]; rfl)
  obtain ⟨q1, q2, q3, q4, q5, q6⟩ := fifo_bd h
  have kb1 : (o.k == 1) = false := by rw [hk]; rfl
  have kb2 : (o.k == 2) = false := by rw [hk]; rfl
  have kb3 : (o.k == 3) = false := by rw [hk]; rfl
  have kb4 : (o.k == 4) = false := by rw [hk]; rfl
  have kb5 : (o.k == 5) = false := by rw [hk]; rfl
  clear h hk ho ha
  unfold obA at hr
  have HR := Lib.hid hr
  have HA := Lib.hid hA
  have HBB := Lib.hid hBB
  clear hr hA hBB
  have hn := ObX.new w o
  have hB := (Below.refl w.heap.size w).alloc (Nat.le_refl _) (.cells (obA o) 36)
  obtain ⟨n, hn0⟩ : ∃ n, w.heap.size = n := ⟨_, rfl⟩
  rw [hn0] at hn hB
  have HN := Lib.hid hn
  have HB := Lib.hid hB
  clear hn hB
  rw [hn0]
  by_cases hA : op = 3
  · have b1 : (op != 3) = false := by simpa using hA
    have b2 : (op == 3) = true := by simpa using hA
    rw [if_pos (.inl hA)]
    clear hA
    unfold obA at *
    go_enter Tryz.func39, Tryz.ntmps39
    go_wp2_with fail
    refine (HR.out _).mono ?_
    rintro e w1 ⟨rfl, hb1⟩
    have ho1 := ObX.kept (HN.out) hb1
    have hB1 := (HB.out).trans (hb1.mono (by have := (HB.out).size; omega))
    obtain ⟨d0, d1, d2, d3, d4, d5, d6, d7⟩ := ho1.cells
    go_wp2_with fail
    refine (HA.out _).mono ?_
    rintro e w2 ⟨rfl, hb2⟩
    have ho2 := ObX.kept (ho1) hb2
    have hB2 := (hB1).trans (hb2.mono (by have := (hB1).size; omega))
    clear d0 d1 d2 d3 d4 d5 d6 d7
    obtain ⟨d0, d1, d2, d3, d4, d5, d6, d7⟩ := ho2.cells
    go_wp2_with fail
    refine (HA.out _).mono ?_
    rintro e w3 ⟨rfl, hb3⟩
    have ho3 := ObX.kept (ho2) hb3
    have hB3 := (hB2).trans (hb3.mono (by have := (hB2).size; omega))
    clear d0 d1 d2 d3 d4 d5 d6 d7
    obtain ⟨d0, d1, d2, d3, d4, d5, d6, d7⟩ := ho3.cells
    go_wp2_with fail
    go_ret
    exact ⟨rfl, hB3⟩
  · have b1 : (op != 3) = true := by simpa using hA
    have b2 : (op == 3) = false := by simpa using hA
    by_cases hB2 : op = 4
    · have b3 : (op != 4) = false := by simpa using hB2
      rw [if_pos (.inr hB2)]
      clear hA hB2
      unfold obA at *
      go_enter Tryz.func39, Tryz.ntmps39
      go_wp2_with fail
      refine (HR.out _).mono ?_
      rintro e w1 ⟨rfl, hb1⟩
      have ho1 := ObX.kept (HN.out) hb1
      have hB1 := (HB.out).trans (hb1.mono (by have := (HB.out).size; omega))
      obtain ⟨d0, d1, d2, d3, d4, d5, d6, d7⟩ := ho1.cells
      go_wp2_with fail
      refine (HA.out _).mono ?_
      rintro e w2 ⟨rfl, hb2⟩
      have ho2 := ObX.kept (ho1) hb2
      have hB2 := (hB1).trans (hb2.mono (by have := (hB1).size; omega))
      clear d0 d1 d2 d3 d4 d5 d6 d7
      obtain ⟨d0, d1, d2, d3, d4, d5, d6, d7⟩ := ho2.cells
      go_wp2_with fail
      refine (HBB.out _).mono ?_
      rintro e w3 ⟨rfl, hb3⟩
      have ho3 := ObX.kept (ho2) hb3
      have hB3 := (hB2).trans (hb3.mono (by have := (hB2).size; omega))
      clear d0 d1 d2 d3 d4 d5 d6 d7
      obtain ⟨d0, d1, d2, d3, d4, d5, d6, d7⟩ := ho3.cells
      go_wp2_with fail
      refine (HA.out _).mono ?_
      rintro e w4 ⟨rfl, hb4⟩
      have ho4 := ObX.kept (ho3) hb4
      have hB4 := (hB3).trans (hb4.mono (by have := (hB3).size; omega))
      clear d0 d1 d2 d3 d4 d5 d6 d7
      obtain ⟨d0, d1, d2, d3, d4, d5, d6, d7⟩ := ho4.cells
      go_wp2_with fail
      go_ret
      exact ⟨rfl, hB4⟩
    · have b3 : (op != 4) = true := by simpa using hB2
      rw [if_neg (by omega)]
      clear hA hB2
      unfold obA at *
      go_enter Tryz.func39, Tryz.ntmps39
      go_wp2_with fail
      refine (HR.out _).mono ?_
      rintro e w1 ⟨rfl, hb1⟩
      have ho1 := ObX.kept (HN.out) hb1
      have hB1 := (HB.out).trans (hb1.mono (by have := (HB.out).size; omega))
      obtain ⟨d0, d1, d2, d3, d4, d5, d6, d7⟩ := ho1.cells
      go_wp2_with fail
      refine (HA.out _).mono ?_
      rintro e w2 ⟨rfl, hb2⟩
      have ho2 := ObX.kept (ho1) hb2
      have hB2 := (hB1).trans (hb2.mono (by have := (hB1).size; omega))
      clear d0 d1 d2 d3 d4 d5 d6 d7
      obtain ⟨d0, d1, d2, d3, d4, d5, d6, d7⟩ := ho2.cells
      go_wp2_with fail
      refine (HBB.out _).mono ?_
      rintro e w3 ⟨rfl, hb3⟩
      have ho3 := ObX.kept (ho2) hb3
      have hB3 := (hB2).trans (hb3.mono (by have := (hB2).size; omega))
      clear d0 d1 d2 d3 d4 d5 d6 d7
      obtain ⟨d0, d1, d2, d3, d4, d5, d6, d7⟩ := ho3.cells
      go_wp2_with fail
      go_ret
      exact ⟨rfl, hB3⟩
set_option maxRecDepth 100000 in
theorem rbound_o (o : Ob) (ho : o.Ok) (op : Int) (w : World) : Calls Tryz.prog 39 #[.agg (obA o), .int .i64 op] w fun e w' => e = .returned (.int .i64 (boundZ o op)) ∧ Below w.heap.size w w' := by
  by_cases h : anyR o
  · rcases h with h | h | h | h | h | h
    · exact rbound_four o ho h op w
    · exact rbound_chen o ho h op w
    · exact rbound_seq o ho h op w
    · exact rbound_ring o ho h op w
    · exact rbound_cab o ho h op w
    · exact rbound_fifo o ho h op w
  · rw [boundZ_no op h]
    have hr := fun W => r14Right_o o ho W
    rw [decide_eq_false h] at hr
    clear h ho
    unfold obA at hr
    have HR := Lib.hid hr
    clear hr
    have hn := ObX.new w o
    have hB := (Below.refl w.heap.size w).alloc (Nat.le_refl _) (.cells (obA o) 36)
    obtain ⟨n, hn0⟩ : ∃ n, w.heap.size = n := ⟨_, rfl⟩
    rw [hn0] at hn hB
    have HN := Lib.hid hn
    have HB := Lib.hid hB
    clear hn hB
    rw [hn0]
    unfold obA at *
    go_enter Tryz.func39, Tryz.ntmps39
    go_wp2_with fail
    refine (HR.out _).mono ?_
    rintro e w1 ⟨rfl, hb1⟩
    have ho1 := ObX.kept (HN.out) hb1
    have hB1 := (HB.out).trans (hb1.mono (by have := (HB.out).size; omega))
    obtain ⟨d0, d1, d2, d3, d4, d5, d6, d7⟩ := ho1.cells
    go_wp2_with fail
    go_ret
    exact ⟨rfl, hB1⟩

end Go.Proofs.YtgjcniokgdicpaaGreatDoor
