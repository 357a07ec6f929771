/- An object's words at the beginning: the kinds' Lay. -/
import Derived.Test.YtgjcniokgdicpaaGreatDoorShH
import Derived.Test.YtgjcniokgdicpaaGreatDoorHeld
namespace Go.Proofs.YtgjcniokgdicpaaGreatDoor
open Go.RowKit
attribute [local go_sem] Oper.semAt_some

theorem zs_set (N : Nat) : (zs N).set 0 0 = zs N := by
  unfold zs
  apply List.ext_getElem?
  intro j
  simp [List.getElem?_set, List.getElem?_replicate]
theorem cell_row {w : World} {n b : Nat} (j : Nat) (cs : Array Value) (hn : n ≠ b) : (w.setRow b cs).cell? ⟨n, j, none⟩ = w.cell? ⟨n, j, none⟩ := by
  unfold World.cell?
  rw [setRow_other _ _ _ _ hn]
set_option maxRecDepth 100000 in
set_option maxHeartbeats 1000000 in
theorem ringFrom_o (o : Ob) (ho : o.Ok) (h : ringR o) (w : World) : Calls Tryz.prog 160 #[.agg (obA o), .int .u32 o.st] w fun e w' => e = .returned (.int .i64 (1 + (o.st % o.s) * o.wd)) ∧ Below w.heap.size w w' := by
  obtain ⟨q1, q2, q3, q4, q5, q6, q7, q8⟩ := ring_bd h
  have z0 := ho.st0
  have p0 := Int.emod_nonneg o.st (show o.s ≠ 0 by omega)
  have p1 := Int.emod_lt_of_pos o.st (show 0 < o.s by omega)
  have f1 : IntKind.u32.wrap o.s = o.s := sh_wrap32 (by omega) (by omega)
  have f2 : o.st.tmod o.s = o.st % o.s := Int.tmod_eq_emod_of_nonneg z0
  have f3 : IntKind.u32.wrap (o.st % o.s) = o.st % o.s := sh_wrap32 (by omega) (by omega)
  have f4 : IntKind.i64.wrap (o.st % o.s) = o.st % o.s := sh_wrap (by omega) (by omega)
  have m := mul_bd (a := o.st % o.s) (b := o.wd) (by omega) (by omega) (by omega) (by omega)
  have e1 : IntKind.i64.wrap (o.st % o.s * o.wd) = o.st % o.s * o.wd := sh_wrap (by omega) (by omega)
  have e2 : IntKind.i64.wrap (1 + o.st % o.s * o.wd) = 1 + o.st % o.s * o.wd := sh_wrap (by omega) (by omega)
  have nz : (o.s == 0) = false := by rw [beq_eq_false_iff_ne]; omega
  have nz2 : ¬ o.s = 0 := by omega
  clear h ho
  obtain ⟨W0, hW0⟩ : ∃ W0, w.alloc (.cells #[.int .i64 o.k, .int .i64 o.wd, .int .i64 o.s, .int .i64 o.c, .int .u32 o.st, .slice o.I o.ni o.ci, .int .i64 o.wr, .slice o.R o.nr o.cr] 36) = W0 := ⟨_, rfl⟩
  have hn := ObX.new w o
  have hB := (Below.refl w.heap.size w).alloc (Nat.le_refl _) (.cells (obA o) 36)
  unfold obA at hn hB
  rw [hW0] at hn hB
  obtain ⟨n, hn0⟩ : ∃ n, w.heap.size = n := ⟨_, rfl⟩
  rw [hn0] at hn hB
  have HN := Lib.hid hn
  have HB := Lib.hid hB
  clear hn hB
  rw [hn0]
  unfold obA
  go_enter Tryz.func160, Tryz.ntmps160
  go_wp2_with fail
  have hSd : (fun w' : World => Below W0.heap.size W0 w' ∧ w'.cell? ⟨n, 0, none⟩ = some (.int .i64 o.k) ∧ w'.cell? ⟨n, 1, none⟩ = some (.int .i64 o.wd) ∧ w'.cell? ⟨n, 2, none⟩ = some (.int .i64 o.s) ∧ w'.cell? ⟨n, 3, none⟩ = some (.int .i64 o.c) ∧ w'.cell? ⟨n, 4, none⟩ = some (.int .u32 o.st) ∧ w'.cell? ⟨n, 5, none⟩ = some (.slice o.I o.ni o.ci) ∧ w'.cell? ⟨n, 6, none⟩ = some (.int .i64 o.wr) ∧ w'.cell? ⟨n, 7, none⟩ = some (.slice o.R o.nr o.cr)) W0.drew := ⟨(Below.refl _ W0).drew, (ObX.kept HN.out (Below.refl _ W0).drew).cells⟩
  refine wp_region_held_drew (S := (fun w' : World => Below W0.heap.size W0 w' ∧ w'.cell? ⟨n, 0, none⟩ = some (.int .i64 o.k) ∧ w'.cell? ⟨n, 1, none⟩ = some (.int .i64 o.wd) ∧ w'.cell? ⟨n, 2, none⟩ = some (.int .i64 o.s) ∧ w'.cell? ⟨n, 3, none⟩ = some (.int .i64 o.c) ∧ w'.cell? ⟨n, 4, none⟩ = some (.int .u32 o.st) ∧ w'.cell? ⟨n, 5, none⟩ = some (.slice o.I o.ni o.ci) ∧ w'.cell? ⟨n, 6, none⟩ = some (.int .i64 o.wr) ∧ w'.cell? ⟨n, 7, none⟩ = some (.slice o.R o.nr o.cr))) (by kernel_rfl) hSd (fun hHeld => ?_)
  generalize W0.drew = wd at hHeld ⊢
  have hHeld : (fun w' : World => Below W0.heap.size W0 w' ∧ w'.cell? ⟨n, 0, none⟩ = some (.int .i64 o.k) ∧ w'.cell? ⟨n, 1, none⟩ = some (.int .i64 o.wd) ∧ w'.cell? ⟨n, 2, none⟩ = some (.int .i64 o.s) ∧ w'.cell? ⟨n, 3, none⟩ = some (.int .i64 o.c) ∧ w'.cell? ⟨n, 4, none⟩ = some (.int .u32 o.st) ∧ w'.cell? ⟨n, 5, none⟩ = some (.slice o.I o.ni o.ci) ∧ w'.cell? ⟨n, 6, none⟩ = some (.int .i64 o.wr) ∧ w'.cell? ⟨n, 7, none⟩ = some (.slice o.R o.nr o.cr)) wd := hHeld
  refine wpAnyH_take (i := 0) (oi := ?_) (v := ?_) ?_ (by kernel_rfl) (by kernel_rfl) (by kernel_rfl) ?_ (Or.inl ⟨?_, ?_⟩) (by assumption) ?_
  rotate_left 2
  · (simp only [List.getElem?_toArray, List.getElem?_cons_zero]; rfl)
  · first | exact fun _ _ _ h => h | exact fun _ _ _ h => by cases h.1
  · rfl
  · ((intro wq hSq; (try dsimp only at hSq); go_simp); (try with_reducible rfl))
  try simp only [Act.put, List.setIfInBounds_toArray, List.set_cons_zero, List.set_cons_succ]
  refine wpAnyH_take (i := 1) (oi := ?_) (v := ?_) ?_ (by kernel_rfl) (by kernel_rfl) (by kernel_rfl) ?_ (Or.inl ⟨?_, ?_⟩) (by assumption) ?_
  rotate_left 2
  · (simp only [List.getElem?_toArray, List.getElem?_cons_succ, List.getElem?_cons_zero]; rfl)
  · first | exact fun _ _ _ h => h | exact fun _ _ _ h => by cases h.1
  · rfl
  · ((intro wq hSq; (try dsimp only at hSq); go_simp); (try with_reducible rfl))
  try simp only [Act.put, List.setIfInBounds_toArray, List.set_cons_zero, List.set_cons_succ]
  refine wpAnyH_take (i := 2) (oi := ?_) (v := ?_) ?_ (by kernel_rfl) (by kernel_rfl) (by kernel_rfl) ?_ (Or.inl ⟨?_, ?_⟩) (by assumption) ?_
  rotate_left 2
  · (simp only [List.getElem?_toArray, List.getElem?_cons_succ, List.getElem?_cons_zero]; rfl)
  · first | exact fun _ _ _ h => h | exact fun _ _ _ h => by cases h.1
  · rfl
  · ((intro wq hSq; (try dsimp only at hSq); go_simp); (try with_reducible rfl))
  try simp only [Act.put, List.setIfInBounds_toArray, List.set_cons_zero, List.set_cons_succ]
  refine wpAnyH_take (i := 3) (oi := ?_) (v := ?_) ?_ (by kernel_rfl) (by kernel_rfl) (by kernel_rfl) ?_ (Or.inl ⟨?_, ?_⟩) (by assumption) ?_
  rotate_left 2
  · (simp only [List.getElem?_toArray, List.getElem?_cons_succ, List.getElem?_cons_zero]; rfl)
  · first | exact fun _ _ _ h => h | exact fun _ _ _ h => by cases h.1
  · rfl
  · ((intro wq hSq; (try dsimp only at hSq); go_simp); (try with_reducible rfl))
  try simp only [Act.put, List.setIfInBounds_toArray, List.set_cons_zero, List.set_cons_succ]
  refine wpAnyH_take (i := 4) (oi := ?_) (v := ?_) ?_ (by kernel_rfl) (by kernel_rfl) (by kernel_rfl) ?_ (Or.inl ⟨?_, ?_⟩) (by assumption) ?_
  rotate_left 2
  · (simp only [List.getElem?_toArray, List.getElem?_cons_succ, List.getElem?_cons_zero]; rfl)
  · first | exact fun _ _ _ h => h | exact fun _ _ _ h => by cases h.1
  · rfl
  · ((intro wq hSq; (try dsimp only at hSq); go_simp); (try with_reducible rfl))
  try simp only [Act.put, List.setIfInBounds_toArray, List.set_cons_zero, List.set_cons_succ]
  refine wpAnyH_take (i := 5) (oi := ?_) (v := ?_) ?_ (by kernel_rfl) (by kernel_rfl) (by kernel_rfl) ?_ (Or.inl ⟨?_, ?_⟩) (by assumption) ?_
  rotate_left 2
  · (simp only [List.getElem?_toArray, List.getElem?_cons_succ, List.getElem?_cons_zero]; rfl)
  · first | exact fun _ _ _ h => h | exact fun _ _ _ h => by cases h.1
  · rfl
  · ((intro wq hSq; (try dsimp only at hSq); go_simp); (try with_reducible rfl))
  try simp only [Act.put, List.setIfInBounds_toArray, List.set_cons_zero, List.set_cons_succ]
  refine wpAnyH_take (i := 6) (oi := ?_) (v := ?_) ?_ (by kernel_rfl) (by kernel_rfl) (by kernel_rfl) ?_ (Or.inl ⟨?_, ?_⟩) (by assumption) ?_
  rotate_left 2
  · (simp only [List.getElem?_toArray, List.getElem?_cons_succ, List.getElem?_cons_zero]; rfl)
  · first | exact fun _ _ _ h => h | exact fun _ _ _ h => by cases h.1
  · rfl
  · ((intro wq hSq; (try dsimp only at hSq); go_simp); (try with_reducible rfl))
  try simp only [Act.put, List.setIfInBounds_toArray, List.set_cons_zero, List.set_cons_succ]
  refine wpAnyH_take (i := 7) (oi := ?_) (v := ?_) ?_ (by kernel_rfl) (by kernel_rfl) (by kernel_rfl) ?_ (Or.inl ⟨?_, ?_⟩) (by assumption) ?_
  rotate_left 2
  · (simp only [List.getElem?_toArray, List.getElem?_cons_succ, List.getElem?_cons_zero]; rfl)
  · first | exact fun _ _ _ h => h | exact fun _ _ _ h => by cases h.1
  · rfl
  · ((intro wq hSq; (try dsimp only at hSq); go_simp); (try with_reducible rfl))
  try simp only [Act.put, List.setIfInBounds_toArray, List.set_cons_zero, List.set_cons_succ]
  refine wpAnyH_take (i := 8) (oi := ?_) (v := ?_) ?_ (by kernel_rfl) (by kernel_rfl) (by kernel_rfl) ?_ (Or.inl ⟨?_, ?_⟩) (by assumption) ?_
  rotate_left 2
  · (simp only [List.getElem?_toArray, List.getElem?_cons_succ, List.getElem?_cons_zero]; rfl)
  · first | exact fun _ _ _ h => h | exact fun _ _ _ h => by cases h.1
  · rfl
  · ((intro wq hSq; (try dsimp only at hSq); go_simp); (try with_reducible rfl))
  try simp only [Act.put, List.setIfInBounds_toArray, List.set_cons_zero, List.set_cons_succ]
  refine wpAnyH_take (i := 9) (oi := ?_) (v := ?_) ?_ (by kernel_rfl) (by kernel_rfl) (by kernel_rfl) ?_ (Or.inl ⟨?_, ?_⟩) (by assumption) ?_
  rotate_left 2
  · (simp only [List.getElem?_toArray, List.getElem?_cons_succ, List.getElem?_cons_zero]; rfl)
  · first | exact fun _ _ _ h => h | exact fun _ _ _ h => by cases h.1
  · rfl
  · ((intro wq hSq; (try dsimp only at hSq); go_simp); (try with_reducible rfl))
  try simp only [Act.put, List.setIfInBounds_toArray, List.set_cons_zero, List.set_cons_succ]
  refine wpAnyH_take (i := 10) (oi := ?_) (v := ?_) ?_ (by kernel_rfl) (by kernel_rfl) (by kernel_rfl) ?_ (Or.inl ⟨?_, ?_⟩) (by assumption) ?_
  rotate_left 2
  · (simp only [List.getElem?_toArray, List.getElem?_cons_succ, List.getElem?_cons_zero]; rfl)
  · first | exact fun _ _ _ h => h | exact fun _ _ _ h => by cases h.1
  · rfl
  · ((intro wq hSq; (try dsimp only at hSq); go_simp); (try with_reducible rfl))
  try simp only [Act.put, List.setIfInBounds_toArray, List.set_cons_zero, List.set_cons_succ]
  refine wpAnyH_done (by kernel_rfl) ?_ _
  clear hSd
  go_wp2_with fail
  go_ret
  exact ⟨rfl, HB.out.trans (hHeld.1.mono (by have := HB.out.size; omega))⟩
set_option maxRecDepth 100000 in
set_option maxHeartbeats 2000000 in
theorem fourLay_o (o : Ob) (ho : o.Ok) (hk : o.k = 1) (l : List Int) (B : Nat) (w : World) (hl : o.ni = l.length) (hI : Ws w B o.I l) (hB : B ≤ w.heap.size) : Calls Tryz.prog 114 #[.agg (obA o)] w (LayR w (layZ o l)) := by
  have hs := fun W => fourSize_o o ho hk W
  by_cases h : fourR o
  · have hsz := sizeZ_four h
    obtain ⟨q1, q2, q3, q4⟩ := four_bd h
    have hlw : (l.length : Int) = o.wd := by unfold fourR wordsR at h; omega
    obtain ⟨N, hN⟩ : ∃ N : Nat, sizeZ o = N := ⟨(sizeZ o).toNat, by omega⟩
    obtain ⟨D, hD⟩ : ∃ D : Nat, (4 : Int) = D := ⟨(4 : Int).toNat, by omega⟩
    have hDN : D + l.length ≤ N := by omega
    have hDlt : D < N := by omega
    have hst : o.st = 0 := by unfold fourR at h; exact h.2.2.2.1
    have hoff : offZ o = D := by unfold offZ slotZ; rw [head_four hk, if_neg (by omega)]; omega
    have hL : layZ o l = spl (zs N) D l := by unfold layZ layB; rw [if_pos (.inl h), if_neg (by omega), hN, hoff, Int.toNat_natCast, Int.toNat_natCast]; rw [hst, zs_set]
    rw [hL]
    rw [hN] at hs
    have g1 : D < N := hDlt
    have g2 : 0 < N := by omega
    have g3 : N ≤ 300 := by omega
    have g4 : ¬ N = D := by omega
    have g6 : D ≤ N := by omega
    have g7 : (D : Int) ≤ (N : Int) := by omega
    have hNl := Lib.hid hDN
    have hl0 := Lib.hid (show l ≠ [] by intro hh; rw [hh] at hlw; simp at hlw; omega)
    have hZN := Lib.hid (show (zs N).length = N by simp [zs])
    have hmk := fun W => mkW N g3 W
    have hl2 := Lib.hid hl
    have HI := Lib.hid hI
    have HBw := Lib.hid hB
    have HWF := Lib.hid (wf_spl (Z := (zs N)) D (wf_zs N) hI.2)
    unfold obA at hs
    have HS := Lib.hid hs
    clear hL h hk hsz q1 q2 q3 q4 hlw hN hoff ho hl hs hI hB hDN hDlt hst
    have hD4 : (4 : Nat) = D := by omega
    clear hD
    subst hD4
    have g8 : (4 : Int) ≤ (N : Int) := by omega
    clear g7
    have hn := ObX.new w o
    have hB := (Below.refl w.heap.size w).alloc (Nat.le_refl _) (.cells (obA o) 36)
    unfold obA at *
    have HN := Lib.hid hn
    have HB := Lib.hid hB
    clear hn hB
    go_enter Tryz.func114, Tryz.ntmps114
    go_wp2_with fail
    refine (HS.out _).mono ?_
    rintro e w1 ⟨rfl, hb1⟩
    have ho1 := ObX.kept HN.out hb1
    have hB1 := HB.out.trans (hb1.mono (by have := HB.out.size; omega))
    have hn1 := HN.out.lt
    have hs1 : w.heap.size + 1 ≤ w1.heap.size := by have := hb1.size; simp at this; omega
    have hnew := RowB.new w1 (wsA (zs N)) 32
    have hbb := (Below.refl w1.heap.size w1).alloc (Nat.le_refl _) (.cells (wsA (zs N)) 32)
    have hsz2 : (w1.alloc (.cells (wsA (zs N)) 32)).heap.size = w1.heap.size + 1 := by rw [World.size_alloc]
    obtain ⟨W2, hW2⟩ : ∃ W2, w1.alloc (.cells (wsA (zs N)) 32) = W2 := ⟨_, rfl⟩
    rw [hW2] at hnew hbb hsz2
    obtain ⟨b, hb⟩ : ∃ b, w1.heap.size = b := ⟨_, rfl⟩
    obtain ⟨n, hn0⟩ : ∃ n, w.heap.size = n := ⟨_, rfl⟩
    have ho2 := ho1.kept hbb
    have hB2 := hB1.trans (hbb.mono (by omega))
    rw [hn0] at ho1 ho2 hs1 hB2 ⊢
    rw [hb] at hnew hbb hs1 hsz2
    have HO := Lib.hid ho2
    have HR := Lib.hid hnew
    have HB2 := Lib.hid hB2
    have HB1 := Lib.hid hB1
    clear hb1 ho1 ho2 hnew hbb hB1 hB2
    go_wp2_with fail
    have hSd : (fun w' : World => Below b W2 w' ∧ w'.cell? ⟨n, 0, none⟩ = some (.int .i64 o.k) ∧ w'.cell? ⟨n, 1, none⟩ = some (.int .i64 o.wd) ∧ w'.cell? ⟨n, 2, none⟩ = some (.int .i64 o.s) ∧ w'.cell? ⟨n, 3, none⟩ = some (.int .i64 o.c) ∧ w'.cell? ⟨n, 4, none⟩ = some (.int .u32 o.st) ∧ w'.cell? ⟨n, 5, none⟩ = some (.slice o.I o.ni o.ci) ∧ w'.cell? ⟨n, 6, none⟩ = some (.int .i64 o.wr) ∧ w'.cell? ⟨n, 7, none⟩ = some (.slice o.R o.nr o.cr)) W2.drew := ⟨(Below.refl _ W2).drew, (ObX.kept HO.out (Below.refl _ W2).drew).cells⟩
    have hrow : RowB W2.drew b (wsA (zs N)) 32 := HR.out.kept (Below.refl _ W2).drew
    have hI : Ws W2.drew B o.I l := (HI.out.below (HB2.out.mono (by have := HBw.out; omega)) (Nat.le_refl _)).below (Below.refl _ W2).drew (Nat.le_refl _)
    refine wp_region_held_drew (S := (fun w' : World => Below b W2 w' ∧ w'.cell? ⟨n, 0, none⟩ = some (.int .i64 o.k) ∧ w'.cell? ⟨n, 1, none⟩ = some (.int .i64 o.wd) ∧ w'.cell? ⟨n, 2, none⟩ = some (.int .i64 o.s) ∧ w'.cell? ⟨n, 3, none⟩ = some (.int .i64 o.c) ∧ w'.cell? ⟨n, 4, none⟩ = some (.int .u32 o.st) ∧ w'.cell? ⟨n, 5, none⟩ = some (.slice o.I o.ni o.ci) ∧ w'.cell? ⟨n, 6, none⟩ = some (.int .i64 o.wr) ∧ w'.cell? ⟨n, 7, none⟩ = some (.slice o.R o.nr o.cr))) (by kernel_rfl) hSd (fun hHeld => ?_)
    generalize W2.drew = wd at hHeld hrow hI ⊢
    have hHeld : (fun w' : World => Below b W2 w' ∧ w'.cell? ⟨n, 0, none⟩ = some (.int .i64 o.k) ∧ w'.cell? ⟨n, 1, none⟩ = some (.int .i64 o.wd) ∧ w'.cell? ⟨n, 2, none⟩ = some (.int .i64 o.s) ∧ w'.cell? ⟨n, 3, none⟩ = some (.int .i64 o.c) ∧ w'.cell? ⟨n, 4, none⟩ = some (.int .u32 o.st) ∧ w'.cell? ⟨n, 5, none⟩ = some (.slice o.I o.ni o.ci) ∧ w'.cell? ⟨n, 6, none⟩ = some (.int .i64 o.wr) ∧ w'.cell? ⟨n, 7, none⟩ = some (.slice o.R o.nr o.cr)) wd := hHeld
    replace hrow := Lib.hid hrow
    replace hI := Lib.hid hI
    refine wpAnyH_take (i := 0) (oi := ?_) (v := ?_) ?_ (by kernel_rfl) (by kernel_rfl) (by kernel_rfl) ?_ (Or.inl ⟨?_, ?_⟩) (by assumption) ?_
    rotate_left 2
    · (simp only [List.getElem?_toArray, List.getElem?_cons_zero]; rfl)
    · first | exact fun _ _ _ h => h | exact fun _ _ _ h => by cases h.1
    · rfl
    · ((intro wq hSq; (try dsimp only at hSq); go_simp); (try with_reducible rfl))
    try simp only [Act.put, List.setIfInBounds_toArray, List.set_cons_zero, List.set_cons_succ]
    refine wpAnyH_take (i := 1) (oi := ?_) (v := ?_) ?_ (by kernel_rfl) (by kernel_rfl) (by kernel_rfl) ?_ (Or.inl ⟨?_, ?_⟩) (by assumption) ?_
    rotate_left 2
    · (simp only [List.getElem?_toArray, List.getElem?_cons_succ, List.getElem?_cons_zero]; rfl)
    · first | exact fun _ _ _ h => h | exact fun _ _ _ h => by cases h.1
    · rfl
    · ((intro wq hSq; (try dsimp only at hSq); go_simp); (try with_reducible rfl))
    try simp only [Act.put, List.setIfInBounds_toArray, List.set_cons_zero, List.set_cons_succ]
    refine wpAnyH_take (i := 2) (oi := ?_) (v := ?_) ?_ (by kernel_rfl) (by kernel_rfl) (by kernel_rfl) ?_ (Or.inl ⟨?_, ?_⟩) (by assumption) ?_
    rotate_left 2
    · (simp only [List.getElem?_toArray, List.getElem?_cons_succ, List.getElem?_cons_zero]; rfl)
    · first | exact fun _ _ _ h => h | exact fun _ _ _ h => by cases h.1
    · rfl
    · ((intro wq hSq; (try dsimp only at hSq); go_simp); (try with_reducible rfl))
    try simp only [Act.put, List.setIfInBounds_toArray, List.set_cons_zero, List.set_cons_succ]
    refine wpAnyH_take (i := 3) (oi := ?_) (v := ?_) ?_ (by kernel_rfl) (by kernel_rfl) (by kernel_rfl) ?_ (Or.inl ⟨?_, ?_⟩) (by assumption) ?_
    rotate_left 2
    · (simp only [List.getElem?_toArray, List.getElem?_cons_succ, List.getElem?_cons_zero]; rfl)
    · first | exact fun _ _ _ h => h | exact fun _ _ _ h => by cases h.1
    · rfl
    · ((intro wq hSq; (try dsimp only at hSq); go_simp); (try with_reducible rfl))
    try simp only [Act.put, List.setIfInBounds_toArray, List.set_cons_zero, List.set_cons_succ]
    have hcp := copyW (off := 4) (dL := N - 4) (dC := N - 4) (ci := o.ci) hl2.out hrow.out hI.out hl0.out hZN.out hNl.out (by have := hNl.out; omega)
    refine wpAnyH_ready (rs := [4]) (by kernel_rfl) (by simp) ?_
    refine AllReadyH.cons (o := ?_) ?_ (fun K hK => ?_) AllReadyH.nil
    rotate_left
    · (simp only [List.getElem?_toArray, List.getElem?_cons_succ, List.getElem?_cons_zero]; rfl)
    go_simp
    have hSx : (fun w' : World => Below b W2 w' ∧ w'.cell? ⟨n, 0, none⟩ = some (.int .i64 o.k) ∧ w'.cell? ⟨n, 1, none⟩ = some (.int .i64 o.wd) ∧ w'.cell? ⟨n, 2, none⟩ = some (.int .i64 o.s) ∧ w'.cell? ⟨n, 3, none⟩ = some (.int .i64 o.c) ∧ w'.cell? ⟨n, 4, none⟩ = some (.int .u32 o.st) ∧ w'.cell? ⟨n, 5, none⟩ = some (.slice o.I o.ni o.ci) ∧ w'.cell? ⟨n, 6, none⟩ = some (.int .i64 o.wr) ∧ w'.cell? ⟨n, 7, none⟩ = some (.slice o.R o.nr o.cr)) (wd.setRow b (wsA (spl (zs N) 4 l))) := by
      obtain ⟨h0, u0, u1, u2, u3, u4, u5, u6, u7⟩ := hHeld
      have hnb : n ≠ b := by omega
      simp only [cell_row _ _ hnb]
      exact ⟨below_setRow h0 b _ (Nat.le_refl _), u0, u1, u2, u3, u4, u5, u6, u7⟩
    refine hK.out _ _ hSx (fun hHeld => ?_)
    clear hK K
    try simp only [Act.put, List.setIfInBounds_toArray, List.set_cons_zero, List.set_cons_succ]
    refine wpAnyH_done (by kernel_rfl) ?_ _
    clear hSd
    go_wp2_with fail
    go_ret
    exact LayR.row hrow.out.row (by rw [spl_len (by rw [hZN.out]; exact hNl.out)]; exact hZN.out) g3 HWF.out (by rw [hn0]; exact HB2.out.trans (hHeld.1.mono (by omega)))
  · have hna : ¬ anyR o := fun q => h (of_decide_eq_true ((any_four hk).symm.trans (decide_eq_true q)))
    have hL : layZ o l = [] := by unfold layZ; rw [if_neg hna]
    have hz := sizeZ_no hna
    rw [hL]
    rw [hz] at hs
    obtain ⟨N, hN⟩ : ∃ N : Nat, N = 0 := ⟨_, rfl⟩
    have hs2 : ∀ W, _ := fun W => hs W
    have hmk := mkW0
    unfold obA at hs
    have HS := Lib.hid hs
    clear hL hz hs hs2 hna h hk ho hI hl hB hN
    have hn := ObX.new w o
    have hB := (Below.refl w.heap.size w).alloc (Nat.le_refl _) (.cells (obA o) 36)
    unfold obA at *
    have HN := Lib.hid hn
    have HB := Lib.hid hB
    clear hn hB
    go_enter Tryz.func114, Tryz.ntmps114
    go_wp2_with fail
    refine (HS.out _).mono ?_
    rintro e w1 ⟨rfl, hb1⟩
    have hB1 := HB.out.trans (hb1.mono (by have := HB.out.size; omega))
    have HB1 := Lib.hid hB1
    have hs1 : w.heap.size ≤ w1.heap.size := by have := hb1.size; simp at this; omega
    clear hB1 hb1
    go_wp2_with fail
    go_ret
    exact LayR.row (L := []) (RowB.new w1 (wsA (zs 0)) 32) rfl (by omega) (fun z hz => by cases hz) (HB1.out.alloc hs1 _)
set_option maxRecDepth 100000 in
set_option maxHeartbeats 2000000 in
theorem chenLay_o (o : Ob) (ho : o.Ok) (hk : o.k = 2) (l : List Int) (B : Nat) (w : World) (hl : o.ni = l.length) (hI : Ws w B o.I l) (hB : B ≤ w.heap.size) : Calls Tryz.prog 115 #[.agg (obA o)] w (LayR w (layZ o l)) := by
  have hs := fun W => chenSize_o o ho hk W
  by_cases h : chenR o
  · have hsz := sizeZ_chen h
    obtain ⟨q1, q2, q3, q4⟩ := chen_bd h
    have hlw : (l.length : Int) = o.wd := by unfold chenR wordsR at h; omega
    have m2 := mul_bd (a := (o.nr : Int) + 2) (b := o.wd) (by omega) (by omega) (by omega) (by omega)
    obtain ⟨N, hN⟩ : ∃ N : Nat, sizeZ o = N := ⟨(sizeZ o).toNat, by omega⟩
    obtain ⟨D, hD⟩ : ∃ D : Nat, (1 + o.nr : Int) = D := ⟨(1 + o.nr : Int).toNat, by omega⟩
    have mm : 2 * o.wd ≤ ((o.nr : Int) + 2) * o.wd := Int.mul_le_mul_of_nonneg_right (by omega) (by omega)
    have hDN : D + l.length ≤ N := by omega
    have hDlt : D < N := by omega
    have hst : o.st = 0 := by unfold chenR at h; exact h.2.2.2
    have hoff : offZ o = D := by unfold offZ slotZ; rw [head_chen hk, if_neg (by omega)]; omega
    have hL : layZ o l = spl (zs N) D l := by unfold layZ layB; rw [if_pos (.inr (.inl h)), if_neg (by omega), hN, hoff, Int.toNat_natCast, Int.toNat_natCast]; rw [hst, zs_set]
    rw [hL]
    rw [hN] at hs
    have hc := fun W => chenData_o o q4 W
    rw [hD] at hc
    unfold obA at hc
    have HC := Lib.hid hc
    clear hc
    have g1 : D < N := hDlt
    have g2 : 0 < N := by omega
    have g3 : N ≤ 300 := by omega
    have g4 : ¬ N = D := by omega
    have g6 : D ≤ N := by omega
    have g7 : (D : Int) ≤ (N : Int) := by omega
    have hNl := Lib.hid hDN
    have hl0 := Lib.hid (show l ≠ [] by intro hh; rw [hh] at hlw; simp at hlw; omega)
    have hZN := Lib.hid (show (zs N).length = N by simp [zs])
    have hmk := fun W => mkW N g3 W
    have hl2 := Lib.hid hl
    have HI := Lib.hid hI
    have HBw := Lib.hid hB
    have HWF := Lib.hid (wf_spl (Z := (zs N)) D (wf_zs N) hI.2)
    unfold obA at hs
    have HS := Lib.hid hs
    clear hL h hk hsz q1 q2 q3 q4 hlw hN hoff ho hl hs hI hB hDN hDlt hst mm m2
    have hD2 := Lib.hid hD
    clear hD
    have hn := ObX.new w o
    have hB := (Below.refl w.heap.size w).alloc (Nat.le_refl _) (.cells (obA o) 36)
    unfold obA at *
    have HN := Lib.hid hn
    have HB := Lib.hid hB
    clear hn hB
    go_enter Tryz.func115, Tryz.ntmps115
    go_wp2_with fail
    refine (HS.out _).mono ?_
    rintro e w1 ⟨rfl, hb1⟩
    have ho1 := ObX.kept HN.out hb1
    have hB1 := HB.out.trans (hb1.mono (by have := HB.out.size; omega))
    have hn1 := HN.out.lt
    have hs1 : w.heap.size + 1 ≤ w1.heap.size := by have := hb1.size; simp at this; omega
    have hnew := RowB.new w1 (wsA (zs N)) 32
    have hbb := (Below.refl w1.heap.size w1).alloc (Nat.le_refl _) (.cells (wsA (zs N)) 32)
    have hsz2 : (w1.alloc (.cells (wsA (zs N)) 32)).heap.size = w1.heap.size + 1 := by rw [World.size_alloc]
    obtain ⟨W2, hW2⟩ : ∃ W2, w1.alloc (.cells (wsA (zs N)) 32) = W2 := ⟨_, rfl⟩
    rw [hW2] at hnew hbb hsz2
    obtain ⟨b, hb⟩ : ∃ b, w1.heap.size = b := ⟨_, rfl⟩
    obtain ⟨n, hn0⟩ : ∃ n, w.heap.size = n := ⟨_, rfl⟩
    have ho2 := ho1.kept hbb
    have hB2 := hB1.trans (hbb.mono (by omega))
    rw [hn0] at ho1 ho2 hs1 hB2 ⊢
    rw [hb] at hnew hbb hs1 hsz2
    have HO := Lib.hid ho2
    have HR := Lib.hid hnew
    have HB2 := Lib.hid hB2
    have HB1 := Lib.hid hB1
    clear hb1 ho1 ho2 hnew hbb hB1 hB2
    go_wp2_with fail
    have hSd : (fun w' : World => Below b W2 w' ∧ w'.cell? ⟨n, 0, none⟩ = some (.int .i64 o.k) ∧ w'.cell? ⟨n, 1, none⟩ = some (.int .i64 o.wd) ∧ w'.cell? ⟨n, 2, none⟩ = some (.int .i64 o.s) ∧ w'.cell? ⟨n, 3, none⟩ = some (.int .i64 o.c) ∧ w'.cell? ⟨n, 4, none⟩ = some (.int .u32 o.st) ∧ w'.cell? ⟨n, 5, none⟩ = some (.slice o.I o.ni o.ci) ∧ w'.cell? ⟨n, 6, none⟩ = some (.int .i64 o.wr) ∧ w'.cell? ⟨n, 7, none⟩ = some (.slice o.R o.nr o.cr)) W2.drew := ⟨(Below.refl _ W2).drew, (ObX.kept HO.out (Below.refl _ W2).drew).cells⟩
    have hrow : RowB W2.drew b (wsA (zs N)) 32 := HR.out.kept (Below.refl _ W2).drew
    have hI : Ws W2.drew B o.I l := (HI.out.below (HB2.out.mono (by have := HBw.out; omega)) (Nat.le_refl _)).below (Below.refl _ W2).drew (Nat.le_refl _)
    refine wp_region_held_drew (S := (fun w' : World => Below b W2 w' ∧ w'.cell? ⟨n, 0, none⟩ = some (.int .i64 o.k) ∧ w'.cell? ⟨n, 1, none⟩ = some (.int .i64 o.wd) ∧ w'.cell? ⟨n, 2, none⟩ = some (.int .i64 o.s) ∧ w'.cell? ⟨n, 3, none⟩ = some (.int .i64 o.c) ∧ w'.cell? ⟨n, 4, none⟩ = some (.int .u32 o.st) ∧ w'.cell? ⟨n, 5, none⟩ = some (.slice o.I o.ni o.ci) ∧ w'.cell? ⟨n, 6, none⟩ = some (.int .i64 o.wr) ∧ w'.cell? ⟨n, 7, none⟩ = some (.slice o.R o.nr o.cr))) (by kernel_rfl) hSd (fun hHeld => ?_)
    generalize W2.drew = wd at hHeld hrow hI ⊢
    have hHeld : (fun w' : World => Below b W2 w' ∧ w'.cell? ⟨n, 0, none⟩ = some (.int .i64 o.k) ∧ w'.cell? ⟨n, 1, none⟩ = some (.int .i64 o.wd) ∧ w'.cell? ⟨n, 2, none⟩ = some (.int .i64 o.s) ∧ w'.cell? ⟨n, 3, none⟩ = some (.int .i64 o.c) ∧ w'.cell? ⟨n, 4, none⟩ = some (.int .u32 o.st) ∧ w'.cell? ⟨n, 5, none⟩ = some (.slice o.I o.ni o.ci) ∧ w'.cell? ⟨n, 6, none⟩ = some (.int .i64 o.wr) ∧ w'.cell? ⟨n, 7, none⟩ = some (.slice o.R o.nr o.cr)) wd := hHeld
    replace hrow := Lib.hid hrow
    replace hI := Lib.hid hI
    refine wpAnyH_take (i := 0) (oi := ?_) (v := ?_) ?_ (by kernel_rfl) (by kernel_rfl) (by kernel_rfl) ?_ (Or.inl ⟨?_, ?_⟩) (by assumption) ?_
    rotate_left 2
    · (simp only [List.getElem?_toArray, List.getElem?_cons_zero]; rfl)
    · first | exact fun _ _ _ h => h | exact fun _ _ _ h => by cases h.1
    · rfl
    · ((intro wq hSq; (try dsimp only at hSq); go_simp); (try with_reducible rfl))
    try simp only [Act.put, List.setIfInBounds_toArray, List.set_cons_zero, List.set_cons_succ]
    refine wpAnyH_take (i := 1) (oi := ?_) (v := ?_) ?_ (by kernel_rfl) (by kernel_rfl) (by kernel_rfl) ?_ (Or.inl ⟨?_, ?_⟩) (by assumption) ?_
    rotate_left 2
    · (simp only [List.getElem?_toArray, List.getElem?_cons_succ, List.getElem?_cons_zero]; rfl)
    · first | exact fun _ _ _ h => h | exact fun _ _ _ h => by cases h.1
    · rfl
    · ((intro wq hSq; (try dsimp only at hSq); go_simp); (try with_reducible rfl))
    try simp only [Act.put, List.setIfInBounds_toArray, List.set_cons_zero, List.set_cons_succ]
    refine wpAnyH_take (i := 4) (oi := ?_) (v := ?_) ?_ (by kernel_rfl) (by kernel_rfl) (by kernel_rfl) ?_ (Or.inl ⟨?_, ?_⟩) (by assumption) ?_
    rotate_left 2
    · (simp only [List.getElem?_toArray, List.getElem?_cons_succ, List.getElem?_cons_zero]; rfl)
    · first | exact fun _ _ _ h => h | exact fun _ _ _ h => by cases h.1
    · rfl
    · ((intro wq hSq; (try dsimp only at hSq); go_simp); (try with_reducible rfl))
    try simp only [Act.put, List.setIfInBounds_toArray, List.set_cons_zero, List.set_cons_succ]
    refine wpAnyH_take (i := 5) (oi := ?_) (v := ?_) ?_ (by kernel_rfl) (by kernel_rfl) (by kernel_rfl) ?_ (Or.inl ⟨?_, ?_⟩) (by assumption) ?_
    rotate_left 2
    · (simp only [List.getElem?_toArray, List.getElem?_cons_succ, List.getElem?_cons_zero]; rfl)
    · first | exact fun _ _ _ h => h | exact fun _ _ _ h => by cases h.1
    · rfl
    · ((intro wq hSq; (try dsimp only at hSq); go_simp); (try with_reducible rfl))
    try simp only [Act.put, List.setIfInBounds_toArray, List.set_cons_zero, List.set_cons_succ]
    refine wpAnyH_ready (rs := [2]) (by kernel_rfl) (by simp) ?_
    refine AllReadyH.cons (o := ?_) ?_ (fun K hK => ?_) AllReadyH.nil
    rotate_left
    · (simp only [List.getElem?_toArray, List.getElem?_cons_succ, List.getElem?_cons_zero]; rfl)
    go_simp
    go_at_call 159
    refine (HC.out _).mono ?_
    rintro ex wx ⟨rfl, hbx⟩
    have hSx : (fun w' : World => Below b W2 w' ∧ w'.cell? ⟨n, 0, none⟩ = some (.int .i64 o.k) ∧ w'.cell? ⟨n, 1, none⟩ = some (.int .i64 o.wd) ∧ w'.cell? ⟨n, 2, none⟩ = some (.int .i64 o.s) ∧ w'.cell? ⟨n, 3, none⟩ = some (.int .i64 o.c) ∧ w'.cell? ⟨n, 4, none⟩ = some (.int .u32 o.st) ∧ w'.cell? ⟨n, 5, none⟩ = some (.slice o.I o.ni o.ci) ∧ w'.cell? ⟨n, 6, none⟩ = some (.int .i64 o.wr) ∧ w'.cell? ⟨n, 7, none⟩ = some (.slice o.R o.nr o.cr)) wx := by
      obtain ⟨h0, u0, u1, u2, u3, u4, u5, u6, u7⟩ := hHeld
      have hk : ∀ {i : Nat} {u : Value}, _ → wx.cell? ⟨n, i, none⟩ = some u := fun {i u} hc => (hbx.cell (p := ⟨n, i, none⟩) (cell_lt hc)).trans hc
      exact ⟨h0.trans (hbx.mono (by have := h0.size; omega)), hk u0, hk u1, hk u2, hk u3, hk u4, hk u5, hk u6, hk u7⟩
    replace hrow := Lib.hid (hrow.out.kept hbx)
    replace hI := Lib.hid (hI.out.below (hbx.mono (by have := hHeld.1.size; have := HB2.out.size; have := HBw.out; omega)) (Nat.le_refl _))
    clear hbx
    refine hK.out _ _ hSx (fun hHeld => ?_)
    clear hK K
    try simp only [Act.put, List.setIfInBounds_toArray, List.set_cons_zero, List.set_cons_succ]
    refine wpAnyH_take (i := 3) (oi := ?_) (v := ?_) ?_ (by kernel_rfl) (by kernel_rfl) (by kernel_rfl) ?_ (Or.inl ⟨?_, ?_⟩) (by assumption) ?_
    rotate_left 2
    · (simp only [List.getElem?_toArray, List.getElem?_cons_succ, List.getElem?_cons_zero]; rfl)
    · first | exact fun _ _ _ h => h | exact fun _ _ _ h => by cases h.1
    · rfl
    · ((intro wq hSq; (try dsimp only at hSq); go_simp); (try with_reducible rfl))
    try simp only [Act.put, List.setIfInBounds_toArray, List.set_cons_zero, List.set_cons_succ]
    have hcp := copyW (off := D) (dL := N - D) (dC := N - D) (ci := o.ci) hl2.out hrow.out hI.out hl0.out hZN.out hNl.out (by have := hNl.out; omega)
    refine wpAnyH_ready (rs := [6]) (by kernel_rfl) (by simp) ?_
    refine AllReadyH.cons (o := ?_) ?_ (fun K hK => ?_) AllReadyH.nil
    rotate_left
    · (simp only [List.getElem?_toArray, List.getElem?_cons_succ, List.getElem?_cons_zero]; rfl)
    go_simp
    have hSx : (fun w' : World => Below b W2 w' ∧ w'.cell? ⟨n, 0, none⟩ = some (.int .i64 o.k) ∧ w'.cell? ⟨n, 1, none⟩ = some (.int .i64 o.wd) ∧ w'.cell? ⟨n, 2, none⟩ = some (.int .i64 o.s) ∧ w'.cell? ⟨n, 3, none⟩ = some (.int .i64 o.c) ∧ w'.cell? ⟨n, 4, none⟩ = some (.int .u32 o.st) ∧ w'.cell? ⟨n, 5, none⟩ = some (.slice o.I o.ni o.ci) ∧ w'.cell? ⟨n, 6, none⟩ = some (.int .i64 o.wr) ∧ w'.cell? ⟨n, 7, none⟩ = some (.slice o.R o.nr o.cr)) (wx.setRow b (wsA (spl (zs N) D l))) := by
      obtain ⟨h0, u0, u1, u2, u3, u4, u5, u6, u7⟩ := hHeld
      have hnb : n ≠ b := by omega
      simp only [cell_row _ _ hnb]
      exact ⟨below_setRow h0 b _ (Nat.le_refl _), u0, u1, u2, u3, u4, u5, u6, u7⟩
    refine hK.out _ _ hSx (fun hHeld => ?_)
    clear hK K
    try simp only [Act.put, List.setIfInBounds_toArray, List.set_cons_zero, List.set_cons_succ]
    refine wpAnyH_done (by kernel_rfl) ?_ _
    clear hSd
    go_wp2_with fail
    go_ret
    exact LayR.row hrow.out.row (by rw [spl_len (by rw [hZN.out]; exact hNl.out)]; exact hZN.out) g3 HWF.out (by rw [hn0]; exact HB2.out.trans (hHeld.1.mono (by omega)))
  · have hna : ¬ anyR o := fun q => h (of_decide_eq_true ((any_chen hk).symm.trans (decide_eq_true q)))
    have hL : layZ o l = [] := by unfold layZ; rw [if_neg hna]
    have hz := sizeZ_no hna
    rw [hL]
    rw [hz] at hs
    obtain ⟨N, hN⟩ : ∃ N : Nat, N = 0 := ⟨_, rfl⟩
    have hs2 : ∀ W, _ := fun W => hs W
    have hmk := mkW0
    unfold obA at hs
    have HS := Lib.hid hs
    clear hL hz hs hs2 hna h hk ho hI hl hB hN
    have hn := ObX.new w o
    have hB := (Below.refl w.heap.size w).alloc (Nat.le_refl _) (.cells (obA o) 36)
    unfold obA at *
    have HN := Lib.hid hn
    have HB := Lib.hid hB
    clear hn hB
    go_enter Tryz.func115, Tryz.ntmps115
    go_wp2_with fail
    refine (HS.out _).mono ?_
    rintro e w1 ⟨rfl, hb1⟩
    have hB1 := HB.out.trans (hb1.mono (by have := HB.out.size; omega))
    have HB1 := Lib.hid hB1
    have hs1 : w.heap.size ≤ w1.heap.size := by have := hb1.size; simp at this; omega
    clear hB1 hb1
    go_wp2_with fail
    go_ret
    exact LayR.row (L := []) (RowB.new w1 (wsA (zs 0)) 32) rfl (by omega) (fun z hz => by cases hz) (HB1.out.alloc hs1 _)
set_option maxRecDepth 100000 in
set_option maxHeartbeats 2000000 in
theorem ringLay_o (o : Ob) (ho : o.Ok) (hk : o.k = 4) (l : List Int) (B : Nat) (w : World) (hl : o.ni = l.length) (hI : Ws w B o.I l) (hB : B ≤ w.heap.size) : Calls Tryz.prog 117 #[.agg (obA o)] w (LayR w (layZ o l)) := by
  have hs := fun W => ringSize_o o ho hk W
  by_cases h : ringR o
  · have hsz := sizeZ_ring h
    obtain ⟨q1, q2, q3, q4, q5, q6, q7, q8⟩ := ring_bd h
    have hlw : (l.length : Int) = o.wd := by unfold ringR wordsR at h; omega
    have p0 := Int.emod_nonneg o.st (show o.s ≠ 0 by omega)
    have p1 := Int.emod_lt_of_pos o.st (show 0 < o.s by omega)
    have m := mul_bd (a := o.st % o.s) (b := o.wd) (by omega) (by omega) (by omega) (by omega)
    have m2 := mul_bd (a := o.s) (b := o.wd) (by omega) (by omega) (by omega) (by omega)
    obtain ⟨N, hN⟩ : ∃ N : Nat, sizeZ o = N := ⟨(sizeZ o).toNat, by omega⟩
    obtain ⟨D, hD⟩ : ∃ D : Nat, (1 + (o.st % o.s) * o.wd : Int) = D := ⟨(1 + (o.st % o.s) * o.wd : Int).toNat, by omega⟩
    have mm : (o.st % o.s) * o.wd + o.wd ≤ o.s * o.wd := by have := Int.mul_le_mul_of_nonneg_right (show o.st % o.s + 1 ≤ o.s by omega) (show 0 ≤ o.wd by omega); rw [Int.add_mul] at this; omega
    have hDN : D + l.length ≤ N := by omega
    have hDlt : D < N := by omega
    have hoff : offZ o = D := by unfold offZ slotZ; rw [head_ring hk, if_pos hk]; omega
    have hL : layZ o l = spl ((zs N).set 0 o.st) D l := by unfold layZ layB; rw [if_pos (.inr (.inr (.inr (.inl h)))), if_neg (by omega), hN, hoff, Int.toNat_natCast, Int.toNat_natCast]
    rw [hL]
    rw [hN] at hs
    have hc := fun W => ringFrom_o o ho h W
    rw [hD] at hc
    unfold obA at hc
    have HC := Lib.hid hc
    clear hc
    have g1 : D < N := hDlt
    have g2 : 0 < N := by omega
    have g3 : N ≤ 300 := by omega
    have g4 : ¬ N = D := by omega
    have g6 : D ≤ N := by omega
    have g7 : (D : Int) ≤ (N : Int) := by omega
    have hNl := Lib.hid hDN
    have hl0 := Lib.hid (show l ≠ [] by intro hh; rw [hh] at hlw; simp at hlw; omega)
    have hZN := Lib.hid (show ((zs N).set 0 o.st).length = N by simp [zs])
    have hmk := fun W => mkW N g3 W
    have hl2 := Lib.hid hl
    have HI := Lib.hid hI
    have HBw := Lib.hid hB
    have HWF := Lib.hid (wf_spl (Z := ((zs N).set 0 o.st)) D (wf_set 0 (wf_zs N) (wf_st ho)) hI.2)
    have HZ0 := Lib.hid (show (wsA (zs N))[0]? = some (.int .u32 0) by rw [wsA_get, zs, List.getElem?_replicate, if_pos g2]; rfl)
    unfold obA at hs
    have HS := Lib.hid hs
    clear hL h hk hsz q1 q2 q3 q4 q5 q6 q7 q8 hlw hN hoff ho hl hs hI hB hDN hDlt mm m m2 p0 p1
    have hD2 := Lib.hid hD
    clear hD
    have hn := ObX.new w o
    have hB := (Below.refl w.heap.size w).alloc (Nat.le_refl _) (.cells (obA o) 36)
    unfold obA at *
    have HN := Lib.hid hn
    have HB := Lib.hid hB
    clear hn hB
    go_enter Tryz.func117, Tryz.ntmps117
    go_wp2_with fail
    refine (HS.out _).mono ?_
    rintro e w1 ⟨rfl, hb1⟩
    have ho1 := ObX.kept HN.out hb1
    have hB1 := HB.out.trans (hb1.mono (by have := HB.out.size; omega))
    have hn1 := HN.out.lt
    have hs1 : w.heap.size + 1 ≤ w1.heap.size := by have := hb1.size; simp at this; omega
    have hnew := RowB.new w1 (wsA (zs N)) 32
    have hbb := (Below.refl w1.heap.size w1).alloc (Nat.le_refl _) (.cells (wsA (zs N)) 32)
    have hsz2 : (w1.alloc (.cells (wsA (zs N)) 32)).heap.size = w1.heap.size + 1 := by rw [World.size_alloc]
    obtain ⟨W2a, hW2⟩ : ∃ W2, w1.alloc (.cells (wsA (zs N)) 32) = W2 := ⟨_, rfl⟩
    rw [hW2] at hnew hbb hsz2
    obtain ⟨b, hb⟩ : ∃ b, w1.heap.size = b := ⟨_, rfl⟩
    obtain ⟨n, hn0⟩ : ∃ n, w.heap.size = n := ⟨_, rfl⟩
    have ho2 := ho1.kept hbb
    have hB2 := hB1.trans (hbb.mono (by omega))
    rw [hn0] at ho1 ho2 hs1 hB2 ⊢
    rw [hb] at hnew hbb hs1 hsz2
    have HO := Lib.hid ho2
    have HR := Lib.hid hnew
    have HB2 := Lib.hid hB2
    have HB1 := Lib.hid hB1
    clear hb1 ho1 ho2 hnew hbb hB1 hB2
    have c0 : W2a.cell? ⟨b, 0, none⟩ = some (.int .u32 0) := (HR.out.cell 0).trans HZ0.out
    have f0 : W2a.frozen? ⟨b, 0, none⟩ = false := HR.out.frozen 0
    have hr3 := HR.out.set 0 (.int .u32 o.st)
    rw [wsA_set] at hr3
    have ho3 : ObX (W2a.setCell ⟨b, 0, none⟩ (.int .u32 o.st)) n o := (heap_set W2a b 0 (.int .u32 o.st) n (by omega)).trans HO.out
    have hB3 := below_set1 HB2.out b 0 (by omega) (.int .u32 o.st)
    have hsz3 := size_set W2a b 0 (.int .u32 o.st)
    obtain ⟨d0, d1, d2, d3, d4, d5, d6, d7⟩ := HO.out.cells
    obtain ⟨W2, hW3⟩ : ∃ W, W2a.setCell ⟨b, 0, none⟩ (.int .u32 o.st) = W := ⟨_, rfl⟩
    rw [hW3] at hr3 ho3 hB3 hsz3
    rw [hsz2] at hsz3
    clear HR HO HB2
    have HR := Lib.hid hr3
    have HO := Lib.hid ho3
    have HB2 := Lib.hid hB3
    clear hr3 ho3 hB3
    go_wp2_with fail
    clear d0 d1 d2 d3 d4 d5 d6 d7 c0 f0
    have hSd : (fun w' : World => Below b W2 w' ∧ w'.cell? ⟨n, 0, none⟩ = some (.int .i64 o.k) ∧ w'.cell? ⟨n, 1, none⟩ = some (.int .i64 o.wd) ∧ w'.cell? ⟨n, 2, none⟩ = some (.int .i64 o.s) ∧ w'.cell? ⟨n, 3, none⟩ = some (.int .i64 o.c) ∧ w'.cell? ⟨n, 4, none⟩ = some (.int .u32 o.st) ∧ w'.cell? ⟨n, 5, none⟩ = some (.slice o.I o.ni o.ci) ∧ w'.cell? ⟨n, 6, none⟩ = some (.int .i64 o.wr) ∧ w'.cell? ⟨n, 7, none⟩ = some (.slice o.R o.nr o.cr)) W2.drew := ⟨(Below.refl _ W2).drew, (ObX.kept HO.out (Below.refl _ W2).drew).cells⟩
    have hrow : RowB W2.drew b (wsA ((zs N).set 0 o.st)) 32 := HR.out.kept (Below.refl _ W2).drew
    have hI : Ws W2.drew B o.I l := (HI.out.below (HB2.out.mono (by have := HBw.out; omega)) (Nat.le_refl _)).below (Below.refl _ W2).drew (Nat.le_refl _)
    refine wp_region_held_drew (S := (fun w' : World => Below b W2 w' ∧ w'.cell? ⟨n, 0, none⟩ = some (.int .i64 o.k) ∧ w'.cell? ⟨n, 1, none⟩ = some (.int .i64 o.wd) ∧ w'.cell? ⟨n, 2, none⟩ = some (.int .i64 o.s) ∧ w'.cell? ⟨n, 3, none⟩ = some (.int .i64 o.c) ∧ w'.cell? ⟨n, 4, none⟩ = some (.int .u32 o.st) ∧ w'.cell? ⟨n, 5, none⟩ = some (.slice o.I o.ni o.ci) ∧ w'.cell? ⟨n, 6, none⟩ = some (.int .i64 o.wr) ∧ w'.cell? ⟨n, 7, none⟩ = some (.slice o.R o.nr o.cr))) (by kernel_rfl) hSd (fun hHeld => ?_)
    generalize W2.drew = wd at hHeld hrow hI ⊢
    have hHeld : (fun w' : World => Below b W2 w' ∧ w'.cell? ⟨n, 0, none⟩ = some (.int .i64 o.k) ∧ w'.cell? ⟨n, 1, none⟩ = some (.int .i64 o.wd) ∧ w'.cell? ⟨n, 2, none⟩ = some (.int .i64 o.s) ∧ w'.cell? ⟨n, 3, none⟩ = some (.int .i64 o.c) ∧ w'.cell? ⟨n, 4, none⟩ = some (.int .u32 o.st) ∧ w'.cell? ⟨n, 5, none⟩ = some (.slice o.I o.ni o.ci) ∧ w'.cell? ⟨n, 6, none⟩ = some (.int .i64 o.wr) ∧ w'.cell? ⟨n, 7, none⟩ = some (.slice o.R o.nr o.cr)) wd := hHeld
    replace hrow := Lib.hid hrow
    replace hI := Lib.hid hI
    refine wpAnyH_take (i := 0) (oi := ?_) (v := ?_) ?_ (by kernel_rfl) (by kernel_rfl) (by kernel_rfl) ?_ (Or.inl ⟨?_, ?_⟩) (by assumption) ?_
    rotate_left 2
    · (simp only [List.getElem?_toArray, List.getElem?_cons_zero]; rfl)
    · first | exact fun _ _ _ h => h | exact fun _ _ _ h => by cases h.1
    · rfl
    · ((intro wq hSq; (try dsimp only at hSq); go_simp); (try with_reducible rfl))
    try simp only [Act.put, List.setIfInBounds_toArray, List.set_cons_zero, List.set_cons_succ]
    refine wpAnyH_take (i := 1) (oi := ?_) (v := ?_) ?_ (by kernel_rfl) (by kernel_rfl) (by kernel_rfl) ?_ (Or.inl ⟨?_, ?_⟩) (by assumption) ?_
    rotate_left 2
    · (simp only [List.getElem?_toArray, List.getElem?_cons_succ, List.getElem?_cons_zero]; rfl)
    · first | exact fun _ _ _ h => h | exact fun _ _ _ h => by cases h.1
    · rfl
    · ((intro wq hSq; (try dsimp only at hSq); go_simp); (try with_reducible rfl))
    try simp only [Act.put, List.setIfInBounds_toArray, List.set_cons_zero, List.set_cons_succ]
    refine wpAnyH_take (i := 2) (oi := ?_) (v := ?_) ?_ (by kernel_rfl) (by kernel_rfl) (by kernel_rfl) ?_ (Or.inl ⟨?_, ?_⟩) (by assumption) ?_
    rotate_left 2
    · (simp only [List.getElem?_toArray, List.getElem?_cons_succ, List.getElem?_cons_zero]; rfl)
    · first | exact fun _ _ _ h => h | exact fun _ _ _ h => by cases h.1
    · rfl
    · ((intro wq hSq; (try dsimp only at hSq); go_simp); (try with_reducible rfl))
    try simp only [Act.put, List.setIfInBounds_toArray, List.set_cons_zero, List.set_cons_succ]
    refine wpAnyH_take (i := 3) (oi := ?_) (v := ?_) ?_ (by kernel_rfl) (by kernel_rfl) (by kernel_rfl) ?_ (Or.inl ⟨?_, ?_⟩) (by assumption) ?_
    rotate_left 2
    · (simp only [List.getElem?_toArray, List.getElem?_cons_succ, List.getElem?_cons_zero]; rfl)
    · first | exact fun _ _ _ h => h | exact fun _ _ _ h => by cases h.1
    · rfl
    · ((intro wq hSq; (try dsimp only at hSq); go_simp); (try with_reducible rfl))
    try simp only [Act.put, List.setIfInBounds_toArray, List.set_cons_zero, List.set_cons_succ]
    refine wpAnyH_take (i := 6) (oi := ?_) (v := ?_) ?_ (by kernel_rfl) (by kernel_rfl) (by kernel_rfl) ?_ (Or.inl ⟨?_, ?_⟩) (by assumption) ?_
    rotate_left 2
    · (simp only [List.getElem?_toArray, List.getElem?_cons_succ, List.getElem?_cons_zero]; rfl)
    · first | exact fun _ _ _ h => h | exact fun _ _ _ h => by cases h.1
    · rfl
    · ((intro wq hSq; (try dsimp only at hSq); go_simp); (try with_reducible rfl))
    try simp only [Act.put, List.setIfInBounds_toArray, List.set_cons_zero, List.set_cons_succ]
    refine wpAnyH_take (i := 7) (oi := ?_) (v := ?_) ?_ (by kernel_rfl) (by kernel_rfl) (by kernel_rfl) ?_ (Or.inl ⟨?_, ?_⟩) (by assumption) ?_
    rotate_left 2
    · (simp only [List.getElem?_toArray, List.getElem?_cons_succ, List.getElem?_cons_zero]; rfl)
    · first | exact fun _ _ _ h => h | exact fun _ _ _ h => by cases h.1
    · rfl
    · ((intro wq hSq; (try dsimp only at hSq); go_simp); (try with_reducible rfl))
    try simp only [Act.put, List.setIfInBounds_toArray, List.set_cons_zero, List.set_cons_succ]
    refine wpAnyH_ready (rs := [4]) (by kernel_rfl) (by simp) ?_
    refine AllReadyH.cons (o := ?_) ?_ (fun K hK => ?_) AllReadyH.nil
    rotate_left
    · (simp only [List.getElem?_toArray, List.getElem?_cons_succ, List.getElem?_cons_zero]; rfl)
    go_simp
    go_at_call 160
    refine (HC.out _).mono ?_
    rintro ex wx ⟨rfl, hbx⟩
    have hSx : (fun w' : World => Below b W2 w' ∧ w'.cell? ⟨n, 0, none⟩ = some (.int .i64 o.k) ∧ w'.cell? ⟨n, 1, none⟩ = some (.int .i64 o.wd) ∧ w'.cell? ⟨n, 2, none⟩ = some (.int .i64 o.s) ∧ w'.cell? ⟨n, 3, none⟩ = some (.int .i64 o.c) ∧ w'.cell? ⟨n, 4, none⟩ = some (.int .u32 o.st) ∧ w'.cell? ⟨n, 5, none⟩ = some (.slice o.I o.ni o.ci) ∧ w'.cell? ⟨n, 6, none⟩ = some (.int .i64 o.wr) ∧ w'.cell? ⟨n, 7, none⟩ = some (.slice o.R o.nr o.cr)) wx := by
      obtain ⟨h0, u0, u1, u2, u3, u4, u5, u6, u7⟩ := hHeld
      have hk : ∀ {i : Nat} {u : Value}, _ → wx.cell? ⟨n, i, none⟩ = some u := fun {i u} hc => (hbx.cell (p := ⟨n, i, none⟩) (cell_lt hc)).trans hc
      exact ⟨h0.trans (hbx.mono (by have := h0.size; omega)), hk u0, hk u1, hk u2, hk u3, hk u4, hk u5, hk u6, hk u7⟩
    replace hrow := Lib.hid (hrow.out.kept hbx)
    replace hI := Lib.hid (hI.out.below (hbx.mono (by have := hHeld.1.size; have := HB2.out.size; have := HBw.out; omega)) (Nat.le_refl _))
    clear hbx
    refine hK.out _ _ hSx (fun hHeld => ?_)
    clear hK K
    try simp only [Act.put, List.setIfInBounds_toArray, List.set_cons_zero, List.set_cons_succ]
    refine wpAnyH_take (i := 5) (oi := ?_) (v := ?_) ?_ (by kernel_rfl) (by kernel_rfl) (by kernel_rfl) ?_ (Or.inl ⟨?_, ?_⟩) (by assumption) ?_
    rotate_left 2
    · (simp only [List.getElem?_toArray, List.getElem?_cons_succ, List.getElem?_cons_zero]; rfl)
    · first | exact fun _ _ _ h => h | exact fun _ _ _ h => by cases h.1
    · rfl
    · ((intro wq hSq; (try dsimp only at hSq); go_simp); (try with_reducible rfl))
    try simp only [Act.put, List.setIfInBounds_toArray, List.set_cons_zero, List.set_cons_succ]
    have hcp := copyW (off := D) (dL := N - D) (dC := N - D) (ci := o.ci) hl2.out hrow.out hI.out hl0.out hZN.out hNl.out (by have := hNl.out; omega)
    refine wpAnyH_ready (rs := [8]) (by kernel_rfl) (by simp) ?_
    refine AllReadyH.cons (o := ?_) ?_ (fun K hK => ?_) AllReadyH.nil
    rotate_left
    · (simp only [List.getElem?_toArray, List.getElem?_cons_succ, List.getElem?_cons_zero]; rfl)
    go_simp
    have hSx : (fun w' : World => Below b W2 w' ∧ w'.cell? ⟨n, 0, none⟩ = some (.int .i64 o.k) ∧ w'.cell? ⟨n, 1, none⟩ = some (.int .i64 o.wd) ∧ w'.cell? ⟨n, 2, none⟩ = some (.int .i64 o.s) ∧ w'.cell? ⟨n, 3, none⟩ = some (.int .i64 o.c) ∧ w'.cell? ⟨n, 4, none⟩ = some (.int .u32 o.st) ∧ w'.cell? ⟨n, 5, none⟩ = some (.slice o.I o.ni o.ci) ∧ w'.cell? ⟨n, 6, none⟩ = some (.int .i64 o.wr) ∧ w'.cell? ⟨n, 7, none⟩ = some (.slice o.R o.nr o.cr)) (wx.setRow b (wsA (spl ((zs N).set 0 o.st) D l))) := by
      obtain ⟨h0, u0, u1, u2, u3, u4, u5, u6, u7⟩ := hHeld
      have hnb : n ≠ b := by omega
      simp only [cell_row _ _ hnb]
      exact ⟨below_setRow h0 b _ (Nat.le_refl _), u0, u1, u2, u3, u4, u5, u6, u7⟩
    refine hK.out _ _ hSx (fun hHeld => ?_)
    clear hK K
    try simp only [Act.put, List.setIfInBounds_toArray, List.set_cons_zero, List.set_cons_succ]
    refine wpAnyH_done (by kernel_rfl) ?_ _
    clear hSd
    go_wp2_with fail
    go_ret
    exact LayR.row hrow.out.row (by rw [spl_len (by rw [hZN.out]; exact hNl.out)]; exact hZN.out) g3 HWF.out (by rw [hn0]; exact HB2.out.trans (hHeld.1.mono (by omega)))
  · have hna : ¬ anyR o := fun q => h (of_decide_eq_true ((any_ring hk).symm.trans (decide_eq_true q)))
    have hL : layZ o l = [] := by unfold layZ; rw [if_neg hna]
    have hz := sizeZ_no hna
    rw [hL]
    rw [hz] at hs
    obtain ⟨N, hN⟩ : ∃ N : Nat, N = 0 := ⟨_, rfl⟩
    have hs2 : ∀ W, _ := fun W => hs W
    have hmk := mkW0
    unfold obA at hs
    have HS := Lib.hid hs
    clear hL hz hs hs2 hna h hk ho hI hl hB hN
    have hn := ObX.new w o
    have hB := (Below.refl w.heap.size w).alloc (Nat.le_refl _) (.cells (obA o) 36)
    unfold obA at *
    have HN := Lib.hid hn
    have HB := Lib.hid hB
    clear hn hB
    go_enter Tryz.func117, Tryz.ntmps117
    go_wp2_with fail
    refine (HS.out _).mono ?_
    rintro e w1 ⟨rfl, hb1⟩
    have hB1 := HB.out.trans (hb1.mono (by have := HB.out.size; omega))
    have HB1 := Lib.hid hB1
    have hs1 : w.heap.size ≤ w1.heap.size := by have := hb1.size; simp at this; omega
    clear hB1 hb1
    go_wp2_with fail
    go_ret
    exact LayR.row (L := []) (RowB.new w1 (wsA (zs 0)) 32) rfl (by omega) (fun z hz => by cases hz) (HB1.out.alloc hs1 _)
set_option maxRecDepth 100000 in
set_option maxHeartbeats 2000000 in
theorem cabLay_o (o : Ob) (ho : o.Ok) (hk : o.k = 5) (l : List Int) (B : Nat) (w : World) (hl : o.ni = l.length) (hI : Ws w B o.I l) (hB : B ≤ w.heap.size) : Calls Tryz.prog 118 #[.agg (obA o)] w (LayR w (layZ o l)) := by
  have hs := fun W => cabSize_o o ho hk W
  by_cases h : cabR o
  · have hsz := sizeZ_cab h
    obtain ⟨q1, q2, q3, q4, q5, q6, q7, q8⟩ := cab_bd h
    have hlw : (l.length : Int) = o.wd := by unfold cabR wordsR at h; omega
    have m2 := mul_bd (a := o.s) (b := o.wd) (by omega) (by omega) (by omega) (by omega)
    obtain ⟨N, hN⟩ : ∃ N : Nat, sizeZ o = N := ⟨(sizeZ o).toNat, by omega⟩
    obtain ⟨D, hD⟩ : ∃ D : Nat, (1 + o.nr : Int) = D := ⟨(1 + o.nr : Int).toNat, by omega⟩
    have mm : 2 * o.wd ≤ o.s * o.wd := Int.mul_le_mul_of_nonneg_right (by omega) (by omega)
    have hDN : D + l.length ≤ N := by omega
    have hDlt : D < N := by omega
    have hst : o.st = 0 := by unfold cabR at h; exact h.2.2.2.2
    have hoff : offZ o = D := by unfold offZ slotZ; rw [head_cab hk, if_neg (by omega)]; omega
    have hL : layZ o l = spl (zs N) D l := by unfold layZ layB; rw [if_pos (.inr (.inr (.inr (.inr (.inl h))))), if_neg (by omega), hN, hoff, Int.toNat_natCast, Int.toNat_natCast]; rw [hst, zs_set]
    rw [hL]
    rw [hN] at hs
    have hc := fun W => cabData_o o q4 W
    rw [hD] at hc
    unfold obA at hc
    have HC := Lib.hid hc
    clear hc
    have g1 : D < N := hDlt
    have g2 : 0 < N := by omega
    have g3 : N ≤ 300 := by omega
    have g4 : ¬ N = D := by omega
    have g6 : D ≤ N := by omega
    have g7 : (D : Int) ≤ (N : Int) := by omega
    have hNl := Lib.hid hDN
    have hl0 := Lib.hid (show l ≠ [] by intro hh; rw [hh] at hlw; simp at hlw; omega)
    have hZN := Lib.hid (show (zs N).length = N by simp [zs])
    have hmk := fun W => mkW N g3 W
    have hl2 := Lib.hid hl
    have HI := Lib.hid hI
    have HBw := Lib.hid hB
    have HWF := Lib.hid (wf_spl (Z := (zs N)) D (wf_zs N) hI.2)
    unfold obA at hs
    have HS := Lib.hid hs
    clear hL h hk hsz q1 q2 q3 q4 q5 q6 q7 q8 hlw hN hoff ho hl hs hI hB hDN hDlt hst mm m2
    have hD2 := Lib.hid hD
    clear hD
    have hn := ObX.new w o
    have hB := (Below.refl w.heap.size w).alloc (Nat.le_refl _) (.cells (obA o) 36)
    unfold obA at *
    have HN := Lib.hid hn
    have HB := Lib.hid hB
    clear hn hB
    go_enter Tryz.func118, Tryz.ntmps118
    go_wp2_with fail
    refine (HS.out _).mono ?_
    rintro e w1 ⟨rfl, hb1⟩
    have ho1 := ObX.kept HN.out hb1
    have hB1 := HB.out.trans (hb1.mono (by have := HB.out.size; omega))
    have hn1 := HN.out.lt
    have hs1 : w.heap.size + 1 ≤ w1.heap.size := by have := hb1.size; simp at this; omega
    have hnew := RowB.new w1 (wsA (zs N)) 32
    have hbb := (Below.refl w1.heap.size w1).alloc (Nat.le_refl _) (.cells (wsA (zs N)) 32)
    have hsz2 : (w1.alloc (.cells (wsA (zs N)) 32)).heap.size = w1.heap.size + 1 := by rw [World.size_alloc]
    obtain ⟨W2, hW2⟩ : ∃ W2, w1.alloc (.cells (wsA (zs N)) 32) = W2 := ⟨_, rfl⟩
    rw [hW2] at hnew hbb hsz2
    obtain ⟨b, hb⟩ : ∃ b, w1.heap.size = b := ⟨_, rfl⟩
    obtain ⟨n, hn0⟩ : ∃ n, w.heap.size = n := ⟨_, rfl⟩
    have ho2 := ho1.kept hbb
    have hB2 := hB1.trans (hbb.mono (by omega))
    rw [hn0] at ho1 ho2 hs1 hB2 ⊢
    rw [hb] at hnew hbb hs1 hsz2
    have HO := Lib.hid ho2
    have HR := Lib.hid hnew
    have HB2 := Lib.hid hB2
    have HB1 := Lib.hid hB1
    clear hb1 ho1 ho2 hnew hbb hB1 hB2
    go_wp2_with fail
    have hSd : (fun w' : World => Below b W2 w' ∧ w'.cell? ⟨n, 0, none⟩ = some (.int .i64 o.k) ∧ w'.cell? ⟨n, 1, none⟩ = some (.int .i64 o.wd) ∧ w'.cell? ⟨n, 2, none⟩ = some (.int .i64 o.s) ∧ w'.cell? ⟨n, 3, none⟩ = some (.int .i64 o.c) ∧ w'.cell? ⟨n, 4, none⟩ = some (.int .u32 o.st) ∧ w'.cell? ⟨n, 5, none⟩ = some (.slice o.I o.ni o.ci) ∧ w'.cell? ⟨n, 6, none⟩ = some (.int .i64 o.wr) ∧ w'.cell? ⟨n, 7, none⟩ = some (.slice o.R o.nr o.cr)) W2.drew := ⟨(Below.refl _ W2).drew, (ObX.kept HO.out (Below.refl _ W2).drew).cells⟩
    have hrow : RowB W2.drew b (wsA (zs N)) 32 := HR.out.kept (Below.refl _ W2).drew
    have hI : Ws W2.drew B o.I l := (HI.out.below (HB2.out.mono (by have := HBw.out; omega)) (Nat.le_refl _)).below (Below.refl _ W2).drew (Nat.le_refl _)
    refine wp_region_held_drew (S := (fun w' : World => Below b W2 w' ∧ w'.cell? ⟨n, 0, none⟩ = some (.int .i64 o.k) ∧ w'.cell? ⟨n, 1, none⟩ = some (.int .i64 o.wd) ∧ w'.cell? ⟨n, 2, none⟩ = some (.int .i64 o.s) ∧ w'.cell? ⟨n, 3, none⟩ = some (.int .i64 o.c) ∧ w'.cell? ⟨n, 4, none⟩ = some (.int .u32 o.st) ∧ w'.cell? ⟨n, 5, none⟩ = some (.slice o.I o.ni o.ci) ∧ w'.cell? ⟨n, 6, none⟩ = some (.int .i64 o.wr) ∧ w'.cell? ⟨n, 7, none⟩ = some (.slice o.R o.nr o.cr))) (by kernel_rfl) hSd (fun hHeld => ?_)
    generalize W2.drew = wd at hHeld hrow hI ⊢
    have hHeld : (fun w' : World => Below b W2 w' ∧ w'.cell? ⟨n, 0, none⟩ = some (.int .i64 o.k) ∧ w'.cell? ⟨n, 1, none⟩ = some (.int .i64 o.wd) ∧ w'.cell? ⟨n, 2, none⟩ = some (.int .i64 o.s) ∧ w'.cell? ⟨n, 3, none⟩ = some (.int .i64 o.c) ∧ w'.cell? ⟨n, 4, none⟩ = some (.int .u32 o.st) ∧ w'.cell? ⟨n, 5, none⟩ = some (.slice o.I o.ni o.ci) ∧ w'.cell? ⟨n, 6, none⟩ = some (.int .i64 o.wr) ∧ w'.cell? ⟨n, 7, none⟩ = some (.slice o.R o.nr o.cr)) wd := hHeld
    replace hrow := Lib.hid hrow
    replace hI := Lib.hid hI
    refine wpAnyH_take (i := 0) (oi := ?_) (v := ?_) ?_ (by kernel_rfl) (by kernel_rfl) (by kernel_rfl) ?_ (Or.inl ⟨?_, ?_⟩) (by assumption) ?_
    rotate_left 2
    · (simp only [List.getElem?_toArray, List.getElem?_cons_zero]; rfl)
    · first | exact fun _ _ _ h => h | exact fun _ _ _ h => by cases h.1
    · rfl
    · ((intro wq hSq; (try dsimp only at hSq); go_simp); (try with_reducible rfl))
    try simp only [Act.put, List.setIfInBounds_toArray, List.set_cons_zero, List.set_cons_succ]
    refine wpAnyH_take (i := 1) (oi := ?_) (v := ?_) ?_ (by kernel_rfl) (by kernel_rfl) (by kernel_rfl) ?_ (Or.inl ⟨?_, ?_⟩) (by assumption) ?_
    rotate_left 2
    · (simp only [List.getElem?_toArray, List.getElem?_cons_succ, List.getElem?_cons_zero]; rfl)
    · first | exact fun _ _ _ h => h | exact fun _ _ _ h => by cases h.1
    · rfl
    · ((intro wq hSq; (try dsimp only at hSq); go_simp); (try with_reducible rfl))
    try simp only [Act.put, List.setIfInBounds_toArray, List.set_cons_zero, List.set_cons_succ]
    refine wpAnyH_take (i := 4) (oi := ?_) (v := ?_) ?_ (by kernel_rfl) (by kernel_rfl) (by kernel_rfl) ?_ (Or.inl ⟨?_, ?_⟩) (by assumption) ?_
    rotate_left 2
    · (simp only [List.getElem?_toArray, List.getElem?_cons_succ, List.getElem?_cons_zero]; rfl)
    · first | exact fun _ _ _ h => h | exact fun _ _ _ h => by cases h.1
    · rfl
    · ((intro wq hSq; (try dsimp only at hSq); go_simp); (try with_reducible rfl))
    try simp only [Act.put, List.setIfInBounds_toArray, List.set_cons_zero, List.set_cons_succ]
    refine wpAnyH_take (i := 5) (oi := ?_) (v := ?_) ?_ (by kernel_rfl) (by kernel_rfl) (by kernel_rfl) ?_ (Or.inl ⟨?_, ?_⟩) (by assumption) ?_
    rotate_left 2
    · (simp only [List.getElem?_toArray, List.getElem?_cons_succ, List.getElem?_cons_zero]; rfl)
    · first | exact fun _ _ _ h => h | exact fun _ _ _ h => by cases h.1
    · rfl
    · ((intro wq hSq; (try dsimp only at hSq); go_simp); (try with_reducible rfl))
    try simp only [Act.put, List.setIfInBounds_toArray, List.set_cons_zero, List.set_cons_succ]
    refine wpAnyH_ready (rs := [2]) (by kernel_rfl) (by simp) ?_
    refine AllReadyH.cons (o := ?_) ?_ (fun K hK => ?_) AllReadyH.nil
    rotate_left
    · (simp only [List.getElem?_toArray, List.getElem?_cons_succ, List.getElem?_cons_zero]; rfl)
    go_simp
    go_at_call 161
    refine (HC.out _).mono ?_
    rintro ex wx ⟨rfl, hbx⟩
    have hSx : (fun w' : World => Below b W2 w' ∧ w'.cell? ⟨n, 0, none⟩ = some (.int .i64 o.k) ∧ w'.cell? ⟨n, 1, none⟩ = some (.int .i64 o.wd) ∧ w'.cell? ⟨n, 2, none⟩ = some (.int .i64 o.s) ∧ w'.cell? ⟨n, 3, none⟩ = some (.int .i64 o.c) ∧ w'.cell? ⟨n, 4, none⟩ = some (.int .u32 o.st) ∧ w'.cell? ⟨n, 5, none⟩ = some (.slice o.I o.ni o.ci) ∧ w'.cell? ⟨n, 6, none⟩ = some (.int .i64 o.wr) ∧ w'.cell? ⟨n, 7, none⟩ = some (.slice o.R o.nr o.cr)) wx := by
      obtain ⟨h0, u0, u1, u2, u3, u4, u5, u6, u7⟩ := hHeld
      have hk : ∀ {i : Nat} {u : Value}, _ → wx.cell? ⟨n, i, none⟩ = some u := fun {i u} hc => (hbx.cell (p := ⟨n, i, none⟩) (cell_lt hc)).trans hc
      exact ⟨h0.trans (hbx.mono (by have := h0.size; omega)), hk u0, hk u1, hk u2, hk u3, hk u4, hk u5, hk u6, hk u7⟩
    replace hrow := Lib.hid (hrow.out.kept hbx)
    replace hI := Lib.hid (hI.out.below (hbx.mono (by have := hHeld.1.size; have := HB2.out.size; have := HBw.out; omega)) (Nat.le_refl _))
    clear hbx
    refine hK.out _ _ hSx (fun hHeld => ?_)
    clear hK K
    try simp only [Act.put, List.setIfInBounds_toArray, List.set_cons_zero, List.set_cons_succ]
    refine wpAnyH_take (i := 3) (oi := ?_) (v := ?_) ?_ (by kernel_rfl) (by kernel_rfl) (by kernel_rfl) ?_ (Or.inl ⟨?_, ?_⟩) (by assumption) ?_
    rotate_left 2
    · (simp only [List.getElem?_toArray, List.getElem?_cons_succ, List.getElem?_cons_zero]; rfl)
    · first | exact fun _ _ _ h => h | exact fun _ _ _ h => by cases h.1
    · rfl
    · ((intro wq hSq; (try dsimp only at hSq); go_simp); (try with_reducible rfl))
    try simp only [Act.put, List.setIfInBounds_toArray, List.set_cons_zero, List.set_cons_succ]
    have hcp := copyW (off := D) (dL := N - D) (dC := N - D) (ci := o.ci) hl2.out hrow.out hI.out hl0.out hZN.out hNl.out (by have := hNl.out; omega)
    refine wpAnyH_ready (rs := [6]) (by kernel_rfl) (by simp) ?_
    refine AllReadyH.cons (o := ?_) ?_ (fun K hK => ?_) AllReadyH.nil
    rotate_left
    · (simp only [List.getElem?_toArray, List.getElem?_cons_succ, List.getElem?_cons_zero]; rfl)
    go_simp
    have hSx : (fun w' : World => Below b W2 w' ∧ w'.cell? ⟨n, 0, none⟩ = some (.int .i64 o.k) ∧ w'.cell? ⟨n, 1, none⟩ = some (.int .i64 o.wd) ∧ w'.cell? ⟨n, 2, none⟩ = some (.int .i64 o.s) ∧ w'.cell? ⟨n, 3, none⟩ = some (.int .i64 o.c) ∧ w'.cell? ⟨n, 4, none⟩ = some (.int .u32 o.st) ∧ w'.cell? ⟨n, 5, none⟩ = some (.slice o.I o.ni o.ci) ∧ w'.cell? ⟨n, 6, none⟩ = some (.int .i64 o.wr) ∧ w'.cell? ⟨n, 7, none⟩ = some (.slice o.R o.nr o.cr)) (wx.setRow b (wsA (spl (zs N) D l))) := by
      obtain ⟨h0, u0, u1, u2, u3, u4, u5, u6, u7⟩ := hHeld
      have hnb : n ≠ b := by omega
      simp only [cell_row _ _ hnb]
      exact ⟨below_setRow h0 b _ (Nat.le_refl _), u0, u1, u2, u3, u4, u5, u6, u7⟩
    refine hK.out _ _ hSx (fun hHeld => ?_)
    clear hK K
    try simp only [Act.put, List.setIfInBounds_toArray, List.set_cons_zero, List.set_cons_succ]
    refine wpAnyH_done (by kernel_rfl) ?_ _
    clear hSd
    go_wp2_with fail
    go_ret
    exact LayR.row hrow.out.row (by rw [spl_len (by rw [hZN.out]; exact hNl.out)]; exact hZN.out) g3 HWF.out (by rw [hn0]; exact HB2.out.trans (hHeld.1.mono (by omega)))
  · have hna : ¬ anyR o := fun q => h (of_decide_eq_true ((any_cab hk).symm.trans (decide_eq_true q)))
    have hL : layZ o l = [] := by unfold layZ; rw [if_neg hna]
    have hz := sizeZ_no hna
    rw [hL]
    rw [hz] at hs
    obtain ⟨N, hN⟩ : ∃ N : Nat, N = 0 := ⟨_, rfl⟩
    have hs2 : ∀ W, _ := fun W => hs W
    have hmk := mkW0
    unfold obA at hs
    have HS := Lib.hid hs
    clear hL hz hs hs2 hna h hk ho hI hl hB hN
    have hn := ObX.new w o
    have hB := (Below.refl w.heap.size w).alloc (Nat.le_refl _) (.cells (obA o) 36)
    unfold obA at *
    have HN := Lib.hid hn
    have HB := Lib.hid hB
    clear hn hB
    go_enter Tryz.func118, Tryz.ntmps118
    go_wp2_with fail
    refine (HS.out _).mono ?_
    rintro e w1 ⟨rfl, hb1⟩
    have hB1 := HB.out.trans (hb1.mono (by have := HB.out.size; omega))
    have HB1 := Lib.hid hB1
    have hs1 : w.heap.size ≤ w1.heap.size := by have := hb1.size; simp at this; omega
    clear hB1 hb1
    go_wp2_with fail
    go_ret
    exact LayR.row (L := []) (RowB.new w1 (wsA (zs 0)) 32) rfl (by omega) (fun z hz => by cases hz) (HB1.out.alloc hs1 _)

end Go.Proofs.YtgjcniokgdicpaaGreatDoor
