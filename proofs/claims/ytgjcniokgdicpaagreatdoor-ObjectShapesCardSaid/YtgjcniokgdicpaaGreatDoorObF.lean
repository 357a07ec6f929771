/- Layer 20, the chapter's example: a step, from without. -/
import Derived.Test.YtgjcniokgdicpaaGreatDoorObE
namespace Go.Proofs.YtgjcniokgdicpaaGreatDoor
open Go.RowKit
attribute [local go_sem] Oper.semAt_some

theorem len_c (mb lb : Nat) (w : World) (hm : MemB w mb lb 2 9 0) : Calls Tryz.prog 104 #[.pointer (some ⟨mb, 0, none⟩)] w fun e w' => e = .returned (.int .i64 2) ∧ w' = w := by
  have c0 : w.cell? ⟨mb, 0, none⟩ = some (.slice (some ⟨lb, 0, none⟩) 2 2) := (hm.1.cell 0).trans rfl
  clear hm
  go_enter Tryz.func104, Tryz.ntmps104
  go_wp2_with fail
  go_ret
  exact ⟨rfl, rfl⟩
section
variable (I R : Option Addr)
def OpSt (w : World) (sb : Nat) (w' : World) : Prop := Below w.heap.size w w' ∧ w'.cell? ⟨sb, 22, none⟩ = some (.bool false) ∧ w'.cell? ⟨sb, 18, none⟩ = some (.int .i64 0) ∧ w'.cell? ⟨sb, 19, none⟩ = some (.int .i64 2)
theorem OpSt.below {w w1 w' : World} {sb : Nat} (h : OpSt w sb w1) (hb : Below w1.heap.size w1 w') : OpSt w sb w' := by
  obtain ⟨h1, a0, a1, a2⟩ := h
  have hk : ∀ {i : Nat} {u : Value}, w1.cell? ⟨sb, i, none⟩ = some u → w'.cell? ⟨sb, i, none⟩ = some u := fun {i u} hc => (hb.cell (p := ⟨sb, i, none⟩) (cell_lt hc)).trans hc
  exact ⟨h1.trans (hb.mono h1.size), hk a0, hk a1, hk a2⟩
set_option maxRecDepth 100000 in
set_option maxHeartbeats 4000000 in
theorem open_c (sb mb lb N : Nat) (w : World) (hm : MemB w mb lb 2 9 0) (hc : RowB w sb (coreA I R 0 0 (.pointer none) 0) 120) (hN : N ≤ sb) (hN2 : N ≤ w.heap.size) : Calls Tryz.prog 127 #[.pointer (some ⟨sb, 0, none⟩), .pointer (some ⟨mb, 0, none⟩)] w fun e w' => e = .returned (.bool true) ∧ MemB w' mb lb 2 9 0 ∧ RowB w' sb (coreA I R 0 0 (.pointer (some ⟨mb, 0, none⟩)) 1) 120 ∧ Below N w w' ∧ (∀ n arr t, n ≠ sb → RowB w n arr t → RowB w' n arr t) := by
  obtain ⟨hsm, hsl⟩ := core_far I R hm hc
  have hcd := hc.kept (Below.refl _ w).drew
  have hSd : OpSt w sb w.drew := ⟨(Below.refl _ w).drew, (hcd.cell 22).trans rfl, (hcd.cell 18).trans rfl, (hcd.cell 19).trans rfl⟩
  have hmd := hm.kept (Below.refl _ w).drew
  have HI := Lib.hid fun W => inside_c W
  have HC := Lib.hid hc
  have HM := Lib.hid hm
  have HMD := Lib.hid hmd
  clear hcd hmd hm hc
  go_enter Tryz.func127, Tryz.ntmps127
  go_wp2_with fail
  refine wp_region_held_drew (S := fun w' => Below w.heap.size w w' ∧ w'.cell? ⟨sb, 22, none⟩ = some (.bool false) ∧ w'.cell? ⟨sb, 18, none⟩ = some (.int .i64 0) ∧ w'.cell? ⟨sb, 19, none⟩ = some (.int .i64 2)) (by kernel_rfl) hSd (fun hHeld => ?_)
  have hL := Lib.hid (len_c mb lb w.drew HMD.out)
  generalize w.drew = wd at hHeld hL ⊢
  refine wpAnyH_take (i := 0) (oi := ?_) (v := ?_) ?_ (by kernel_rfl) (by kernel_rfl) (by kernel_rfl) ?_ (Or.inl ⟨?_, ?_⟩) (by assumption) ?_
  rotate_left 2
  · (simp only [List.getElem?_toArray, List.getElem?_cons_zero]; rfl)
  · first | exact fun _ _ _ h => h | exact fun _ _ _ h => by cases h.1
  · rfl
  · ((intro wq hSq; (try dsimp only at hSq); go_simp); (try with_reducible rfl))
  try simp only [Act.put, List.setIfInBounds_toArray, List.set_cons_zero, List.set_cons_succ]
  refine wpAnyH_take (i := 1) (oi := ?_) (v := ?_) ?_ (by kernel_rfl) (by kernel_rfl) (by kernel_rfl) ?_ (Or.inl ⟨?_, ?_⟩) (by assumption) ?_
  rotate_left 2
  · (simp only [List.getElem?_toArray, List.getElem?_cons_succ, List.getElem?_cons_zero]; rfl)
  · first | exact fun _ _ _ h => h | exact fun _ _ _ h => by cases h.1
  · rfl
  · ((intro wq hSq; (try dsimp only at hSq); go_simp); (try with_reducible rfl))
  try simp only [Act.put, List.setIfInBounds_toArray, List.set_cons_zero, List.set_cons_succ]
  refine wpAnyH_take (i := 2) (oi := ?_) (v := ?_) ?_ (by kernel_rfl) (by kernel_rfl) (by kernel_rfl) ?_ (Or.inl ⟨?_, ?_⟩) (by assumption) ?_
  rotate_left 2
  · (simp only [List.getElem?_toArray, List.getElem?_cons_succ, List.getElem?_cons_zero]; rfl)
  · first | exact fun _ _ _ h => h | exact fun _ _ _ h => by cases h.1
  · rfl
  · ((intro wq hSq; (try dsimp only at hSq); go_simp); (try with_reducible rfl))
  try simp only [Act.put, List.setIfInBounds_toArray, List.set_cons_zero, List.set_cons_succ]
  refine wpAnyH_take (i := 3) (oi := ?_) (v := ?_) ?_ (by kernel_rfl) (by kernel_rfl) (by kernel_rfl) ?_ (Or.inl ⟨?_, ?_⟩) (by assumption) ?_
  rotate_left 2
  · (simp only [List.getElem?_toArray, List.getElem?_cons_succ, List.getElem?_cons_zero]; rfl)
  · first | exact fun _ _ _ h => h | exact fun _ _ _ h => by cases h.1
  · rfl
  · ((intro wq hSq; (try dsimp only at hSq); go_simp); (try with_reducible rfl))
  try simp only [Act.put, List.setIfInBounds_toArray, List.set_cons_zero, List.set_cons_succ]
  refine wpAnyH_take (i := 4) (oi := ?_) (v := ?_) ?_ (by kernel_rfl) (by kernel_rfl) (by kernel_rfl) ?_ (Or.inl ⟨?_, ?_⟩) (by assumption) ?_
  rotate_left 2
  · (simp only [List.getElem?_toArray, List.getElem?_cons_succ, List.getElem?_cons_zero]; rfl)
  · first | exact fun _ _ _ h => h | exact fun _ _ _ h => by cases h.1
  · rfl
  · ((intro wq hSq; (try dsimp only at hSq); go_simp); (try with_reducible rfl))
  try simp only [Act.put, List.setIfInBounds_toArray, List.set_cons_zero, List.set_cons_succ]
  refine wpAnyH_take (i := 5) (oi := ?_) (v := ?_) ?_ (by kernel_rfl) (by kernel_rfl) (by kernel_rfl) ?_ (Or.inl ⟨?_, ?_⟩) (by assumption) ?_
  rotate_left 2
  · (simp only [List.getElem?_toArray, List.getElem?_cons_succ, List.getElem?_cons_zero]; rfl)
  · first | exact fun _ _ _ h => h | exact fun _ _ _ h => by cases h.1
  · rfl
  · ((intro wq hSq; (try dsimp only at hSq); go_simp); (try with_reducible rfl))
  try simp only [Act.put, List.setIfInBounds_toArray, List.set_cons_zero, List.set_cons_succ]
  refine wpAnyH_take (i := 7) (oi := ?_) (v := ?_) ?_ (by kernel_rfl) (by kernel_rfl) (by kernel_rfl) ?_ (Or.inl ⟨?_, ?_⟩) (by assumption) ?_
  rotate_left 2
  · (simp only [List.getElem?_toArray, List.getElem?_cons_succ, List.getElem?_cons_zero]; rfl)
  · first | exact fun _ _ _ h => h | exact fun _ _ _ h => by cases h.1
  · rfl
  · ((intro wq hSq; (try dsimp only at hSq); go_simp); (try with_reducible rfl))
  try simp only [Act.put, List.setIfInBounds_toArray, List.set_cons_zero, List.set_cons_succ]
  refine wpAnyH_take (i := 8) (oi := ?_) (v := ?_) ?_ (by kernel_rfl) (by kernel_rfl) (by kernel_rfl) ?_ (Or.inl ⟨?_, ?_⟩) (by assumption) ?_
  rotate_left 2
  · (simp only [List.getElem?_toArray, List.getElem?_cons_succ, List.getElem?_cons_zero]; rfl)
  · first | exact fun _ _ _ h => h | exact fun _ _ _ h => by cases h.1
  · rfl
  · ((intro wq hSq; (try dsimp only at hSq); go_simp); (try with_reducible rfl))
  try simp only [Act.put, List.setIfInBounds_toArray, List.set_cons_zero, List.set_cons_succ]
  refine wpAnyH_take (i := 9) (oi := ?_) (v := ?_) ?_ (by kernel_rfl) (by kernel_rfl) (by kernel_rfl) ?_ (Or.inl ⟨?_, ?_⟩) (by assumption) ?_
  rotate_left 2
  · (simp only [List.getElem?_toArray, List.getElem?_cons_succ, List.getElem?_cons_zero]; rfl)
  · first | exact fun _ _ _ h => h | exact fun _ _ _ h => by cases h.1
  · rfl
  · ((intro wq hSq; (try dsimp only at hSq); go_simp); (try with_reducible rfl))
  try simp only [Act.put, List.setIfInBounds_toArray, List.set_cons_zero, List.set_cons_succ]
  refine wpAnyH_take (i := 10) (oi := ?_) (v := ?_) ?_ (by kernel_rfl) (by kernel_rfl) (by kernel_rfl) ?_ (Or.inl ⟨?_, ?_⟩) (by assumption) ?_
  rotate_left 2
  · (simp only [List.getElem?_toArray, List.getElem?_cons_succ, List.getElem?_cons_zero]; rfl)
  · first | exact fun _ _ _ h => h | exact fun _ _ _ h => by cases h.1
  · rfl
  · ((intro wq hSq; (try dsimp only at hSq); go_simp); (try with_reducible rfl))
  try simp only [Act.put, List.setIfInBounds_toArray, List.set_cons_zero, List.set_cons_succ]
  refine wpAnyH_take (i := 11) (oi := ?_) (v := ?_) ?_ (by kernel_rfl) (by kernel_rfl) (by kernel_rfl) ?_ (Or.inl ⟨?_, ?_⟩) (by assumption) ?_
  rotate_left 2
  · (simp only [List.getElem?_toArray, List.getElem?_cons_succ, List.getElem?_cons_zero]; rfl)
  · first | exact fun _ _ _ h => h | exact fun _ _ _ h => by cases h.1
  · rfl
  · ((intro wq hSq; (try dsimp only at hSq); go_simp); (try with_reducible rfl))
  try simp only [Act.put, List.setIfInBounds_toArray, List.set_cons_zero, List.set_cons_succ]
  refine wpAnyH_take (i := 12) (oi := ?_) (v := ?_) ?_ (by kernel_rfl) (by kernel_rfl) (by kernel_rfl) ?_ (Or.inl ⟨?_, ?_⟩) (by assumption) ?_
  rotate_left 2
  · (simp only [List.getElem?_toArray, List.getElem?_cons_succ, List.getElem?_cons_zero]; rfl)
  · first | exact fun _ _ _ h => h | exact fun _ _ _ h => by cases h.1
  · rfl
  · ((intro wq hSq; (try dsimp only at hSq); go_simp); (try with_reducible rfl))
  try simp only [Act.put, List.setIfInBounds_toArray, List.set_cons_zero, List.set_cons_succ]
  refine wpAnyH_take (i := 13) (oi := ?_) (v := ?_) ?_ (by kernel_rfl) (by kernel_rfl) (by kernel_rfl) ?_ (Or.inl ⟨?_, ?_⟩) (by assumption) ?_
  rotate_left 2
  · (simp only [List.getElem?_toArray, List.getElem?_cons_succ, List.getElem?_cons_zero]; rfl)
  · first | exact fun _ _ _ h => h | exact fun _ _ _ h => by cases h.1
  · rfl
  · ((intro wq hSq; (try dsimp only at hSq); go_simp); (try with_reducible rfl))
  try simp only [Act.put, List.setIfInBounds_toArray, List.set_cons_zero, List.set_cons_succ]
  refine wpAnyH_take (i := 14) (oi := ?_) (v := ?_) ?_ (by kernel_rfl) (by kernel_rfl) (by kernel_rfl) ?_ (Or.inl ⟨?_, ?_⟩) (by assumption) ?_
  rotate_left 2
  · (simp only [List.getElem?_toArray, List.getElem?_cons_succ, List.getElem?_cons_zero]; rfl)
  · first | exact fun _ _ _ h => h | exact fun _ _ _ h => by cases h.1
  · rfl
  · ((intro wq hSq; (try dsimp only at hSq); go_simp); (try with_reducible rfl))
  try simp only [Act.put, List.setIfInBounds_toArray, List.set_cons_zero, List.set_cons_succ]
  refine wpAnyH_take (i := 15) (oi := ?_) (v := ?_) ?_ (by kernel_rfl) (by kernel_rfl) (by kernel_rfl) ?_ (Or.inl ⟨?_, ?_⟩) (by assumption) ?_
  rotate_left 2
  · (simp only [List.getElem?_toArray, List.getElem?_cons_succ, List.getElem?_cons_zero]; rfl)
  · first | exact fun _ _ _ h => h | exact fun _ _ _ h => by cases h.1
  · rfl
  · ((intro wq hSq; (try dsimp only at hSq); go_simp); (try with_reducible rfl))
  try simp only [Act.put, List.setIfInBounds_toArray, List.set_cons_zero, List.set_cons_succ]
  refine wpAnyH_ready (rs := [6]) (by kernel_rfl) (by simp) ?_
  refine AllReadyH.cons (o := ?_) ?_ (fun K hK => ?_) AllReadyH.nil
  rotate_left
  · (simp only [List.getElem?_toArray, List.getElem?_cons_succ, List.getElem?_cons_zero]; rfl)
  go_simp
  go_at_call 104
  refine hL.out.mono ?_
  rintro ex wx ⟨rfl, rfl⟩
  have hSx : OpSt w sb _ := hHeld
  refine hK.out _ _ hSx (fun hHeld => ?_)
  clear hK K
  try simp only [Act.put, List.setIfInBounds_toArray, List.set_cons_zero, List.set_cons_succ]
  refine wpAnyH_ready (rs := [16]) (by kernel_rfl) (by simp) ?_
  refine AllReadyH.cons (o := ?_) ?_ (fun K hK => ?_) AllReadyH.nil
  rotate_left
  · (simp only [List.getElem?_toArray, List.getElem?_cons_succ, List.getElem?_cons_zero]; rfl)
  go_simp
  go_at_call 140
  refine (HI.out _).mono ?_
  rintro ex wy ⟨rfl, hbx⟩
  have hSx := OpSt.below (w := w) (sb := sb) hHeld hbx
  refine hK.out _ _ hSx (fun hHeld => ?_)
  clear hK K
  try simp only [Act.put, List.setIfInBounds_toArray, List.set_cons_zero, List.set_cons_succ]
  refine wpAnyH_take (i := 17) (oi := ?_) (v := ?_) ?_ (by kernel_rfl) (by kernel_rfl) (by kernel_rfl) ?_ (Or.inl ⟨?_, ?_⟩) (by assumption) ?_
  rotate_left 2
  · (simp only [List.getElem?_toArray, List.getElem?_cons_succ, List.getElem?_cons_zero]; rfl)
  · first | exact fun _ _ _ h => h | exact fun _ _ _ h => by cases h.1
  · rfl
  · ((intro wq hSq; (try dsimp only at hSq); go_simp); (try with_reducible rfl))
  try simp only [Act.put, List.setIfInBounds_toArray, List.set_cons_zero, List.set_cons_succ]
  refine wpAnyH_take (i := 18) (oi := ?_) (v := ?_) ?_ (by kernel_rfl) (by kernel_rfl) (by kernel_rfl) ?_ (Or.inl ⟨?_, ?_⟩) (by assumption) ?_
  rotate_left 2
  · (simp only [List.getElem?_toArray, List.getElem?_cons_succ, List.getElem?_cons_zero]; rfl)
  · first | exact fun _ _ _ h => h | exact fun _ _ _ h => by cases h.1
  · rfl
  · ((intro wq hSq; (try dsimp only at hSq); go_simp); (try with_reducible rfl))
  try simp only [Act.put, List.setIfInBounds_toArray, List.set_cons_zero, List.set_cons_succ]
  refine wpAnyH_done (by kernel_rfl) ?_ _
  have hb := hSx.1
  have hc1 := HC.out.kept hb
  have hm1 := HM.out.kept hb
  have c17 : wy.cell? ⟨sb, 17, none⟩ = some (.pointer none) := (hc1.cell 17).trans rfl
  have c21 : wy.cell? ⟨sb, 21, none⟩ = some (.int .i64 0) := (hc1.cell 21).trans rfl
  have f17 := hc1.frozen 17
  have f21 := hc1.frozen 21
  have hc2 : RowB ((wy.setCell ⟨sb, 17, none⟩ (.pointer (some ⟨mb, 0, none⟩))).setCell ⟨sb, 21, none⟩ (.int .i64 1)) sb (coreA I R 0 0 (.pointer (some ⟨mb, 0, none⟩)) 1) 120 := (hc1.set 17 (.pointer (some ⟨mb, 0, none⟩))).set 21 (.int .i64 1)
  have hm2 : MemB ((wy.setCell ⟨sb, 17, none⟩ (.pointer (some ⟨mb, 0, none⟩))).setCell ⟨sb, 21, none⟩ (.int .i64 1)) mb lb 2 9 0 := ⟨(hm1.1.other sb 17 _ (fun e => hsm e.symm)).other sb 21 _ (fun e => hsm e.symm), (hm1.2.1.other sb 17 _ (fun e => hsl e.symm)).other sb 21 _ (fun e => hsl e.symm), hm1.2.2⟩
  have hB := below_set1 (below_set1 (hb.mono hN2) sb 17 hN (.pointer (some ⟨mb, 0, none⟩))) sb 21 hN (.int .i64 1)
  have hoth : ∀ n arr t, n ≠ sb → RowB w n arr t → RowB ((wy.setCell ⟨sb, 17, none⟩ (.pointer (some ⟨mb, 0, none⟩))).setCell ⟨sb, 21, none⟩ (.int .i64 1)) n arr t := fun n arr t h1 h => ((h.kept hb).other sb 17 _ h1).other sb 21 _ h1
  clear hSd hSx hHeld hb hc1 hm1
  go_wp2_with fail
  go_ret
  exact ⟨rfl, hm2, hc2, hB, hoth⟩
set_option maxRecDepth 100000 in
set_option maxHeartbeats 4000000 in
theorem sstep_c (sb mb lb N : Nat) (w : World) (hm : MemB w mb lb 2 9 0) (hc : RowB w sb (coreA I R 0 0 (.pointer none) 0) 120) (hN : N ≤ sb) (hN2 : N ≤ w.heap.size) (hN3 : N ≤ mb) : Calls Tryz.prog 56 #[.pointer (some ⟨sb, 0, none⟩), .pointer (some ⟨mb, 0, none⟩)] w fun e w' => e = .returned (.bool true) ∧ RowB w' sb (coreA I R 1 2 (.pointer (some ⟨mb, 0, none⟩)) 1) 120 ∧ Below N w w' ∧ (∀ n arr t, n ≠ sb → n ≠ mb → RowB w n arr t → RowB w' n arr t) := by
  have ho := open_c I R sb mb lb N w hm hc hN hN2
  have HO := Lib.hid ho
  clear ho hm hc
  go_enter Tryz.func56, Tryz.ntmps56
  go_wp2_with fail
  refine HO.out.mono ?_
  rintro e w1 ⟨rfl, hm1, hc1, hB1, ho1⟩
  have c8 : w1.cell? ⟨sb, 8, none⟩ = some (.int .i64 1) := (hc1.cell 8).trans rfl
  have HR := Lib.hid (sread_c I R sb mb lb N w1 hm1 hc1 hN hN3)
  clear hm1 hc1
  go_wp2_with fail
  refine HR.out.mono ?_
  rintro e w2 ⟨rfl, hc2, hB2, ho2⟩
  go_wp2_with fail
  go_ret
  exact ⟨rfl, hc2, hB1.trans hB2, fun n arr t h1 h2 h => ho2 n arr t h1 h2 (ho1 n arr t h1 h)⟩
set_option maxRecDepth 100000 in
set_option maxHeartbeats 4000000 in
theorem ostep_c (xb sb mb lb N : Nat) (w : World) (hx : RowB w xb (opA sb) 78) (hm : MemB w mb lb 2 9 0) (hc : RowB w sb (coreA I R 0 0 (.pointer none) 0) 120) (hxs : xb ≠ sb) (hxm : xb ≠ mb) (hN : N ≤ sb) (hN2 : N ≤ w.heap.size) (hN3 : N ≤ mb) : Calls Tryz.prog 17 #[.pointer (some ⟨xb, 0, none⟩), .pointer (some ⟨mb, 0, none⟩)] w fun e w' => e = .returned (.bool true) ∧ RowB w' xb (opA sb) 78 ∧ RowB w' sb (coreA I R 1 2 (.pointer (some ⟨mb, 0, none⟩)) 1) 120 ∧ Below N w w' := by
  have c0 : w.cell? ⟨xb, 0, none⟩ = some (.int .i64 3) := (hx.cell 0).trans rfl
  have c3 : w.cell? ⟨xb, 3, none⟩ = some (.pointer (some ⟨sb, 0, none⟩)) := (hx.cell 3).trans rfl
  have HS := Lib.hid (sstep_c I R sb mb lb N w hm hc hN hN2 hN3)
  have HX := Lib.hid hx
  clear hm hc hx
  go_enter Tryz.func17, Tryz.ntmps17
  go_wp2_with fail
  refine HS.out.mono ?_
  rintro e w1 ⟨rfl, hc1, hB1, ho1⟩
  go_wp2_with fail
  go_ret
  exact ⟨rfl, ho1 xb _ _ hxs hxm HX.out, hc1, hB1⟩
end

end Go.Proofs.YtgjcniokgdicpaaGreatDoor
