/- Layer 20, the chapter's example: a step. -/
import Derived.Test.YtgjcniokgdicpaaGreatDoorObD
namespace Go.Proofs.YtgjcniokgdicpaaGreatDoor
open Go.RowKit
attribute [local go_sem] Oper.semAt_some

section
variable (I R : Option Addr)
set_option maxRecDepth 100000 in
set_option maxHeartbeats 2000000 in
theorem cread_c (sb mb lb : Nat) (st a : Int) (w : World) (hm : MemB w mb lb 2 9 0) (hc : RowB w sb (coreA I R 0 a (.pointer (some ⟨mb, 0, none⟩)) st) 120) : Calls Tryz.prog 163 #[.pointer (some ⟨sb, 0, none⟩), .int .i64 0] w fun e w' => e = .returned (.int .u32 2) ∧ w' = w.drew.setCell ⟨mb, 1, none⟩ (.int .i64 1) := by
  have hr := mread_c mb lb w.drew (hm.kept (Below.refl _ w).drew)
  have hcd := hc.kept (Below.refl _ w).drew
  have c17 : w.drew.cell? ⟨sb, 17, none⟩ = some (.pointer (some ⟨mb, 0, none⟩)) := (hcd.cell 17).trans rfl
  have c18 : w.drew.cell? ⟨sb, 18, none⟩ = some (.int .i64 0) := (hcd.cell 18).trans rfl
  have hne : sb ≠ mb := fun e => by
    have h1 : w.heap[sb]? = _ := hc
    have h2 : w.heap[mb]? = _ := hm.1
    rw [e, h2] at h1
    injection h1 with h1
    injection h1 with h1 h2
    have := congrArg Array.size h1
    simp [coreA] at this
  have hk : ∀ j, (w.drew.setCell ⟨mb, 1, none⟩ (.int .i64 1)).cell? ⟨sb, j, none⟩ = w.drew.cell? ⟨sb, j, none⟩ := fun j => World.cell?_setCell_far w.drew ⟨mb, 1, none⟩ ⟨sb, j, none⟩ _ (fun e => hne e.symm)
  have hSx0 : (fun w' : World => w'.cell? ⟨sb, 17, none⟩ = some (.pointer (some ⟨mb, 0, none⟩)) ∧ w'.cell? ⟨sb, 18, none⟩ = some (.int .i64 0)) (w.drew.setCell ⟨mb, 1, none⟩ (.int .i64 1)) := ⟨(hk 17).trans c17, (hk 18).trans c18⟩
  have HR := Lib.hid hr
  have HX := Lib.hid hSx0
  clear hr hcd hk hSx0 hm hc
  go_enter Tryz.func163, Tryz.ntmps163
  go_wp2_with fail
  have hSd : (fun w' : World => w'.cell? ⟨sb, 17, none⟩ = some (.pointer (some ⟨mb, 0, none⟩)) ∧ w'.cell? ⟨sb, 18, none⟩ = some (.int .i64 0)) w.drew := ⟨c17, c18⟩
  refine wp_region_held_drew (S := fun w' : World => w'.cell? ⟨sb, 17, none⟩ = some (.pointer (some ⟨mb, 0, none⟩)) ∧ w'.cell? ⟨sb, 18, none⟩ = some (.int .i64 0)) (by kernel_rfl) hSd (fun hHeld => ?_)
  refine wpAnyH_take (i := 0) (oi := ?_) (v := ?_) ?_ (by kernel_rfl) (by kernel_rfl) (by kernel_rfl) ?_ (Or.inl ⟨?_, ?_⟩) (by assumption) ?_
  rotate_left 2
  · (simp only [List.getElem?_toArray, List.getElem?_cons_zero]; rfl)
  · first | exact fun _ _ _ h => h | exact fun _ _ _ h => by cases h.1
  · rfl
  · ((intro wq hSq; (try dsimp only at hSq); go_simp); (try with_reducible rfl))
  try simp only [Act.put, List.setIfInBounds_toArray, List.set_cons_zero, List.set_cons_succ]
  refine wpAnyH_take (i := 1) (oi := ?_) (v := ?_) ?_ (by kernel_rfl) (by kernel_rfl) (by kernel_rfl) ?_ (Or.inl ⟨?_, ?_⟩) (by assumption) ?_
  rotate_left 2
  · (simp only [List.getElem?_toArray, List.getElem?_cons_succ, List.getElem?_cons_zero]; rfl)
  · first | exact fun _ _ _ h => h | exact fun _ _ _ h => by cases h.1
  · rfl
  · ((intro wq hSq; (try dsimp only at hSq); go_simp); (try with_reducible rfl))
  try simp only [Act.put, List.setIfInBounds_toArray, List.set_cons_zero, List.set_cons_succ]
  refine wpAnyH_take (i := 2) (oi := ?_) (v := ?_) ?_ (by kernel_rfl) (by kernel_rfl) (by kernel_rfl) ?_ (Or.inl ⟨?_, ?_⟩) (by assumption) ?_
  rotate_left 2
  · (simp only [List.getElem?_toArray, List.getElem?_cons_succ, List.getElem?_cons_zero]; rfl)
  · first | exact fun _ _ _ h => h | exact fun _ _ _ h => by cases h.1
  · rfl
  · ((intro wq hSq; (try dsimp only at hSq); go_simp); (try with_reducible rfl))
  try simp only [Act.put, List.setIfInBounds_toArray, List.set_cons_zero, List.set_cons_succ]
  refine wpAnyH_take (i := 3) (oi := ?_) (v := ?_) ?_ (by kernel_rfl) (by kernel_rfl) (by kernel_rfl) ?_ (Or.inl ⟨?_, ?_⟩) (by assumption) ?_
  rotate_left 2
  · (simp only [List.getElem?_toArray, List.getElem?_cons_succ, List.getElem?_cons_zero]; rfl)
  · first | exact fun _ _ _ h => h | exact fun _ _ _ h => by cases h.1
  · rfl
  · ((intro wq hSq; (try dsimp only at hSq); go_simp); (try with_reducible rfl))
  try simp only [Act.put, List.setIfInBounds_toArray, List.set_cons_zero, List.set_cons_succ]
  refine wpAnyH_take (i := 4) (oi := ?_) (v := ?_) ?_ (by kernel_rfl) (by kernel_rfl) (by kernel_rfl) ?_ (Or.inl ⟨?_, ?_⟩) (by assumption) ?_
  rotate_left 2
  · (simp only [List.getElem?_toArray, List.getElem?_cons_succ, List.getElem?_cons_zero]; rfl)
  · first | exact fun _ _ _ h => h | exact fun _ _ _ h => by cases h.1
  · rfl
  · ((intro wq hSq; (try dsimp only at hSq); go_simp); (try with_reducible rfl))
  try simp only [Act.put, List.setIfInBounds_toArray, List.set_cons_zero, List.set_cons_succ]
  refine wpAnyH_take (i := 5) (oi := ?_) (v := ?_) ?_ (by kernel_rfl) (by kernel_rfl) (by kernel_rfl) ?_ (Or.inl ⟨?_, ?_⟩) (by assumption) ?_
  rotate_left 2
  · (simp only [List.getElem?_toArray, List.getElem?_cons_succ, List.getElem?_cons_zero]; rfl)
  · first | exact fun _ _ _ h => h | exact fun _ _ _ h => by cases h.1
  · rfl
  · ((intro wq hSq; (try dsimp only at hSq); go_simp); (try with_reducible rfl))
  try simp only [Act.put, List.setIfInBounds_toArray, List.set_cons_zero, List.set_cons_succ]
  refine wpAnyH_take (i := 6) (oi := ?_) (v := ?_) ?_ (by kernel_rfl) (by kernel_rfl) (by kernel_rfl) ?_ (Or.inl ⟨?_, ?_⟩) (by assumption) ?_
  rotate_left 2
  · (simp only [List.getElem?_toArray, List.getElem?_cons_succ, List.getElem?_cons_zero]; rfl)
  · first | exact fun _ _ _ h => h | exact fun _ _ _ h => by cases h.1
  · rfl
  · ((intro wq hSq; (try dsimp only at hSq); go_simp); (try with_reducible rfl))
  try simp only [Act.put, List.setIfInBounds_toArray, List.set_cons_zero, List.set_cons_succ]
  refine wpAnyH_take (i := 7) (oi := ?_) (v := ?_) ?_ (by kernel_rfl) (by kernel_rfl) (by kernel_rfl) ?_ (Or.inl ⟨?_, ?_⟩) (by assumption) ?_
  rotate_left 2
  · (simp only [List.getElem?_toArray, List.getElem?_cons_succ, List.getElem?_cons_zero]; rfl)
  · first | exact fun _ _ _ h => h | exact fun _ _ _ h => by cases h.1
  · rfl
  · ((intro wq hSq; (try dsimp only at hSq); go_simp); (try with_reducible rfl))
  try simp only [Act.put, List.setIfInBounds_toArray, List.set_cons_zero, List.set_cons_succ]
  refine wpAnyH_take (i := 8) (oi := ?_) (v := ?_) ?_ (by kernel_rfl) (by kernel_rfl) (by kernel_rfl) ?_ (Or.inl ⟨?_, ?_⟩) (by assumption) ?_
  rotate_left 2
  · (simp only [List.getElem?_toArray, List.getElem?_cons_succ, List.getElem?_cons_zero]; rfl)
  · first | exact fun _ _ _ h => h | exact fun _ _ _ h => by cases h.1
  · rfl
  · ((intro wq hSq; (try dsimp only at hSq); go_simp); (try with_reducible rfl))
  try simp only [Act.put, List.setIfInBounds_toArray, List.set_cons_zero, List.set_cons_succ]
  refine wpAnyH_take (i := 9) (oi := ?_) (v := ?_) ?_ (by kernel_rfl) (by kernel_rfl) (by kernel_rfl) ?_ (Or.inl ⟨?_, ?_⟩) (by assumption) ?_
  rotate_left 2
  · (simp only [List.getElem?_toArray, List.getElem?_cons_succ, List.getElem?_cons_zero]; rfl)
  · first | exact fun _ _ _ h => h | exact fun _ _ _ h => by cases h.1
  · rfl
  · ((intro wq hSq; (try dsimp only at hSq); go_simp); (try with_reducible rfl))
  try simp only [Act.put, List.setIfInBounds_toArray, List.set_cons_zero, List.set_cons_succ]
  refine wpAnyH_ready (rs := [10]) (by kernel_rfl) (by simp) ?_
  refine AllReadyH.cons (o := ?_) ?_ (fun K hK => ?_) AllReadyH.nil
  rotate_left
  · (simp only [List.getElem?_toArray, List.getElem?_cons_succ, List.getElem?_cons_zero]; rfl)
  go_simp
  go_at_call 187
  refine HR.out.mono ?_
  rintro ex wx ⟨rfl, rfl⟩
  have hSx := HX.out
  refine hK.out _ _ hSx (fun hHeld => ?_)
  clear hK K
  try simp only [Act.put, List.setIfInBounds_toArray, List.set_cons_zero, List.set_cons_succ]
  refine wpAnyH_take (i := 11) (oi := ?_) (v := ?_) ?_ (by kernel_rfl) (by kernel_rfl) (by kernel_rfl) ?_ (Or.inl ⟨?_, ?_⟩) (by assumption) ?_
  rotate_left 2
  · (simp only [List.getElem?_toArray, List.getElem?_cons_succ, List.getElem?_cons_zero]; rfl)
  · first | exact fun _ _ _ h => h | exact fun _ _ _ h => by cases h.1
  · rfl
  · ((intro wq hSq; (try dsimp only at hSq); go_simp); (try with_reducible rfl))
  try simp only [Act.put, List.setIfInBounds_toArray, List.set_cons_zero, List.set_cons_succ]
  refine wpAnyH_take (i := 12) (oi := ?_) (v := ?_) ?_ (by kernel_rfl) (by kernel_rfl) (by kernel_rfl) ?_ (Or.inl ⟨?_, ?_⟩) (by assumption) ?_
  rotate_left 2
  · (simp only [List.getElem?_toArray, List.getElem?_cons_succ, List.getElem?_cons_zero]; rfl)
  · first | exact fun _ _ _ h => h | exact fun _ _ _ h => by cases h.1
  · rfl
  · ((intro wq hSq; (try dsimp only at hSq); go_simp); (try with_reducible rfl))
  try simp only [Act.put, List.setIfInBounds_toArray, List.set_cons_zero, List.set_cons_succ]
  refine wpAnyH_take (i := 13) (oi := ?_) (v := ?_) ?_ (by kernel_rfl) (by kernel_rfl) (by kernel_rfl) ?_ (Or.inl ⟨?_, ?_⟩) (by assumption) ?_
  rotate_left 2
  · (simp only [List.getElem?_toArray, List.getElem?_cons_succ, List.getElem?_cons_zero]; rfl)
  · first | exact fun _ _ _ h => h | exact fun _ _ _ h => by cases h.1
  · rfl
  · ((intro wq hSq; (try dsimp only at hSq); go_simp); (try with_reducible rfl))
  try simp only [Act.put, List.setIfInBounds_toArray, List.set_cons_zero, List.set_cons_succ]
  refine wpAnyH_take (i := 14) (oi := ?_) (v := ?_) ?_ (by kernel_rfl) (by kernel_rfl) (by kernel_rfl) ?_ (Or.inl ⟨?_, ?_⟩) (by assumption) ?_
  rotate_left 2
  · (simp only [List.getElem?_toArray, List.getElem?_cons_succ, List.getElem?_cons_zero]; rfl)
  · first | exact fun _ _ _ h => h | exact fun _ _ _ h => by cases h.1
  · rfl
  · ((intro wq hSq; (try dsimp only at hSq); go_simp); (try with_reducible rfl))
  try simp only [Act.put, List.setIfInBounds_toArray, List.set_cons_zero, List.set_cons_succ]
  refine wpAnyH_take (i := 15) (oi := ?_) (v := ?_) ?_ (by kernel_rfl) (by kernel_rfl) (by kernel_rfl) ?_ (Or.inl ⟨?_, ?_⟩) (by assumption) ?_
  rotate_left 2
  · (simp only [List.getElem?_toArray, List.getElem?_cons_succ, List.getElem?_cons_zero]; rfl)
  · first | exact fun _ _ _ h => h | exact fun _ _ _ h => by cases h.1
  · rfl
  · ((intro wq hSq; (try dsimp only at hSq); go_simp); (try with_reducible rfl))
  try simp only [Act.put, List.setIfInBounds_toArray, List.set_cons_zero, List.set_cons_succ]
  refine wpAnyH_done (by kernel_rfl) ?_ _
  go_wp2_with fail
  go_ret
  exact ⟨rfl, rfl⟩
set_option maxRecDepth 100000 in
theorem cgo_c (sb : Nat) (a st : Int) (mp : Value) (w : World) (hc : RowB w sb (coreA I R 0 a mp st) 120) : Calls Tryz.prog 164 #[.pointer (some ⟨sb, 0, none⟩), .int .i64 1] w fun e w' => e = .returned (.tuple #[]) ∧ w' = (w.setCell ⟨sb, 10, none⟩ (.int .i64 1)).setCell ⟨sb, 11, none⟩ (.int .i64 0) := by
  have c10 : w.cell? ⟨sb, 10, none⟩ = some (.int .i64 0) := (hc.cell 10).trans rfl
  have c11 : w.cell? ⟨sb, 11, none⟩ = some (.int .i64 0) := (hc.cell 11).trans rfl
  have f10 := hc.frozen 10
  have f11 := hc.frozen 11
  clear hc
  go_enter Tryz.func164, Tryz.ntmps164
  go_wp2_with fail
  (try simp only [Exit.inBlock, Exit.then])
  refine bodyPost_end (results_none rfl _ _ _) rfl ?_
  exact ⟨rfl, rfl⟩
theorem core_far {sb mb lb : Nat} {st a ph : Int} {mp : Value} {w : World} {x y k : Int} (hm : MemB w mb lb x y k) (hc : RowB w sb (coreA I R ph a mp st) 120) : sb ≠ mb ∧ sb ≠ lb := by
  constructor
  · intro e
    have h1 : w.heap[sb]? = _ := hc
    have h2 : w.heap[mb]? = _ := hm.1
    rw [e, h2] at h1
    injection h1 with h1
    injection h1 with h1 h2
    have := congrArg Array.size h1
    simp [coreA] at this
  · intro e
    have h1 : w.heap[sb]? = _ := hc
    have h2 : w.heap[lb]? = _ := hm.2.1
    rw [e, h2] at h1
    injection h1 with h1
    injection h1 with h1 h2
    have := congrArg Array.size h1
    simp [coreA] at this
set_option maxRecDepth 100000 in
set_option maxHeartbeats 2000000 in
theorem sread_c (sb mb lb N : Nat) (w : World) (hm : MemB w mb lb 2 9 0) (hc : RowB w sb (coreA I R 0 0 (.pointer (some ⟨mb, 0, none⟩)) 1) 120) (hN : N ≤ sb) (hN2 : N ≤ mb) : Calls Tryz.prog 133 #[.pointer (some ⟨sb, 0, none⟩)] w fun e w' => e = .returned (.tuple #[]) ∧ RowB w' sb (coreA I R 1 2 (.pointer (some ⟨mb, 0, none⟩)) 1) 120 ∧ Below N w w' ∧ (∀ n arr t, n ≠ sb → n ≠ mb → RowB w n arr t → RowB w' n arr t) := by
  obtain ⟨hsm, hsl⟩ := core_far I R hm hc
  have hr := cread_c I R sb mb lb 1 0 w hm hc
  have c10 : w.cell? ⟨sb, 10, none⟩ = some (.int .i64 0) := (hc.cell 10).trans rfl
  have hcd := (hc.kept (Below.refl _ w).drew).other mb 1 (.int .i64 1) hsm
  have k13 : (w.drew.setCell ⟨mb, 1, none⟩ (.int .i64 1)).cell? ⟨sb, 13, none⟩ = some (.int .u32 0) := (hcd.cell 13).trans rfl
  have kf := hcd.frozen 13
  have hc2 : RowB ((w.drew.setCell ⟨mb, 1, none⟩ (.int .i64 1)).setCell ⟨sb, 13, none⟩ (.int .u32 2)) sb (coreA I R 0 2 (.pointer (some ⟨mb, 0, none⟩)) 1) 120 := hcd.set 13 (.int .u32 2)
  have hg := cgo_c I R sb 2 1 _ _ hc2
  have j13 : ((w.drew.setCell ⟨mb, 1, none⟩ (.int .i64 1)).setCell ⟨sb, 13, none⟩ (.int .u32 2)).cell? ⟨sb, 13, none⟩ = some (.int .u32 2) := (hc2.cell 13).trans rfl
  have hfin : RowB ((((w.drew.setCell ⟨mb, 1, none⟩ (.int .i64 1)).setCell ⟨sb, 13, none⟩ (.int .u32 2)).setCell ⟨sb, 10, none⟩ (.int .i64 1)).setCell ⟨sb, 11, none⟩ (.int .i64 0)) sb (coreA I R 1 2 (.pointer (some ⟨mb, 0, none⟩)) 1) 120 := (hc2.set 10 (.int .i64 1)).set 11 (.int .i64 0)
  have hB := below_set1 (below_set1 (below_set1 (below_set1 ((Below.refl N w).drew) mb 1 hN2 (.int .i64 1)) sb 13 hN (.int .u32 2)) sb 10 hN (.int .i64 1)) sb 11 hN (.int .i64 0)
  have hoth : ∀ n arr t, n ≠ sb → n ≠ mb → RowB w n arr t → RowB ((((w.drew.setCell ⟨mb, 1, none⟩ (.int .i64 1)).setCell ⟨sb, 13, none⟩ (.int .u32 2)).setCell ⟨sb, 10, none⟩ (.int .i64 1)).setCell ⟨sb, 11, none⟩ (.int .i64 0)) n arr t := fun n arr t h1 h2 h => ((((h.kept (Below.refl _ w).drew).other mb 1 _ h2).other sb 13 _ h1).other sb 10 _ h1).other sb 11 _ h1
  clear hcd
  generalize w.drew.setCell ⟨mb, 1, none⟩ (.int .i64 1) = wA at hr k13 kf hc2 hg j13 hfin hB hoth
  have HR := Lib.hid hr
  have HG := Lib.hid hg
  have HF := Lib.hid (And.intro hfin (And.intro hB hoth))
  clear hr hg hfin hB hoth hc2 hm hc
  go_enter Tryz.func133, Tryz.ntmps133
  go_wp2_with fail
  refine HR.out.mono ?_
  rintro e w1 ⟨rfl, rfl⟩
  go_wp2_with fail
  refine HG.out.mono ?_
  rintro e w2 ⟨rfl, rfl⟩
  go_wp2_with fail
  (try simp only [Exit.inBlock, Exit.then])
  refine bodyPost_end (results_none rfl _ _ _) rfl ?_
  exact ⟨rfl, HF.out⟩
end

end Go.Proofs.YtgjcniokgdicpaaGreatDoor
