/- slices.swapRangeCmpFunc and rotateCmpFunc on calls. -/
import Derived.Test.YtkcdmonmgnmojaaDoorSo3
namespace Go.Proofs.YtkcdmonmgnmojaaDoor
open Go.RowKit
attribute [local go_sem] Oper.semAt_some

theorem set2 {α : Type} (A B C : List α) (x y u v : α) : ((A ++ x :: (B ++ y :: C)).set A.length u).set (A.length + 1 + B.length) v = A ++ u :: (B ++ v :: C) := by
  rw [List.set_append_right _ _ (Nat.le_refl _), Nat.sub_self, List.set_cons_zero, List.set_append_right _ _ (by omega), show A.length + 1 + B.length - A.length = B.length + 1 by omega, List.set_cons_succ, List.set_append_right _ _ (Nat.le_refl _), Nat.sub_self, List.set_cons_zero]
theorem get2 {α : Type} (A B C : List α) (x y : α) : (A ++ x :: (B ++ y :: C))[A.length]? = some x ∧ (A ++ x :: (B ++ y :: C))[A.length + 1 + B.length]? = some y := by
  constructor
  · rw [List.getElem?_append_right (Nat.le_refl _), Nat.sub_self, List.getElem?_cons_zero]
  · rw [List.getElem?_append_right (by omega), show A.length + 1 + B.length - A.length = B.length + 1 by omega, List.getElem?_cons_succ, List.getElem?_append_right (Nat.le_refl _), Nat.sub_self, List.getElem?_cons_zero]
theorem swap_rng {P Y1 X2 M X1 Y2 R : List El} {x y : El} {pa pb : Nat} (ha : P.length + Y1.length = pa) (hb : P.length + (Y1.length + 1 + X2.length) + M.length + X1.length = pb) :
    (P ++ (Y1 ++ x :: X2) ++ M ++ (X1 ++ y :: Y2) ++ R)[pa]? = some x ∧ (P ++ (Y1 ++ x :: X2) ++ M ++ (X1 ++ y :: Y2) ++ R)[pb]? = some y ∧
    ((P ++ (Y1 ++ x :: X2) ++ M ++ (X1 ++ y :: Y2) ++ R).set pa y).set pb x = P ++ ((Y1 ++ [y]) ++ X2) ++ M ++ ((X1 ++ [x]) ++ Y2) ++ R := by
  have e1 : P ++ (Y1 ++ x :: X2) ++ M ++ (X1 ++ y :: Y2) ++ R = (P ++ Y1) ++ x :: ((X2 ++ M ++ X1) ++ y :: (Y2 ++ R)) := by simp
  have e2 : P ++ ((Y1 ++ [y]) ++ X2) ++ M ++ ((X1 ++ [x]) ++ Y2) ++ R = (P ++ Y1) ++ y :: ((X2 ++ M ++ X1) ++ x :: (Y2 ++ R)) := by simp
  have l1 : pa = (P ++ Y1).length := by simp; omega
  have l2 : pb = (P ++ Y1).length + 1 + (X2 ++ M ++ X1).length := by simp; omega
  rw [e1, e2, l1, l2]
  exact ⟨(get2 _ _ _ _ _).1, (get2 _ _ _ _ _).2, set2 _ _ _ _ _ _ _⟩

set_option maxRecDepth 100000 in
set_option maxHeartbeats 8000000 in
theorem swapRange_any (g cap a b n N : Nat) (P X M Y R : List El) (w : World) (hg : RowsG w g (P ++ X ++ M ++ Y ++ R)) (ha : P.length = a) (hb : P.length + X.length + M.length = b) (hx : X.length = n) (hy : Y.length = n) (hN : (P ++ X ++ M ++ Y ++ R).length = N) (hcap : N ≤ cap) (hbig : N ≤ 100000) :
    Calls Tryd.prog 157 #[.slice (some ⟨g, 0, none⟩) N cap, .int .i64 (a : Int), .int .i64 (b : Int), .int .i64 (n : Int), .func (.func 56) #[] #[]] w fun e w' => e = .returned (.tuple #[]) ∧ RowsG w' g (P ++ Y ++ M ++ X ++ R) ∧ KpG g w w' := by
  have HG := Lib.hid hg
  have HA := Lib.hid ha
  have HB := Lib.hid hb
  have HXN := Lib.hid hx
  have HYN := Lib.hid hy
  have HN := Lib.hid hN
  clear hg ha hb hx hy hN
  go_enter Tryd.func157, Tryd.ntmps157
  go_wp2_with fail
  go_loopw [10] (fun i wr => ∃ X1 X2 Y1 Y2, X = X1 ++ X2 ∧ Y = Y1 ++ Y2 ∧ Y1.length = X1.length ∧ i = .int .i64 (X1.length : Int) ∧ RowsG wr g (P ++ (Y1 ++ X2) ++ M ++ (X1 ++ Y2) ++ R) ∧ KpG g w wr) (fun i _ => n - (intOf i).toNat)
  case atStart => exact ⟨[], X, [], Y, rfl, rfl, rfl, rfl, by simpa using HG.out, KpG.refl _ _⟩
  case round =>
    obtain ⟨X1, X2, Y1, Y2, hX, hY, hXY, rfl, hr, hk⟩ := hrel
    obtain ⟨i, hi⟩ : ∃ i, X1.length = i := ⟨_, rfl⟩
    rw [hi] at hXY ⊢
    have hlx := congrArg List.length hX
    have hly := congrArg List.length hY
    rw [List.length_append, HXN.out, hi] at hlx
    rw [List.length_append, HYN.out, hXY] at hly
    rcases X2 with _ | ⟨x, X2⟩
    · rcases Y2 with _ | ⟨y, Y2⟩
      · have hin0 : ¬ i < n := by simp at hlx; omega
        have hin : decide ((i : Int) < (n : Int)) = false := by rw [decide_eq_false_iff_not]; omega
        have hin1 : decide (i < n) = false := decide_eq_false hin0
        rw [List.append_nil] at hX hY hr
        rw [List.append_nil] at hr
        rw [← hX, ← hY] at hr
        have HR := Lib.hid hr
        clear hr hX hY hXY hi hlx hly
        go_wp2_with fail
        (try simp only [Exit.inBlock, Exit.then])
        refine bodyPost_end (results_none rfl _ _ _) rfl ?_
        exact ⟨rfl, HR.out, hk⟩
      · exfalso; simp at hlx hly; omega
    · rcases Y2 with _ | ⟨y, Y2⟩
      · exfalso; simp at hlx hly; omega
      rw [List.length_cons] at hlx hly
      have hlt0 : i < n := by omega
      have hlt : decide ((i : Int) < (n : Int)) = true := by rw [decide_eq_true_iff]; omega
      have hlt1 : decide (i < n) = true := decide_eq_true hlt0
      obtain ⟨pa, hpa⟩ : ∃ pa, a + i = pa := ⟨_, rfl⟩
      obtain ⟨pb, hpb⟩ : ∃ pb, b + i = pb := ⟨_, rfl⟩
      have hlen : (P ++ (Y1 ++ x :: X2) ++ M ++ (X1 ++ y :: Y2) ++ R).length = N := by
        have h3 := HN.out
        have h1 := congrArg List.length hX
        have h2 := congrArg List.length hY
        simp only [List.length_append, List.length_cons] at h1 h2 h3 ⊢
        omega
      have hsw := swap_rng (P := P) (Y1 := Y1) (X2 := X2) (M := M) (X1 := X1) (Y2 := Y2) (R := R) (x := x) (y := y) (pa := pa) (pb := pb) (by rw [HA.out, hXY]; exact hpa) (by
        have h1 := HXN.out
        have h2 := HB.out
        have h3 := congrArg List.length hX
        simp only [List.length_append, List.length_cons] at h3
        omega)
      obtain ⟨gx, gy, hsw⟩ := hsw
      have l1 : pa < N := by rw [← hlen]; exact get_lt gx
      have l2 : pb < N := by rw [← hlen]; exact get_lt gy
      have l3 : (pa : Int) < (N : Int) := by omega
      have l4 : (pb : Int) < (N : Int) := by omega
      have l5 : (0 : Int) ≤ (pa : Int) := by omega
      have l6 : (0 : Int) ≤ (pb : Int) := by omega
      have e1 : (a : Int) + (i : Int) = (pa : Int) := by omega
      have e2 : (b : Int) + (i : Int) = (pb : Int) := by omega
      have jw1 : IntKind.i64.wrap (pa : Int) = (pa : Int) := so_wrap (by omega) (by omega)
      have jw2 : IntKind.i64.wrap (pb : Int) = (pb : Int) := so_wrap (by omega) (by omega)
      have HX := Lib.hid hX
      have HY := Lib.hid hY
      have HXY := Lib.hid hXY
      have HI := Lib.hid hi
      have HSW := Lib.hid hsw
      have HLEN := Lib.hid hlen
      have HLX := Lib.hid gx
      have HLY := Lib.hid gy
      have HLL := Lib.hid (And.intro hlx hly)
      have HPP := Lib.hid (And.intro hpa hpb)
      have HR := Lib.hid hr
      clear hX hY hXY hi hsw hlen gx gy hlx hly hpa hpb hr
      go_wp2_with fail
      have hSd : (fun _ : World => True) wr.drew := trivial
      refine wp_region_held_drew (S := fun _ => True) (by kernel_rfl) hSd (fun hHeld => ?_)
      have hr2 := HR.out.kept (Below.refl _ wr).drew
      have hk2 := hk.trans (KpG.of (Below.refl _ wr).drew)
      generalize wr.drew = we at hHeld hr2 hk2 ⊢
      clear hk
      obtain ⟨x0, x1, x2, x3, x4, x5, x6⟩ := hr2.cells HLX.out
      obtain ⟨y0, y1, y2, y3, y4, y5, y6⟩ := hr2.cells HLY.out
      refine wpAnyH_take (i := 0) (oi := ?_) (v := ?_) ?_ (by kernel_rfl) (by kernel_rfl) (by kernel_rfl) ?_ (Or.inl ⟨?_, ?_⟩) (by assumption) ?_
      rotate_left 2
      · (simp only [List.getElem?_toArray, List.getElem?_cons_zero]; rfl)
      · first | exact fun _ _ _ h => h | exact fun _ _ _ h => by cases h.1
      · rfl
      · ((intro wq hSq; (try dsimp only at hSq); go_simp); (try with_reducible rfl))
      try simp only [Act.put, List.setIfInBounds_toArray, List.set_cons_zero, List.set_cons_succ]
      refine wpAnyH_take (i := 1) (oi := ?_) (v := ?_) ?_ (by kernel_rfl) (by kernel_rfl) (by kernel_rfl) ?_ (Or.inl ⟨?_, ?_⟩) (by assumption) ?_
      rotate_left 2
      · (simp only [List.getElem?_toArray, List.getElem?_cons_succ, List.getElem?_cons_zero]; rfl)
      · first | exact fun _ _ _ h => h | exact fun _ _ _ h => by cases h.1
      · rfl
      · ((intro wq hSq; (try dsimp only at hSq); go_simp); (try with_reducible rfl))
      try simp only [Act.put, List.setIfInBounds_toArray, List.set_cons_zero, List.set_cons_succ]
      refine wpAnyH_take (i := 2) (oi := ?_) (v := ?_) ?_ (by kernel_rfl) (by kernel_rfl) (by kernel_rfl) ?_ (Or.inl ⟨?_, ?_⟩) (by assumption) ?_
      rotate_left 2
      · (simp only [List.getElem?_toArray, List.getElem?_cons_succ, List.getElem?_cons_zero]; rfl)
      · first | exact fun _ _ _ h => h | exact fun _ _ _ h => by cases h.1
      · rfl
      · ((intro wq hSq; (try dsimp only at hSq); go_simp); (try with_reducible rfl))
      try simp only [Act.put, List.setIfInBounds_toArray, List.set_cons_zero, List.set_cons_succ]
      refine wpAnyH_take (i := 3) (oi := ?_) (v := ?_) ?_ (by kernel_rfl) (by kernel_rfl) (by kernel_rfl) ?_ (Or.inl ⟨?_, ?_⟩) (by assumption) ?_
      rotate_left 2
      · (simp only [List.getElem?_toArray, List.getElem?_cons_succ, List.getElem?_cons_zero]; rfl)
      · first | exact fun _ _ _ h => h | exact fun _ _ _ h => by cases h.1
      · rfl
      · ((intro wq hSq; (try dsimp only at hSq); go_simp); (try with_reducible rfl))
      try simp only [Act.put, List.setIfInBounds_toArray, List.set_cons_zero, List.set_cons_succ]
      refine wpAnyH_take (i := 4) (oi := ?_) (v := ?_) ?_ (by kernel_rfl) (by kernel_rfl) (by kernel_rfl) ?_ (Or.inl ⟨?_, ?_⟩) (by assumption) ?_
      rotate_left 2
      · (simp only [List.getElem?_toArray, List.getElem?_cons_succ, List.getElem?_cons_zero]; rfl)
      · first | exact fun _ _ _ h => h | exact fun _ _ _ h => by cases h.1
      · rfl
      · ((intro wq hSq; (try dsimp only at hSq); go_simp); (try with_reducible rfl))
      try simp only [Act.put, List.setIfInBounds_toArray, List.set_cons_zero, List.set_cons_succ]
      refine wpAnyH_take (i := 5) (oi := ?_) (v := ?_) ?_ (by kernel_rfl) (by kernel_rfl) (by kernel_rfl) ?_ (Or.inl ⟨?_, ?_⟩) (by assumption) ?_
      rotate_left 2
      · (simp only [List.getElem?_toArray, List.getElem?_cons_succ, List.getElem?_cons_zero]; rfl)
      · first | exact fun _ _ _ h => h | exact fun _ _ _ h => by cases h.1
      · rfl
      · ((intro wq hSq; (try dsimp only at hSq); go_simp); (try with_reducible rfl))
      try simp only [Act.put, List.setIfInBounds_toArray, List.set_cons_zero, List.set_cons_succ]
      refine wpAnyH_take (i := 6) (oi := ?_) (v := ?_) ?_ (by kernel_rfl) (by kernel_rfl) (by kernel_rfl) ?_ (Or.inl ⟨?_, ?_⟩) (by assumption) ?_
      rotate_left 2
      · (simp only [List.getElem?_toArray, List.getElem?_cons_succ, List.getElem?_cons_zero]; rfl)
      · first | exact fun _ _ _ h => h | exact fun _ _ _ h => by cases h.1
      · rfl
      · ((intro wq hSq; (try dsimp only at hSq); go_simp); (try with_reducible rfl))
      try simp only [Act.put, List.setIfInBounds_toArray, List.set_cons_zero, List.set_cons_succ]
      refine wpAnyH_take (i := 7) (oi := ?_) (v := ?_) ?_ (by kernel_rfl) (by kernel_rfl) (by kernel_rfl) ?_ (Or.inl ⟨?_, ?_⟩) (by assumption) ?_
      rotate_left 2
      · (simp only [List.getElem?_toArray, List.getElem?_cons_succ, List.getElem?_cons_zero]; rfl)
      · first | exact fun _ _ _ h => h | exact fun _ _ _ h => by cases h.1
      · rfl
      · ((intro wq hSq; (try dsimp only at hSq); go_simp); (try with_reducible rfl))
      try simp only [Act.put, List.setIfInBounds_toArray, List.set_cons_zero, List.set_cons_succ]
      refine wpAnyH_take (i := 8) (oi := ?_) (v := ?_) ?_ (by kernel_rfl) (by kernel_rfl) (by kernel_rfl) ?_ (Or.inl ⟨?_, ?_⟩) (by assumption) ?_
      rotate_left 2
      · (simp only [List.getElem?_toArray, List.getElem?_cons_succ, List.getElem?_cons_zero]; rfl)
      · first | exact fun _ _ _ h => h | exact fun _ _ _ h => by cases h.1
      · rfl
      · ((intro wq hSq; (try dsimp only at hSq); go_simp); (try with_reducible rfl))
      try simp only [Act.put, List.setIfInBounds_toArray, List.set_cons_zero, List.set_cons_succ]
      refine wpAnyH_take (i := 9) (oi := ?_) (v := ?_) ?_ (by kernel_rfl) (by kernel_rfl) (by kernel_rfl) ?_ (Or.inl ⟨?_, ?_⟩) (by assumption) ?_
      rotate_left 2
      · (simp only [List.getElem?_toArray, List.getElem?_cons_succ, List.getElem?_cons_zero]; rfl)
      · first | exact fun _ _ _ h => h | exact fun _ _ _ h => by cases h.1
      · rfl
      · ((intro wq hSq; (try dsimp only at hSq); go_simp); (try with_reducible rfl))
      try simp only [Act.put, List.setIfInBounds_toArray, List.set_cons_zero, List.set_cons_succ]
      refine wpAnyH_take (i := 10) (oi := ?_) (v := ?_) ?_ (by kernel_rfl) (by kernel_rfl) (by kernel_rfl) ?_ (Or.inl ⟨?_, ?_⟩) (by assumption) ?_
      rotate_left 2
      · (simp only [List.getElem?_toArray, List.getElem?_cons_succ, List.getElem?_cons_zero]; rfl)
      · first | exact fun _ _ _ h => h | exact fun _ _ _ h => by cases h.1
      · rfl
      · ((intro wq hSq; (try dsimp only at hSq); go_simp); (try with_reducible rfl))
      try simp only [Act.put, List.setIfInBounds_toArray, List.set_cons_zero, List.set_cons_succ]
      refine wpAnyH_take (i := 11) (oi := ?_) (v := ?_) ?_ (by kernel_rfl) (by kernel_rfl) (by kernel_rfl) ?_ (Or.inl ⟨?_, ?_⟩) (by assumption) ?_
      rotate_left 2
      · (simp only [List.getElem?_toArray, List.getElem?_cons_succ, List.getElem?_cons_zero]; rfl)
      · first | exact fun _ _ _ h => h | exact fun _ _ _ h => by cases h.1
      · rfl
      · ((intro wq hSq; (try dsimp only at hSq); go_simp); (try with_reducible rfl))
      try simp only [Act.put, List.setIfInBounds_toArray, List.set_cons_zero, List.set_cons_succ]
      refine wpAnyH_take (i := 12) (oi := ?_) (v := ?_) ?_ (by kernel_rfl) (by kernel_rfl) (by kernel_rfl) ?_ (Or.inl ⟨?_, ?_⟩) (by assumption) ?_
      rotate_left 2
      · (simp only [List.getElem?_toArray, List.getElem?_cons_succ, List.getElem?_cons_zero]; rfl)
      · first | exact fun _ _ _ h => h | exact fun _ _ _ h => by cases h.1
      · rfl
      · ((intro wq hSq; (try dsimp only at hSq); go_simp); (try with_reducible rfl))
      try simp only [Act.put, List.setIfInBounds_toArray, List.set_cons_zero, List.set_cons_succ]
      refine wpAnyH_take (i := 14) (oi := ?_) (v := ?_) ?_ (by kernel_rfl) (by kernel_rfl) (by kernel_rfl) ?_ (Or.inl ⟨?_, ?_⟩) (by assumption) ?_
      rotate_left 2
      · (simp only [List.getElem?_toArray, List.getElem?_cons_succ, List.getElem?_cons_zero]; rfl)
      · first | exact fun _ _ _ h => h | exact fun _ _ _ h => by cases h.1
      · rfl
      · ((intro wq hSq; (try dsimp only at hSq); go_simp); (try with_reducible rfl))
      try simp only [Act.put, List.setIfInBounds_toArray, List.set_cons_zero, List.set_cons_succ]
      refine wpAnyH_take (i := 15) (oi := ?_) (v := ?_) ?_ (by kernel_rfl) (by kernel_rfl) (by kernel_rfl) ?_ (Or.inl ⟨?_, ?_⟩) (by assumption) ?_
      rotate_left 2
      · (simp only [List.getElem?_toArray, List.getElem?_cons_succ, List.getElem?_cons_zero]; rfl)
      · first | exact fun _ _ _ h => h | exact fun _ _ _ h => by cases h.1
      · rfl
      · ((intro wq hSq; (try dsimp only at hSq); go_simp); (try with_reducible rfl))
      try simp only [Act.put, List.setIfInBounds_toArray, List.set_cons_zero, List.set_cons_succ]
      refine wpAnyH_take (i := 16) (oi := ?_) (v := ?_) ?_ (by kernel_rfl) (by kernel_rfl) (by kernel_rfl) ?_ (Or.inl ⟨?_, ?_⟩) (by assumption) ?_
      rotate_left 2
      · (simp only [List.getElem?_toArray, List.getElem?_cons_succ, List.getElem?_cons_zero]; rfl)
      · first | exact fun _ _ _ h => h | exact fun _ _ _ h => by cases h.1
      · rfl
      · ((intro wq hSq; (try dsimp only at hSq); go_simp); (try with_reducible rfl))
      try simp only [Act.put, List.setIfInBounds_toArray, List.set_cons_zero, List.set_cons_succ]
      refine wpAnyH_take (i := 17) (oi := ?_) (v := ?_) ?_ (by kernel_rfl) (by kernel_rfl) (by kernel_rfl) ?_ (Or.inl ⟨?_, ?_⟩) (by assumption) ?_
      rotate_left 2
      · (simp only [List.getElem?_toArray, List.getElem?_cons_succ, List.getElem?_cons_zero]; rfl)
      · first | exact fun _ _ _ h => h | exact fun _ _ _ h => by cases h.1
      · rfl
      · ((intro wq hSq; (try dsimp only at hSq); go_simp); (try with_reducible rfl))
      try simp only [Act.put, List.setIfInBounds_toArray, List.set_cons_zero, List.set_cons_succ]
      refine wpAnyH_take (i := 18) (oi := ?_) (v := ?_) ?_ (by kernel_rfl) (by kernel_rfl) (by kernel_rfl) ?_ (Or.inl ⟨?_, ?_⟩) (by assumption) ?_
      rotate_left 2
      · (simp only [List.getElem?_toArray, List.getElem?_cons_succ, List.getElem?_cons_zero]; rfl)
      · first | exact fun _ _ _ h => h | exact fun _ _ _ h => by cases h.1
      · rfl
      · ((intro wq hSq; (try dsimp only at hSq); go_simp); (try with_reducible rfl))
      try simp only [Act.put, List.setIfInBounds_toArray, List.set_cons_zero, List.set_cons_succ]
      refine wpAnyH_ready (rs := [13, 19]) (by kernel_rfl) (by simp) ?_
      refine AllReadyH.cons (o := ?_) ?_ (fun K hK => ?_) ?_
      rotate_left
      · (simp only [List.getElem?_toArray, List.getElem?_cons_succ, List.getElem?_cons_zero]; rfl)
      · go_simp
        refine hK.out _ _ trivial (fun hHeld => ?_)
        clear hK K
        try simp only [Act.put, List.setIfInBounds_toArray, List.set_cons_zero, List.set_cons_succ]
        refine wpAnyH_ready (rs := [19]) (by kernel_rfl) (by simp) ?_
        refine AllReadyH.cons (o := ?_) ?_ (fun K hK => ?_) AllReadyH.nil
        rotate_left
        · (simp only [List.getElem?_toArray, List.getElem?_cons_succ, List.getElem?_cons_zero]; rfl)
        go_simp
        refine hK.out _ _ trivial (fun hHeld => ?_)
        clear hK K
        try simp only [Act.put, List.setIfInBounds_toArray, List.set_cons_zero, List.set_cons_succ]
        refine wpAnyH_take (i := 20) (oi := ?_) (v := ?_) ?_ (by kernel_rfl) (by kernel_rfl) (by kernel_rfl) ?_ (Or.inl ⟨?_, ?_⟩) (by assumption) ?_
        rotate_left 2
        · (simp only [List.getElem?_toArray, List.getElem?_cons_succ, List.getElem?_cons_zero]; rfl)
        · first | exact fun _ _ _ h => h | exact fun _ _ _ h => by cases h.1
        · rfl
        · ((intro wq hSq; (try dsimp only at hSq); go_simp); (try with_reducible rfl))
        try simp only [Act.put, List.setIfInBounds_toArray, List.set_cons_zero, List.set_cons_succ]
        obtain ⟨ar1, hs1, hg1⟩ := hr2.store pa y (by rw [HLEN.out]; exact l1)
        refine wpAnyH_ready (rs := [21]) (by kernel_rfl) (by simp) ?_
        refine AllReadyH.cons (o := ?_) ?_ (fun K hK => ?_) AllReadyH.nil
        rotate_left
        · (simp only [List.getElem?_toArray, List.getElem?_cons_succ, List.getElem?_cons_zero]; rfl)
        refine step_store_at rfl 45 (.tmp 36) (.tmp 29) rfl ⟨g, pa * 7, none⟩ _ rfl rfl hs1 ?_
        refine hK.out _ _ trivial (fun hHeld => ?_)
        clear hK K
        try simp only [Act.put, List.setIfInBounds_toArray, List.set_cons_zero, List.set_cons_succ]
        refine wpAnyH_take (i := 22) (oi := ?_) (v := ?_) ?_ (by kernel_rfl) (by kernel_rfl) (by kernel_rfl) ?_ (Or.inl ⟨?_, ?_⟩) (by assumption) ?_
        rotate_left 2
        · (simp only [List.getElem?_toArray, List.getElem?_cons_succ, List.getElem?_cons_zero]; rfl)
        · first | exact fun _ _ _ h => h | exact fun _ _ _ h => by cases h.1
        · rfl
        · ((intro wq hSq; (try dsimp only at hSq); go_simp); (try with_reducible rfl))
        try simp only [Act.put, List.setIfInBounds_toArray, List.set_cons_zero, List.set_cons_succ]
        obtain ⟨ar2, hs2, hg2⟩ := hg1.store pb x (by rw [List.length_set, HLEN.out]; exact l2)
        refine wpAnyH_ready (rs := [23]) (by kernel_rfl) (by simp) ?_
        refine AllReadyH.cons (o := ?_) ?_ (fun K hK => ?_) AllReadyH.nil
        rotate_left
        · (simp only [List.getElem?_toArray, List.getElem?_cons_succ, List.getElem?_cons_zero]; rfl)
        refine step_store_at rfl 45 (.tmp 37) (.tmp 35) rfl ⟨g, pb * 7, none⟩ _ rfl rfl hs2 ?_
        refine hK.out _ _ trivial (fun hHeld => ?_)
        clear hK K
        try simp only [Act.put, List.setIfInBounds_toArray, List.set_cons_zero, List.set_cons_succ]
        rw [HSW.out] at hg2
        have hk3 := (hk2.row ar1).row ar2
        generalize (we.setRow g ar1).setRow g ar2 = wz at hg2 hk3 ⊢
        have HG2 := Lib.hid hg2
        have HK3 := Lib.hid hk3
        clear hg2 hk3 hk2 hr2 hg1 hs1 hs2 x0 x1 x2 x3 x4 x5 x6 y0 y1 y2 y3 y4 y5 y6
        refine wpAnyH_done (by kernel_rfl) ?_ _
        go_wp2_with fail
        go_roundw
        case rel => exact ⟨X1 ++ [x], X2, Y1 ++ [y], Y2, by rw [HX.out]; simp, by rw [HY.out]; simp, by simp [HXY.out, HI.out], val_int (by have := HI.out; simp; omega), HG2.out, HK3.out⟩
        case measure => simp [intOf]; omega
      · refine AllReadyH.cons (o := ?_) ?_ (fun K hK => ?_) AllReadyH.nil
        rotate_left
        · (simp only [List.getElem?_toArray, List.getElem?_cons_succ, List.getElem?_cons_zero]; rfl)
        go_simp
        refine hK.out _ _ trivial (fun hHeld => ?_)
        clear hK K
        try simp only [Act.put, List.setIfInBounds_toArray, List.set_cons_zero, List.set_cons_succ]
        refine wpAnyH_ready (rs := [13]) (by kernel_rfl) (by simp) ?_
        refine AllReadyH.cons (o := ?_) ?_ (fun K hK => ?_) AllReadyH.nil
        rotate_left
        · (simp only [List.getElem?_toArray, List.getElem?_cons_succ, List.getElem?_cons_zero]; rfl)
        go_simp
        refine hK.out _ _ trivial (fun hHeld => ?_)
        clear hK K
        try simp only [Act.put, List.setIfInBounds_toArray, List.set_cons_zero, List.set_cons_succ]
        refine wpAnyH_take (i := 20) (oi := ?_) (v := ?_) ?_ (by kernel_rfl) (by kernel_rfl) (by kernel_rfl) ?_ (Or.inl ⟨?_, ?_⟩) (by assumption) ?_
        rotate_left 2
        · (simp only [List.getElem?_toArray, List.getElem?_cons_succ, List.getElem?_cons_zero]; rfl)
        · first | exact fun _ _ _ h => h | exact fun _ _ _ h => by cases h.1
        · rfl
        · ((intro wq hSq; (try dsimp only at hSq); go_simp); (try with_reducible rfl))
        try simp only [Act.put, List.setIfInBounds_toArray, List.set_cons_zero, List.set_cons_succ]
        obtain ⟨ar1, hs1, hg1⟩ := hr2.store pa y (by rw [HLEN.out]; exact l1)
        refine wpAnyH_ready (rs := [21]) (by kernel_rfl) (by simp) ?_
        refine AllReadyH.cons (o := ?_) ?_ (fun K hK => ?_) AllReadyH.nil
        rotate_left
        · (simp only [List.getElem?_toArray, List.getElem?_cons_succ, List.getElem?_cons_zero]; rfl)
        refine step_store_at rfl 45 (.tmp 36) (.tmp 29) rfl ⟨g, pa * 7, none⟩ _ rfl rfl hs1 ?_
        refine hK.out _ _ trivial (fun hHeld => ?_)
        clear hK K
        try simp only [Act.put, List.setIfInBounds_toArray, List.set_cons_zero, List.set_cons_succ]
        refine wpAnyH_take (i := 22) (oi := ?_) (v := ?_) ?_ (by kernel_rfl) (by kernel_rfl) (by kernel_rfl) ?_ (Or.inl ⟨?_, ?_⟩) (by assumption) ?_
        rotate_left 2
        · (simp only [List.getElem?_toArray, List.getElem?_cons_succ, List.getElem?_cons_zero]; rfl)
        · first | exact fun _ _ _ h => h | exact fun _ _ _ h => by cases h.1
        · rfl
        · ((intro wq hSq; (try dsimp only at hSq); go_simp); (try with_reducible rfl))
        try simp only [Act.put, List.setIfInBounds_toArray, List.set_cons_zero, List.set_cons_succ]
        obtain ⟨ar2, hs2, hg2⟩ := hg1.store pb x (by rw [List.length_set, HLEN.out]; exact l2)
        refine wpAnyH_ready (rs := [23]) (by kernel_rfl) (by simp) ?_
        refine AllReadyH.cons (o := ?_) ?_ (fun K hK => ?_) AllReadyH.nil
        rotate_left
        · (simp only [List.getElem?_toArray, List.getElem?_cons_succ, List.getElem?_cons_zero]; rfl)
        refine step_store_at rfl 45 (.tmp 37) (.tmp 35) rfl ⟨g, pb * 7, none⟩ _ rfl rfl hs2 ?_
        refine hK.out _ _ trivial (fun hHeld => ?_)
        clear hK K
        try simp only [Act.put, List.setIfInBounds_toArray, List.set_cons_zero, List.set_cons_succ]
        rw [HSW.out] at hg2
        have hk3 := (hk2.row ar1).row ar2
        generalize (we.setRow g ar1).setRow g ar2 = wz at hg2 hk3 ⊢
        have HG2 := Lib.hid hg2
        have HK3 := Lib.hid hk3
        clear hg2 hk3 hk2 hr2 hg1 hs1 hs2 x0 x1 x2 x3 x4 x5 x6 y0 y1 y2 y3 y4 y5 y6
        refine wpAnyH_done (by kernel_rfl) ?_ _
        go_wp2_with fail
        go_roundw
        case rel => exact ⟨X1 ++ [x], X2, Y1 ++ [y], Y2, by rw [HX.out]; simp, by rw [HY.out]; simp, by simp [HXY.out, HI.out], val_int (by have := HI.out; simp; omega), HG2.out, HK3.out⟩
        case measure => simp [intOf]; omega

end Go.Proofs.YtkcdmonmgnmojaaDoor
