/- The reference's Read of a line of six words or more. -/
import Derived.Test.YtkcdmonmgnmojaaDoorHRrA
namespace Go.Proofs.YtkcdmonmgnmojaaDoor
open Go.RowKit

set_option maxRecDepth 100000 in
set_option maxHeartbeats 16000000 in
theorem rread_6 (x0 x1 x2 x3 x4 x5 : List UInt8) (t : List (List UInt8)) (s : ByteArray) (w : World) (hs : s.size ≤ 1000) (hps : pcs 32 s.data.toList = x0 :: x1 :: x2 :: x3 :: x4 :: x5 :: t) (hq : ∀ x ∈ x0 :: x1 :: x2 :: x3 :: x4 :: x5 :: t, x.length ≤ 1000) (ht : t.length ≤ 1000)
    (hcp : candR (pcs 32 s.data.toList) = ⟨digNV x0, digNV x1, idxW opsW x2, t.map rnum, idxW codesW x5, digNV x3, if x4 = [45] then -1 else digNV x4⟩) :
    Calls Tryd.prog 33 #[.string s] w fun e w' => (∃ A c, e = .returned (.tuple #[clV (hreadX s.data.toList) A c, .bool (hreadOk s.data.toList)]) ∧ WsF w' w.heap.size A (hreadX s.data.toList).r) ∧ Below w.heap.size w w' := by
  have hsp := fun W => rsplit_cells s 32 32 W rfl (by omega)
  obtain ⟨l, hl⟩ : ∃ l, s.data.toList = l := ⟨_, rfl⟩
  have h6 : 6 ≤ (pcs 32 s.data.toList).length := by rw [hps]; simp
  rw [hps] at hsp
  rw [hl] at hcp h6 ⊢
  have hno := fun (h : ¬(clB (candR (pcs 32 l)) = true ∧ lineH (candR (pcs 32 l)) = l)) => rread_no (s := l) (fun hh => h hh.2)
  have hyes := fun (h : clB (candR (pcs 32 l)) = true ∧ lineH (candR (pcs 32 l)) = l) => rread_yes (s := l) ⟨h6, h⟩
  rw [hcp] at hno hyes
  obtain ⟨Y, hY⟩ : ∃ Y, hreadX l = Y := ⟨_, rfl⟩
  obtain ⟨K, hK⟩ : ∃ K, hreadOk l = K := ⟨_, rfl⟩
  rw [hY, hK] at hno hyes ⊢
  have y0 := hq x0 (by simp)
  have y1 := hq x1 (by simp)
  have y3 := hq x3 (by simp)
  have y4 := hq x4 (by simp)
  have hyt : ∀ x ∈ t, x.length ≤ 1000 := fun x hx => hq x (by simp [hx])
  obtain ⟨M, hM⟩ : ∃ M, (x0 :: x1 :: x2 :: x3 :: x4 :: x5 :: t).length = M := ⟨_, rfl⟩
  have hMT : M = t.length + 6 := by rw [← hM]; rfl
  rw [hM] at hsp
  have m0 : (0 : Int) < (M : Int) := by omega
  have m1 : (1 : Int) < (M : Int) := by omega
  have m2 : (2 : Int) < (M : Int) := by omega
  have m3 : (3 : Int) < (M : Int) := by omega
  have m4 : (4 : Int) < (M : Int) := by omega
  have m5 : (5 : Int) < (M : Int) := by omega
  have m6 : (6 : Int) ≤ (M : Int) := by omega
  have m7 : decide ((M : Int) < 6) = false := by rw [decide_eq_false_iff_not]; omega
  have m8 : 6 ≤ M := by omega
  have k0 : 0 < M := by omega
  have k1 : 1 < M := by omega
  have k2 : 2 < M := by omega
  have k3 : 3 < M := by omega
  have k4 : 4 < M := by omega
  have k5 : 5 < M := by omega
  have HMT := Lib.hid hMT
  have hno' := Lib.hid hno
  have hyes' := Lib.hid hyes
  have hl' := Lib.hid hl
  have hsp' := Lib.hid hsp
  have HYT := Lib.hid hyt
  clear hsp hno hyes hl hY hK hcp h6 hps hq hM hyt hMT
  go_enter Tryd.func33, Tryd.ntmps33
  go_wp2_with fail
  have hb0 := (Below.refl w.heap.size w).alloc (Nat.le_refl _) (.cells #[.int .i64 0, .int .i64 0, .int .i64 0, .slice none 0 0, .int .i64 0, .int .i64 0, .int .i64 0] 45)
  refine (hsp'.out _).mono ?_
  rintro e w3 ⟨pb, cp, rfl, hc1, ⟨hcp, hcp2⟩, hb1⟩
  have hbox3 := (ClBox.new w cl0 none 0).kept hb1
  have hB3 := hb0.trans (hb1.mono hb0.size)
  have q0 := hc1 0 x0 rfl
  have q1 := hc1 1 x1 rfl
  have q3 := hc1 3 x3 rfl
  have hpc : PcC w3 pb (x0 :: x1 :: x2 :: x3 :: x4 :: x5 :: t) := hc1
  obtain ⟨n, hn⟩ : ∃ n, w.heap.size = n := ⟨_, rfl⟩
  rw [hn] at hbox3 hB3 ⊢
  clear hb1 hb0 hc1
  go_wp2_with fail
  have hSd : HrSt w3 pb ⟨x0.toArray⟩ ⟨x1.toArray⟩ ⟨x3.toArray⟩ w3.drew := HrSt.drew ⟨Below.refl _ _, q0, q1, q3⟩
  have hn3 : pb < w3.heap.size := cell_lt q0
  have hnn : n < w3.heap.size := hbox3.lt
  have HPC := Lib.hid hpc
  clear hpc
  refine region_to (fun nb => { tmps := #[.string s, undef, .pointer (some ⟨n, 0, none⟩), .bool false, .slice (some ⟨pb, 0, none⟩) M cp, .pointer (some ⟨nb, 0, none⟩), undef, undef, undef, undef, undef, undef, .string s, .slice (some ⟨pb, 0, none⟩) M cp, .slice (some ⟨pb, 0, none⟩) M cp, .int .i64 (M : Int), .bool false, undef, .slice (some ⟨pb, 0, none⟩) M cp, .pointer (some ⟨pb, 0, none⟩), .string ⟨x0.toArray⟩, .int .i64 (digNV x0), .slice (some ⟨pb, 0, none⟩) M cp, .pointer (some ⟨pb, 1, none⟩), .string ⟨x1.toArray⟩, .int .i64 (digNV x1), .slice (some ⟨pb, 0, none⟩) M cp, .pointer (some ⟨pb, 3, none⟩), .string ⟨x3.toArray⟩, .int .i64 (digNV x3), .agg #[.int .i64 (digNV x0), .int .i64 (digNV x1), .int .i64 (-1), .slice none 0 0, .int .i64 (-1), .int .i64 (digNV x3), .int .i64 (-1)], undef, undef, undef, undef, undef, undef, undef, undef, undef, undef, undef, undef, undef, undef, undef, undef, undef, undef, undef, undef, undef, undef, undef, undef, undef, undef, undef, undef, undef, undef, undef, undef, undef, undef, undef, undef, undef, undef, undef, undef, undef, undef, undef, undef, undef, undef, undef, undef, undef, undef, undef, undef, undef, undef, undef, undef, undef, undef, undef, undef, undef, undef, undef, undef, undef], defers := [] }) (fun nb w => w3.heap.size ≤ nb ∧ ClBox w nb ⟨digNV x0, digNV x1, -1, [], -1, digNV x3, -1⟩ none 0 ∧ Below w3.heap.size w3 w) ?reg ?cont
  case reg =>
    refine wp_region_held_drew (S := fun w' => Below w3.heap.size w3 w' ∧ w'.cell? ⟨pb, 0, none⟩ = some (.string ⟨x0.toArray⟩) ∧ w'.cell? ⟨pb, 1, none⟩ = some (.string ⟨x1.toArray⟩) ∧ w'.cell? ⟨pb, 3, none⟩ = some (.string ⟨x3.toArray⟩)) (by kernel_rfl) hSd (fun hHeld => ?_)
    generalize w3.drew = wd at hHeld ⊢
    refine wpAnyH_take (i := 0) (oi := ?_) (v := ?_) ?_ (by kernel_rfl) (by kernel_rfl) (by kernel_rfl) ?_ (Or.inl ⟨?_, ?_⟩) (by assumption) ?_
    rotate_left 2
    · (simp only [List.getElem?_toArray, List.getElem?_cons_zero]; rfl)
    · first | exact fun _ _ _ h => h | exact fun _ _ _ h => by cases h.1
    · rfl
    · ((intro wq hSq; (try dsimp only at hSq); go_simp); (try with_reducible rfl))
    try simp only [Act.put, List.setIfInBounds_toArray, List.set_cons_zero, List.set_cons_succ]
    refine wpAnyH_take (i := 1) (oi := ?_) (v := ?_) ?_ (by kernel_rfl) (by kernel_rfl) (by kernel_rfl) ?_ (Or.inl ⟨?_, ?_⟩) (by assumption) ?_
    rotate_left 2
    · (simp only [List.getElem?_toArray, List.getElem?_cons_succ, List.getElem?_cons_zero]; rfl)
    · first | exact fun _ _ _ h => h | exact fun _ _ _ h => by cases h.1
    · rfl
    · ((intro wq hSq; (try dsimp only at hSq); go_simp); (try with_reducible rfl))
    try simp only [Act.put, List.setIfInBounds_toArray, List.set_cons_zero, List.set_cons_succ]
    refine wpAnyH_take (i := 2) (oi := ?_) (v := ?_) ?_ (by kernel_rfl) (by kernel_rfl) (by kernel_rfl) ?_ (Or.inl ⟨?_, ?_⟩) (by assumption) ?_
    rotate_left 2
    · (simp only [List.getElem?_toArray, List.getElem?_cons_succ, List.getElem?_cons_zero]; rfl)
    · first | exact fun _ _ _ h => h | exact fun _ _ _ h => by cases h.1
    · rfl
    · ((intro wq hSq; (try dsimp only at hSq); go_simp); (try with_reducible rfl))
    try simp only [Act.put, List.setIfInBounds_toArray, List.set_cons_zero, List.set_cons_succ]
    refine wpAnyH_take (i := 4) (oi := ?_) (v := ?_) ?_ (by kernel_rfl) (by kernel_rfl) (by kernel_rfl) ?_ (Or.inl ⟨?_, ?_⟩) (by assumption) ?_
    rotate_left 2
    · (simp only [List.getElem?_toArray, List.getElem?_cons_succ, List.getElem?_cons_zero]; rfl)
    · first | exact fun _ _ _ h => h | exact fun _ _ _ h => by cases h.1
    · rfl
    · ((intro wq hSq; (try dsimp only at hSq); go_simp); (try with_reducible rfl))
    try simp only [Act.put, List.setIfInBounds_toArray, List.set_cons_zero, List.set_cons_succ]
    refine wpAnyH_take (i := 5) (oi := ?_) (v := ?_) ?_ (by kernel_rfl) (by kernel_rfl) (by kernel_rfl) ?_ (Or.inl ⟨?_, ?_⟩) (by assumption) ?_
    rotate_left 2
    · (simp only [List.getElem?_toArray, List.getElem?_cons_succ, List.getElem?_cons_zero]; rfl)
    · first | exact fun _ _ _ h => h | exact fun _ _ _ h => by cases h.1
    · rfl
    · ((intro wq hSq; (try dsimp only at hSq); go_simp); (try with_reducible rfl))
    try simp only [Act.put, List.setIfInBounds_toArray, List.set_cons_zero, List.set_cons_succ]
    refine wpAnyH_take (i := 6) (oi := ?_) (v := ?_) ?_ (by kernel_rfl) (by kernel_rfl) (by kernel_rfl) ?_ (Or.inl ⟨?_, ?_⟩) (by assumption) ?_
    rotate_left 2
    · (simp only [List.getElem?_toArray, List.getElem?_cons_succ, List.getElem?_cons_zero]; rfl)
    · first | exact fun _ _ _ h => h | exact fun _ _ _ h => by cases h.1
    · rfl
    · ((intro wq hSq; (try dsimp only at hSq); go_simp); (try with_reducible rfl))
    try simp only [Act.put, List.setIfInBounds_toArray, List.set_cons_zero, List.set_cons_succ]
    refine wpAnyH_take (i := 8) (oi := ?_) (v := ?_) ?_ (by kernel_rfl) (by kernel_rfl) (by kernel_rfl) ?_ (Or.inl ⟨?_, ?_⟩) (by assumption) ?_
    rotate_left 2
    · (simp only [List.getElem?_toArray, List.getElem?_cons_succ, List.getElem?_cons_zero]; rfl)
    · first | exact fun _ _ _ h => h | exact fun _ _ _ h => by cases h.1
    · rfl
    · ((intro wq hSq; (try dsimp only at hSq); go_simp); (try with_reducible rfl))
    try simp only [Act.put, List.setIfInBounds_toArray, List.set_cons_zero, List.set_cons_succ]
    refine wpAnyH_take (i := 9) (oi := ?_) (v := ?_) ?_ (by kernel_rfl) (by kernel_rfl) (by kernel_rfl) ?_ (Or.inl ⟨?_, ?_⟩) (by assumption) ?_
    rotate_left 2
    · (simp only [List.getElem?_toArray, List.getElem?_cons_succ, List.getElem?_cons_zero]; rfl)
    · first | exact fun _ _ _ h => h | exact fun _ _ _ h => by cases h.1
    · rfl
    · ((intro wq hSq; (try dsimp only at hSq); go_simp); (try with_reducible rfl))
    try simp only [Act.put, List.setIfInBounds_toArray, List.set_cons_zero, List.set_cons_succ]
    refine wpAnyH_take (i := 10) (oi := ?_) (v := ?_) ?_ (by kernel_rfl) (by kernel_rfl) (by kernel_rfl) ?_ (Or.inl ⟨?_, ?_⟩) (by assumption) ?_
    rotate_left 2
    · (simp only [List.getElem?_toArray, List.getElem?_cons_succ, List.getElem?_cons_zero]; rfl)
    · first | exact fun _ _ _ h => h | exact fun _ _ _ h => by cases h.1
    · rfl
    · ((intro wq hSq; (try dsimp only at hSq); go_simp); (try with_reducible rfl))
    try simp only [Act.put, List.setIfInBounds_toArray, List.set_cons_zero, List.set_cons_succ]
    refine wpAnyH_ready (rs := [3, 13]) (by kernel_rfl) (by simp) ?_
    refine AllReadyH.cons (o := ?_) ?_ (fun K hK => ?_) ?_
    rotate_left
    · (simp only [List.getElem?_toArray, List.getElem?_cons_succ, List.getElem?_cons_zero]; rfl)
    · go_simp
      go_at_call 74
      refine (rdigA x0 _ y0).mono ?_
      rintro e wx ⟨rfl, hbx⟩
      have hSx := HrSt.below (w2 := w3) (n := pb) (x0 := ⟨x0.toArray⟩) (x1 := ⟨x1.toArray⟩) (x3 := ⟨x3.toArray⟩) hHeld hbx
      refine hK.out _ _ hSx (fun hHeld => ?_)
      clear hK K
      try simp only [Act.put, List.setIfInBounds_toArray, List.set_cons_zero, List.set_cons_succ]
      refine wpAnyH_ready (rs := [7, 13]) (by kernel_rfl) (by simp) ?_
      refine AllReadyH.cons (o := ?_) ?_ (fun K hK => ?_) ?_
      rotate_left
      · (simp only [List.getElem?_toArray, List.getElem?_cons_succ, List.getElem?_cons_zero]; rfl)
      · go_simp
        go_at_call 74
        refine (rdigA x1 _ y1).mono ?_
        rintro e wx ⟨rfl, hbx⟩
        have hSx := HrSt.below (w2 := w3) (n := pb) (x0 := ⟨x0.toArray⟩) (x1 := ⟨x1.toArray⟩) (x3 := ⟨x3.toArray⟩) hHeld hbx
        refine hK.out _ _ hSx (fun hHeld => ?_)
        clear hK K
        try simp only [Act.put, List.setIfInBounds_toArray, List.set_cons_zero, List.set_cons_succ]
        refine wpAnyH_ready (rs := [11, 13]) (by kernel_rfl) (by simp) ?_
        refine AllReadyH.cons (o := ?_) ?_ (fun K hK => ?_) ?_
        rotate_left
        · (simp only [List.getElem?_toArray, List.getElem?_cons_succ, List.getElem?_cons_zero]; rfl)
        · go_simp
          go_at_call 74
          refine (rdigA x3 _ y3).mono ?_
          rintro e wx ⟨rfl, hbx⟩
          have hSx := HrSt.below (w2 := w3) (n := pb) (x0 := ⟨x0.toArray⟩) (x1 := ⟨x1.toArray⟩) (x3 := ⟨x3.toArray⟩) hHeld hbx
          refine hK.out _ _ hSx (fun hHeld => ?_)
          clear hK K
          try simp only [Act.put, List.setIfInBounds_toArray, List.set_cons_zero, List.set_cons_succ]
          refine wpAnyH_take (i := 12) (oi := ?_) (v := ?_) ?_ (by kernel_rfl) (by kernel_rfl) (by kernel_rfl) ?_ (Or.inl ⟨?_, ?_⟩) (by assumption) ?_
          rotate_left 2
          · (simp only [List.getElem?_toArray, List.getElem?_cons_succ, List.getElem?_cons_zero]; rfl)
          · first | exact fun _ _ _ h => h | exact fun _ _ _ h => by cases h.1
          · rfl
          · ((intro wq hSq; (try dsimp only at hSq); go_simp); (try with_reducible rfl))
          try simp only [Act.put, List.setIfInBounds_toArray, List.set_cons_zero, List.set_cons_succ]
          refine wpAnyH_ready (rs := [13]) (by kernel_rfl) (by simp) ?_
          refine AllReadyH.cons (o := ?_) ?_ (fun K hK => ?_) AllReadyH.nil
          rotate_left
          · (simp only [List.getElem?_toArray, List.getElem?_cons_succ, List.getElem?_cons_zero]; rfl)
          go_simp
          have hnew := ClBox.new (wx) cl0 none 0
          have hsz := hHeld.1.size
          have hSx := HrSt.alloc (w2 := w3) (n := pb) (x0 := ⟨x0.toArray⟩) (x1 := ⟨x1.toArray⟩) (x3 := ⟨x3.toArray⟩) hHeld (.cells #[.int .i64 0, .int .i64 0, .int .i64 0, .slice none 0 0, .int .i64 0, .int .i64 0, .int .i64 0] 45)
          refine hK.out _ _ hSx (fun hHeld => ?_)
          clear hK K
          try simp only [Act.put, List.setIfInBounds_toArray, List.set_cons_zero, List.set_cons_succ]
          obtain ⟨wa, hwa⟩ : ∃ x, (wx).alloc (.cells #[.int .i64 0, .int .i64 0, .int .i64 0, .slice none 0 0, .int .i64 0, .int .i64 0, .int .i64 0] 45) = x := ⟨_, rfl⟩
          obtain ⟨nb, hnb⟩ : ∃ x, (wx).heap.size = x := ⟨_, rfl⟩
          have hnew2 : ClBox wa nb cl0 none 0 := by rw [← hwa, ← hnb]; exact hnew
          rw [hwa] at hHeld ⊢
          rw [hnb] at hsz ⊢
          clear hwa hnb hnew
          have hS2 : HrSt2 w3 pb ⟨x0.toArray⟩ ⟨x1.toArray⟩ ⟨x3.toArray⟩ nb wa := ⟨hHeld, _, hnew2⟩
          clear hnew2 hHeld
          refine wpAnyH_strong (S' := fun w' => (Below w3.heap.size w3 w' ∧ w'.cell? ⟨pb, 0, none⟩ = some (.string ⟨x0.toArray⟩) ∧ w'.cell? ⟨pb, 1, none⟩ = some (.string ⟨x1.toArray⟩) ∧ w'.cell? ⟨pb, 3, none⟩ = some (.string ⟨x3.toArray⟩)) ∧ ∃ x, ClBox w' nb x none 0) (fun w h => h.1) _ _ _ _ ?_
          have hHeld := hS2
          obtain ⟨ee, hz⟩ := hHeld.2
          obtain ⟨b0, b1, b2, b3, b4, b5, b6⟩ := hz.cells
          have f0 := hz.frozen 0
          have f1 := hz.frozen 1
          have f2 := hz.frozen 2
          have f3 := hz.frozen 3
          have f4 := hz.frozen 4
          have f5 := hz.frozen 5
          have f6 := hz.frozen 6
          refine wpAnyH_ready (rs := [14]) (by kernel_rfl) (by simp) ?_
          refine AllReadyH.cons (o := ?_) ?_ (fun K hK => ?_) AllReadyH.nil
          rotate_left
          · (simp only [List.getElem?_toArray, List.getElem?_cons_succ, List.getElem?_cons_zero]; rfl)
          go_simp
          have hSx := HrSt2.set (w2 := w3) (n := pb) (x0 := ⟨x0.toArray⟩) (x1 := ⟨x1.toArray⟩) (x3 := ⟨x3.toArray⟩) (nb := nb) hHeld hsz hz hn3 ⟨digNV x0, digNV x1, -1, [], -1, digNV x3, -1⟩ rfl
          have hzz := hz.set7 ⟨digNV x0, digNV x1, -1, [], -1, digNV x3, -1⟩ none 0
          have hBB := hSx.1.1
          refine hK.out _ _ hSx (fun hHeld => ?_)
          clear hK K
          try simp only [Act.put, List.setIfInBounds_toArray, List.set_cons_zero, List.set_cons_succ]
          refine wpAnyH_done (by kernel_rfl) ?_ _
          exact ⟨rfl, nb, rfl, hsz, hzz, hBB⟩
        · refine AllReadyH.cons (o := ?_) ?_ (fun K hK => ?_) AllReadyH.nil
          rotate_left
          · (simp only [List.getElem?_toArray, List.getElem?_cons_succ, List.getElem?_cons_zero]; rfl)
          · go_simp
            have hnew := ClBox.new (wx) cl0 none 0
            have hsz := hHeld.1.size
            have hSx := HrSt.alloc (w2 := w3) (n := pb) (x0 := ⟨x0.toArray⟩) (x1 := ⟨x1.toArray⟩) (x3 := ⟨x3.toArray⟩) hHeld (.cells #[.int .i64 0, .int .i64 0, .int .i64 0, .slice none 0 0, .int .i64 0, .int .i64 0, .int .i64 0] 45)
            refine hK.out _ _ hSx (fun hHeld => ?_)
            clear hK K
            try simp only [Act.put, List.setIfInBounds_toArray, List.set_cons_zero, List.set_cons_succ]
            obtain ⟨wa, hwa⟩ : ∃ x, (wx).alloc (.cells #[.int .i64 0, .int .i64 0, .int .i64 0, .slice none 0 0, .int .i64 0, .int .i64 0, .int .i64 0] 45) = x := ⟨_, rfl⟩
            obtain ⟨nb, hnb⟩ : ∃ x, (wx).heap.size = x := ⟨_, rfl⟩
            have hnew2 : ClBox wa nb cl0 none 0 := by rw [← hwa, ← hnb]; exact hnew
            rw [hwa] at hHeld ⊢
            rw [hnb] at hsz ⊢
            clear hwa hnb hnew
            have hS2 : HrSt2 w3 pb ⟨x0.toArray⟩ ⟨x1.toArray⟩ ⟨x3.toArray⟩ nb wa := ⟨hHeld, _, hnew2⟩
            clear hnew2 hHeld
            refine wpAnyH_strong (S' := fun w' => (Below w3.heap.size w3 w' ∧ w'.cell? ⟨pb, 0, none⟩ = some (.string ⟨x0.toArray⟩) ∧ w'.cell? ⟨pb, 1, none⟩ = some (.string ⟨x1.toArray⟩) ∧ w'.cell? ⟨pb, 3, none⟩ = some (.string ⟨x3.toArray⟩)) ∧ ∃ x, ClBox w' nb x none 0) (fun w h => h.1) _ _ _ _ ?_
            have hHeld := hS2
            refine wpAnyH_ready (rs := [11]) (by kernel_rfl) (by simp) ?_
            refine AllReadyH.cons (o := ?_) ?_ (fun K hK => ?_) AllReadyH.nil
            rotate_left
            · (simp only [List.getElem?_toArray, List.getElem?_cons_succ, List.getElem?_cons_zero]; rfl)
            go_simp
            go_at_call 74
            refine (rdigA x3 _ y3).mono ?_
            rintro e wx ⟨rfl, hbx⟩
            have hSx := HrSt2.below (w2 := w3) (n := pb) (x0 := ⟨x0.toArray⟩) (x1 := ⟨x1.toArray⟩) (x3 := ⟨x3.toArray⟩) (nb := nb) hHeld hbx
            refine hK.out _ _ hSx (fun hHeld => ?_)
            clear hK K
            try simp only [Act.put, List.setIfInBounds_toArray, List.set_cons_zero, List.set_cons_succ]
            refine wpAnyH_take (i := 12) (oi := ?_) (v := ?_) ?_ (by kernel_rfl) (by kernel_rfl) (by kernel_rfl) ?_ (Or.inl ⟨?_, ?_⟩) (by assumption) ?_
            rotate_left 2
            · (simp only [List.getElem?_toArray, List.getElem?_cons_succ, List.getElem?_cons_zero]; rfl)
            · first | exact fun _ _ _ h => h | exact fun _ _ _ h => by cases h.1
            · rfl
            · ((intro wq hSq; (try dsimp only at hSq); go_simp); (try with_reducible rfl))
            try simp only [Act.put, List.setIfInBounds_toArray, List.set_cons_zero, List.set_cons_succ]
            obtain ⟨ee, hz⟩ := hHeld.2
            obtain ⟨b0, b1, b2, b3, b4, b5, b6⟩ := hz.cells
            have f0 := hz.frozen 0
            have f1 := hz.frozen 1
            have f2 := hz.frozen 2
            have f3 := hz.frozen 3
            have f4 := hz.frozen 4
            have f5 := hz.frozen 5
            have f6 := hz.frozen 6
            refine wpAnyH_ready (rs := [14]) (by kernel_rfl) (by simp) ?_
            refine AllReadyH.cons (o := ?_) ?_ (fun K hK => ?_) AllReadyH.nil
            rotate_left
            · (simp only [List.getElem?_toArray, List.getElem?_cons_succ, List.getElem?_cons_zero]; rfl)
            go_simp
            have hSx := HrSt2.set (w2 := w3) (n := pb) (x0 := ⟨x0.toArray⟩) (x1 := ⟨x1.toArray⟩) (x3 := ⟨x3.toArray⟩) (nb := nb) hHeld hsz hz hn3 ⟨digNV x0, digNV x1, -1, [], -1, digNV x3, -1⟩ rfl
            have hzz := hz.set7 ⟨digNV x0, digNV x1, -1, [], -1, digNV x3, -1⟩ none 0
            have hBB := hSx.1.1
            refine hK.out _ _ hSx (fun hHeld => ?_)
            clear hK K
            try simp only [Act.put, List.setIfInBounds_toArray, List.set_cons_zero, List.set_cons_succ]
            refine wpAnyH_done (by kernel_rfl) ?_ _
            exact ⟨rfl, nb, rfl, hsz, hzz, hBB⟩
      · refine AllReadyH.cons (o := ?_) ?_ (fun K hK => ?_) AllReadyH.nil
        rotate_left
        · (simp only [List.getElem?_toArray, List.getElem?_cons_succ, List.getElem?_cons_zero]; rfl)
        · go_simp
          have hnew := ClBox.new (wx) cl0 none 0
          have hsz := hHeld.1.size
          have hSx := HrSt.alloc (w2 := w3) (n := pb) (x0 := ⟨x0.toArray⟩) (x1 := ⟨x1.toArray⟩) (x3 := ⟨x3.toArray⟩) hHeld (.cells #[.int .i64 0, .int .i64 0, .int .i64 0, .slice none 0 0, .int .i64 0, .int .i64 0, .int .i64 0] 45)
          refine hK.out _ _ hSx (fun hHeld => ?_)
          clear hK K
          try simp only [Act.put, List.setIfInBounds_toArray, List.set_cons_zero, List.set_cons_succ]
          obtain ⟨wa, hwa⟩ : ∃ x, (wx).alloc (.cells #[.int .i64 0, .int .i64 0, .int .i64 0, .slice none 0 0, .int .i64 0, .int .i64 0, .int .i64 0] 45) = x := ⟨_, rfl⟩
          obtain ⟨nb, hnb⟩ : ∃ x, (wx).heap.size = x := ⟨_, rfl⟩
          have hnew2 : ClBox wa nb cl0 none 0 := by rw [← hwa, ← hnb]; exact hnew
          rw [hwa] at hHeld ⊢
          rw [hnb] at hsz ⊢
          clear hwa hnb hnew
          have hS2 : HrSt2 w3 pb ⟨x0.toArray⟩ ⟨x1.toArray⟩ ⟨x3.toArray⟩ nb wa := ⟨hHeld, _, hnew2⟩
          clear hnew2 hHeld
          refine wpAnyH_strong (S' := fun w' => (Below w3.heap.size w3 w' ∧ w'.cell? ⟨pb, 0, none⟩ = some (.string ⟨x0.toArray⟩) ∧ w'.cell? ⟨pb, 1, none⟩ = some (.string ⟨x1.toArray⟩) ∧ w'.cell? ⟨pb, 3, none⟩ = some (.string ⟨x3.toArray⟩)) ∧ ∃ x, ClBox w' nb x none 0) (fun w h => h.1) _ _ _ _ ?_
          have hHeld := hS2
          refine wpAnyH_ready (rs := [7]) (by kernel_rfl) (by simp) ?_
          refine AllReadyH.cons (o := ?_) ?_ (fun K hK => ?_) AllReadyH.nil
          rotate_left
          · (simp only [List.getElem?_toArray, List.getElem?_cons_succ, List.getElem?_cons_zero]; rfl)
          go_simp
          go_at_call 74
          refine (rdigA x1 _ y1).mono ?_
          rintro e wx ⟨rfl, hbx⟩
          have hSx := HrSt2.below (w2 := w3) (n := pb) (x0 := ⟨x0.toArray⟩) (x1 := ⟨x1.toArray⟩) (x3 := ⟨x3.toArray⟩) (nb := nb) hHeld hbx
          refine hK.out _ _ hSx (fun hHeld => ?_)
          clear hK K
          try simp only [Act.put, List.setIfInBounds_toArray, List.set_cons_zero, List.set_cons_succ]
          refine wpAnyH_ready (rs := [11]) (by kernel_rfl) (by simp) ?_
          refine AllReadyH.cons (o := ?_) ?_ (fun K hK => ?_) AllReadyH.nil
          rotate_left
          · (simp only [List.getElem?_toArray, List.getElem?_cons_succ, List.getElem?_cons_zero]; rfl)
          go_simp
          go_at_call 74
          refine (rdigA x3 _ y3).mono ?_
          rintro e wx ⟨rfl, hbx⟩
          have hSx := HrSt2.below (w2 := w3) (n := pb) (x0 := ⟨x0.toArray⟩) (x1 := ⟨x1.toArray⟩) (x3 := ⟨x3.toArray⟩) (nb := nb) hHeld hbx
          refine hK.out _ _ hSx (fun hHeld => ?_)
          clear hK K
          try simp only [Act.put, List.setIfInBounds_toArray, List.set_cons_zero, List.set_cons_succ]
          refine wpAnyH_take (i := 12) (oi := ?_) (v := ?_) ?_ (by kernel_rfl) (by kernel_rfl) (by kernel_rfl) ?_ (Or.inl ⟨?_, ?_⟩) (by assumption) ?_
          rotate_left 2
          · (simp only [List.getElem?_toArray, List.getElem?_cons_succ, List.getElem?_cons_zero]; rfl)
          · first | exact fun _ _ _ h => h | exact fun _ _ _ h => by cases h.1
          · rfl
          · ((intro wq hSq; (try dsimp only at hSq); go_simp); (try with_reducible rfl))
          try simp only [Act.put, List.setIfInBounds_toArray, List.set_cons_zero, List.set_cons_succ]
          obtain ⟨ee, hz⟩ := hHeld.2
          obtain ⟨b0, b1, b2, b3, b4, b5, b6⟩ := hz.cells
          have f0 := hz.frozen 0
          have f1 := hz.frozen 1
          have f2 := hz.frozen 2
          have f3 := hz.frozen 3
          have f4 := hz.frozen 4
          have f5 := hz.frozen 5
          have f6 := hz.frozen 6
          refine wpAnyH_ready (rs := [14]) (by kernel_rfl) (by simp) ?_
          refine AllReadyH.cons (o := ?_) ?_ (fun K hK => ?_) AllReadyH.nil
          rotate_left
          · (simp only [List.getElem?_toArray, List.getElem?_cons_succ, List.getElem?_cons_zero]; rfl)
          go_simp
          have hSx := HrSt2.set (w2 := w3) (n := pb) (x0 := ⟨x0.toArray⟩) (x1 := ⟨x1.toArray⟩) (x3 := ⟨x3.toArray⟩) (nb := nb) hHeld hsz hz hn3 ⟨digNV x0, digNV x1, -1, [], -1, digNV x3, -1⟩ rfl
          have hzz := hz.set7 ⟨digNV x0, digNV x1, -1, [], -1, digNV x3, -1⟩ none 0
          have hBB := hSx.1.1
          refine hK.out _ _ hSx (fun hHeld => ?_)
          clear hK K
          try simp only [Act.put, List.setIfInBounds_toArray, List.set_cons_zero, List.set_cons_succ]
          refine wpAnyH_done (by kernel_rfl) ?_ _
          exact ⟨rfl, nb, rfl, hsz, hzz, hBB⟩
    · refine AllReadyH.cons (o := ?_) ?_ (fun K hK => ?_) AllReadyH.nil
      rotate_left
      · (simp only [List.getElem?_toArray, List.getElem?_cons_succ, List.getElem?_cons_zero]; rfl)
      · go_simp
        have hnew := ClBox.new (wd) cl0 none 0
        have hsz := hHeld.1.size
        have hSx := HrSt.alloc (w2 := w3) (n := pb) (x0 := ⟨x0.toArray⟩) (x1 := ⟨x1.toArray⟩) (x3 := ⟨x3.toArray⟩) hHeld (.cells #[.int .i64 0, .int .i64 0, .int .i64 0, .slice none 0 0, .int .i64 0, .int .i64 0, .int .i64 0] 45)
        refine hK.out _ _ hSx (fun hHeld => ?_)
        clear hK K
        try simp only [Act.put, List.setIfInBounds_toArray, List.set_cons_zero, List.set_cons_succ]
        obtain ⟨wa, hwa⟩ : ∃ x, (wd).alloc (.cells #[.int .i64 0, .int .i64 0, .int .i64 0, .slice none 0 0, .int .i64 0, .int .i64 0, .int .i64 0] 45) = x := ⟨_, rfl⟩
        obtain ⟨nb, hnb⟩ : ∃ x, (wd).heap.size = x := ⟨_, rfl⟩
        have hnew2 : ClBox wa nb cl0 none 0 := by rw [← hwa, ← hnb]; exact hnew
        rw [hwa] at hHeld ⊢
        rw [hnb] at hsz ⊢
        clear hwa hnb hnew
        have hS2 : HrSt2 w3 pb ⟨x0.toArray⟩ ⟨x1.toArray⟩ ⟨x3.toArray⟩ nb wa := ⟨hHeld, _, hnew2⟩
        clear hnew2 hHeld
        refine wpAnyH_strong (S' := fun w' => (Below w3.heap.size w3 w' ∧ w'.cell? ⟨pb, 0, none⟩ = some (.string ⟨x0.toArray⟩) ∧ w'.cell? ⟨pb, 1, none⟩ = some (.string ⟨x1.toArray⟩) ∧ w'.cell? ⟨pb, 3, none⟩ = some (.string ⟨x3.toArray⟩)) ∧ ∃ x, ClBox w' nb x none 0) (fun w h => h.1) _ _ _ _ ?_
        have hHeld := hS2
        refine wpAnyH_ready (rs := [3]) (by kernel_rfl) (by simp) ?_
        refine AllReadyH.cons (o := ?_) ?_ (fun K hK => ?_) AllReadyH.nil
        rotate_left
        · (simp only [List.getElem?_toArray, List.getElem?_cons_succ, List.getElem?_cons_zero]; rfl)
        go_simp
        go_at_call 74
        refine (rdigA x0 _ y0).mono ?_
        rintro e wx ⟨rfl, hbx⟩
        have hSx := HrSt2.below (w2 := w3) (n := pb) (x0 := ⟨x0.toArray⟩) (x1 := ⟨x1.toArray⟩) (x3 := ⟨x3.toArray⟩) (nb := nb) hHeld hbx
        refine hK.out _ _ hSx (fun hHeld => ?_)
        clear hK K
        try simp only [Act.put, List.setIfInBounds_toArray, List.set_cons_zero, List.set_cons_succ]
        refine wpAnyH_ready (rs := [7]) (by kernel_rfl) (by simp) ?_
        refine AllReadyH.cons (o := ?_) ?_ (fun K hK => ?_) AllReadyH.nil
        rotate_left
        · (simp only [List.getElem?_toArray, List.getElem?_cons_succ, List.getElem?_cons_zero]; rfl)
        go_simp
        go_at_call 74
        refine (rdigA x1 _ y1).mono ?_
        rintro e wx ⟨rfl, hbx⟩
        have hSx := HrSt2.below (w2 := w3) (n := pb) (x0 := ⟨x0.toArray⟩) (x1 := ⟨x1.toArray⟩) (x3 := ⟨x3.toArray⟩) (nb := nb) hHeld hbx
        refine hK.out _ _ hSx (fun hHeld => ?_)
        clear hK K
        try simp only [Act.put, List.setIfInBounds_toArray, List.set_cons_zero, List.set_cons_succ]
        refine wpAnyH_ready (rs := [11]) (by kernel_rfl) (by simp) ?_
        refine AllReadyH.cons (o := ?_) ?_ (fun K hK => ?_) AllReadyH.nil
        rotate_left
        · (simp only [List.getElem?_toArray, List.getElem?_cons_succ, List.getElem?_cons_zero]; rfl)
        go_simp
        go_at_call 74
        refine (rdigA x3 _ y3).mono ?_
        rintro e wx ⟨rfl, hbx⟩
        have hSx := HrSt2.below (w2 := w3) (n := pb) (x0 := ⟨x0.toArray⟩) (x1 := ⟨x1.toArray⟩) (x3 := ⟨x3.toArray⟩) (nb := nb) hHeld hbx
        refine hK.out _ _ hSx (fun hHeld => ?_)
        clear hK K
        try simp only [Act.put, List.setIfInBounds_toArray, List.set_cons_zero, List.set_cons_succ]
        refine wpAnyH_take (i := 12) (oi := ?_) (v := ?_) ?_ (by kernel_rfl) (by kernel_rfl) (by kernel_rfl) ?_ (Or.inl ⟨?_, ?_⟩) (by assumption) ?_
        rotate_left 2
        · (simp only [List.getElem?_toArray, List.getElem?_cons_succ, List.getElem?_cons_zero]; rfl)
        · first | exact fun _ _ _ h => h | exact fun _ _ _ h => by cases h.1
        · rfl
        · ((intro wq hSq; (try dsimp only at hSq); go_simp); (try with_reducible rfl))
        try simp only [Act.put, List.setIfInBounds_toArray, List.set_cons_zero, List.set_cons_succ]
        obtain ⟨ee, hz⟩ := hHeld.2
        obtain ⟨b0, b1, b2, b3, b4, b5, b6⟩ := hz.cells
        have f0 := hz.frozen 0
        have f1 := hz.frozen 1
        have f2 := hz.frozen 2
        have f3 := hz.frozen 3
        have f4 := hz.frozen 4
        have f5 := hz.frozen 5
        have f6 := hz.frozen 6
        refine wpAnyH_ready (rs := [14]) (by kernel_rfl) (by simp) ?_
        refine AllReadyH.cons (o := ?_) ?_ (fun K hK => ?_) AllReadyH.nil
        rotate_left
        · (simp only [List.getElem?_toArray, List.getElem?_cons_succ, List.getElem?_cons_zero]; rfl)
        go_simp
        have hSx := HrSt2.set (w2 := w3) (n := pb) (x0 := ⟨x0.toArray⟩) (x1 := ⟨x1.toArray⟩) (x3 := ⟨x3.toArray⟩) (nb := nb) hHeld hsz hz hn3 ⟨digNV x0, digNV x1, -1, [], -1, digNV x3, -1⟩ rfl
        have hzz := hz.set7 ⟨digNV x0, digNV x1, -1, [], -1, digNV x3, -1⟩ none 0
        have hBB := hSx.1.1
        refine hK.out _ _ hSx (fun hHeld => ?_)
        clear hK K
        try simp only [Act.put, List.setIfInBounds_toArray, List.set_cons_zero, List.set_cons_succ]
        refine wpAnyH_done (by kernel_rfl) ?_ _
        exact ⟨rfl, nb, rfl, hsz, hzz, hBB⟩
  rintro nb w4 ⟨hnb, hz, hb4⟩
  dsimp only
  clear hSd
  have hpc4 : PcC w4 pb (x0 :: x1 :: x2 :: x3 :: x4 :: x5 :: t) := HPC.out.below hb4
  have hbox4 := hbox3.below hb4 hnn
  have hB4 := hB3.trans (hb4.mono (by have := hB3.size; rw [hn] at this; exact this))
  have hnz : pb ≠ nb ∧ n ≠ nb ∧ n ≤ nb ∧ pb < nb ∧ n < nb := ⟨by omega, by omega, by omega, by omega, by omega⟩
  clear hb4 hB3 hbox3 q0 q1 q3 hnb hn3 hnn HPC
  go_wp2_with fail
  refine (rops_any _).mono ?_
  rintro e w5 ⟨bo, rfl, hwc, hbo, _, hb5⟩
  have hz5 := hz.kept hb5
  have hbox5 := hbox4.kept hb5
  have hB5 := hB4.trans (hb5.mono (by have := hB4.size; rw [hn] at this; exact this))
  have hpc5 := hpc4.below hb5
  have hbon : bo ≠ nb := by have := hz.lt; omega
  have HWC := Lib.hid hwc
  have HPC := Lib.hid hpc5
  clear hwc hb5 hz hbox4 hB4 hpc4 hpc5 hbo w4
  go_wp2_with fail
  go_loopw [6, 7, 33] (fun _ _ j wr => ∃ k : Nat, k ≤ 5 ∧ j = .int .i64 k ∧ ClBox wr nb ⟨digNV x0, digNV x1, idxTo opsW x2 k, [], -1, digNV x3, -1⟩ none 0 ∧ ClBox wr n cl0 none 0 ∧ PcC wr pb (x0 :: x1 :: x2 :: x3 :: x4 :: x5 :: t) ∧ (∀ (j : Nat) x, opsB[j]? = some x → wr.cell? ⟨bo, j, none⟩ = some (.string x)) ∧ Below n w wr) (fun _ _ j _ => 5 - (intOf j).toNat)
  case atStart => exact ⟨0, Nat.zero_le _, rfl, hz5, hbox5, HPC.out, HWC.out, hB5⟩
  case round =>
    obtain ⟨k, hk, rfl, hzr, hboxr, hpr, hwr, hBr⟩ := hrel
    by_cases hlt : k < 5
    · obtain ⟨wk, hwk⟩ := get_some (show k < opsW.length from hlt)
      have hcw := hwr k ⟨wk.toArray⟩ (ops_cell hwk)
      have p2 := hpr 2 x2 rfl
      have hks := Lib.hid (idxTo_succ x2 hwk)
      have hki : (k : Int) < 5 := by omega
      have hk0 : (0 : Int) ≤ (k : Int) := by omega
      obtain ⟨c0, c1, c2, c3, c4, c5, c6⟩ := hzr.cells
      have cf := hzr.frozen 2
      have HWR := Lib.hid hwr
      have HPR := Lib.hid hpr
      clear hwr hwk hpr c0 c1 c3 c4 c5 c6
      by_cases hwx : wk = x2
      · have t3 : (wk == x2) = true := by rw [hwx]; exact beq_self_eq_true _
        have hwx' := Lib.hid hwx
        clear hwx
        go_wp2_with fail
        go_roundw
        case rel => exact ⟨k + 1, by omega, by go_num, by rw [hks.out, if_pos hwx'.out]; exact hzr.setQ k, hboxr.other nb 2 _ hnz.2.1, HPR.out.set nb 2 _ hnz.1, lit_set HWR.out nb 2 _ hbon, below_set1 hBr nb 2 hnz.2.2.1 _⟩
        case measure => simp [intOf]; omega
      · have t3 : (wk == x2) = false := by rw [beq_eq_false_iff_ne]; exact hwx
        have hwx' := Lib.hid hwx
        clear hwx
        go_wp2_with fail
        go_roundw
        case rel => exact ⟨k + 1, by omega, by go_num, by rw [hks.out, if_neg hwx'.out]; exact hzr, hboxr, HPR.out, HWR.out, hBr⟩
        case measure => simp [intOf]; omega
    · have hk10 : k = 5 := by omega
      subst hk10
      rw [idxTo_ops] at hzr
      have HPR := Lib.hid hpr
      clear hwr HWC HPC hz5 hbox5 hB5 hpr hbon
      go_wp2_with fail
      refine (rcodes_any _).mono ?_
      rintro e w6 ⟨bv, rfl, hwc, hbo, _, hb6⟩
      have hz6 := hzr.kept hb6
      have hbox6 := hboxr.kept hb6
      have hB6 := hBr.trans (hb6.mono (by have := hBr.size; rw [hn] at this; exact this))
      have hpc6 := HPR.out.below hb6
      have hbvn : bv ≠ nb := by have := hzr.lt; omega
      have HWC := Lib.hid hwc
      have HPC := Lib.hid hpc6
      clear hwc hb6 hzr hboxr hBr hpc6 hbo HPR
      go_wp2_with fail
      go_loopw [8, 9, 48] (fun _ _ j wr => ∃ k : Nat, k ≤ 4 ∧ j = .int .i64 k ∧ ClBox wr nb ⟨digNV x0, digNV x1, idxW opsW x2, [], idxTo codesW x5 k, digNV x3, -1⟩ none 0 ∧ ClBox wr n cl0 none 0 ∧ PcC wr pb (x0 :: x1 :: x2 :: x3 :: x4 :: x5 :: t) ∧ (∀ (j : Nat) x, codesB[j]? = some x → wr.cell? ⟨bv, j, none⟩ = some (.string x)) ∧ Below n w wr) (fun _ _ j _ => 4 - (intOf j).toNat)
      case atStart => exact ⟨0, Nat.zero_le _, rfl, hz6, hbox6, HPC.out, HWC.out, hB6⟩
      case round =>
        obtain ⟨k, hk, rfl, hzr, hboxr, hpr, hwr, hBr⟩ := hrel
        by_cases hlt : k < 4
        · obtain ⟨wk, hwk⟩ := get_some (show k < codesW.length from hlt)
          have hcw := hwr k ⟨wk.toArray⟩ (codes_cell hwk)
          have p5 := hpr 5 x5 rfl
          have hks := Lib.hid (idxTo_succ x5 hwk)
          have hki : (k : Int) < 4 := by omega
          have hk0 : (0 : Int) ≤ (k : Int) := by omega
          obtain ⟨c0, c1, c2, c3, c4, c5, c6⟩ := hzr.cells
          have cf := hzr.frozen 4
          have HWR := Lib.hid hwr
          have HPR := Lib.hid hpr
          clear hwr hwk hpr c0 c1 c3 c2 c5 c6
          by_cases hwx : wk = x5
          · have t3 : (wk == x5) = true := by rw [hwx]; exact beq_self_eq_true _
            have hwx' := Lib.hid hwx
            clear hwx
            go_wp2_with fail
            go_roundw
            case rel => exact ⟨k + 1, by omega, by go_num, by rw [hks.out, if_pos hwx'.out]; exact hzr.setC k, hboxr.other nb 4 _ hnz.2.1, HPR.out.set nb 4 _ hnz.1, lit_set HWR.out nb 4 _ hbvn, below_set1 hBr nb 4 hnz.2.2.1 _⟩
            case measure => simp [intOf]; omega
          · have t3 : (wk == x5) = false := by rw [beq_eq_false_iff_ne]; exact hwx
            have hwx' := Lib.hid hwx
            clear hwx
            go_wp2_with fail
            go_roundw
            case rel => exact ⟨k + 1, by omega, by go_num, by rw [hks.out, if_neg hwx'.out]; exact hzr, hboxr, HPR.out, HWR.out, hBr⟩
            case measure => simp [intOf]; omega
        · have hk10 : k = 4 := by omega
          subst hk10
          rw [idxTo_codes] at hzr
          have p4 := hpr 4 x4 rfl
          have HPR := Lib.hid hpr
          clear hwr HWC HPC hz6 hbox6 hB6 hpr hbvn
          by_cases h45 : x4 = [45]
          · have t2 : (x4 == [45]) = true := by rw [h45]; rfl
            have h45' := Lib.hid h45
            clear h45
            go_wp2_with fail
            clear p4
            · skip
              have hln : nb + 1 ≤ wr.heap.size := hzr.lt
              have HPR5 := HPR
              clear hln
              go_loopw [11, 73] (fun _ j wr => ∃ k : Nat, k ≤ t.length ∧ j = .int .i64 k ∧ (∃ Av cv, ClBox wr nb ⟨digNV x0, digNV x1, idxW opsW x2, (t.take k).map rnum, idxW codesW x5, digNV x3, -1⟩ Av cv ∧ Own (ints .u32) 22 (nb + 1) wr (.slice Av ((t.take k).map rnum).length cv) ((t.take k).map rnum)) ∧ ClBox wr n cl0 none 0 ∧ PcC wr pb (x0 :: x1 :: x2 :: x3 :: x4 :: x5 :: t) ∧ Below n w wr) (fun _ j _ => t.length - (intOf j).toNat)
              case atStart => exact ⟨0, Nat.zero_le _, rfl, ⟨none, 0, hzr, Own.nil _ _⟩, hboxr, HPR.out, hBr⟩
              case round =>
                clear hzr hboxr hBr HPR5 HPR
                obtain ⟨k, hk, rfl, ⟨Av, cv, hzr, hown⟩, hboxr, hpr, hBr⟩ := hrel
                have HPR := Lib.hid hpr
                by_cases hlt : k < t.length
                · exfalso
                  have := HMT.out
                  omega
                · have htt : t.take k = t := take_all hlt
                  rw [htt] at hzr hown
                  obtain ⟨L, hL⟩ : ∃ L, t.map rnum = L := ⟨_, rfl⟩
                  have hf := (ownW_rnum hown).far
                  rw [hL] at hzr hown hf
                  obtain ⟨A', c', he, hf⟩ := hf
                  injection he with e1 e2 e3
                  subst e1 e3
                  obtain ⟨c0, c1, c2, c3, c4, c5, c6⟩ := hzr.cells
                  simp only at c0 c1 c2 c3 c4 c5 c6
                  have hone := rone_any ⟨digNV x0, digNV x1, idxW opsW x2, L, idxW codesW x5, digNV x3, -1⟩ Av cv wr
                  unfold clV at hone
                  simp only at hone
                  have hkm : ¬ (k : Int) < (M : Int) - 6 := by have := HMT.out; omega
                  have hkm2 : ¬ k < M - 6 := by have := HMT.out; omega
                  clear hpr HPR hown e2 htt
                  rcases hok : clB ⟨digNV x0, digNV x1, idxW opsW x2, L, idxW codesW x5, digNV x3, -1⟩ with _ | _
                  · rw [hok] at hone
                    have hno := Lib.hid (hno'.out (fun h => by rw [if_pos h45'.out, hL] at h; rw [hok] at h; cases h.1))
                    have hone' := Lib.hid hone
                    clear hone hok
                    go_wp2_with fail
                    refine hone'.out.mono ?_
                    rintro e w7 ⟨rfl, hb7⟩
                    have hbox7 := hboxr.kept hb7
                    have hB7 := hBr.trans (hb7.mono (by have := hBr.size; rw [hn] at this; exact this))
                    obtain ⟨d0, d1, d2, d3, d4, d5, d6⟩ := hbox7.cells
                    have df0 := hbox7.frozen 0
                    have df1 := hbox7.frozen 1
                    have df2 := hbox7.frozen 2
                    have df3 := hbox7.frozen 3
                    have df4 := hbox7.frozen 4
                    have df5 := hbox7.frozen 5
                    have df6 := hbox7.frozen 6
                    go_wp2_with fail
                    refine bodyPost_ret (res_rread _ _ rfl rfl (hbox7.set7 cl0 none 0)) rfl ?_
                    exact ⟨⟨none, 0, by rw [hno.out.1, hno.out.2], by rw [hno.out.1]; exact WsF.nil _ _ _ (fun b o e => by cases e)⟩, by rw [hn]; exact below_set7 hB7 n (Nat.le_refl _) _ _ _ _ _ _ _⟩
                  · rw [hok] at hone
                    have hone' := Lib.hid hone
                    have hln := fun (W : World) (hW : Below wr.heap.size wr W) => rhline_any ⟨digNV x0, digNV x1, idxW opsW x2, L, idxW codesW x5, digNV x3, -1⟩ Av cv W hok (hf.below hW).1
                    obtain ⟨LS, hLS⟩ : ∃ x, lineHS ⟨digNV x0, digNV x1, idxW opsW x2, L, idxW codesW x5, digNV x3, -1⟩ = x := ⟨_, rfl⟩
                    rw [hLS] at hln
                    unfold clV at hln
                    simp only at hln
                    have hln' := Lib.hid hln
                    clear hone hln
                    go_wp2_with fail
                    refine hone'.out.mono ?_
                    rintro e w7 ⟨rfl, hb7⟩
                    have hbox7 := hboxr.kept hb7
                    have hz7 := hzr.kept hb7
                    have hf7 := hf.below hb7
                    have hB7 := hBr.trans (hb7.mono (by have := hBr.size; rw [hn] at this; exact this))
                    clear c0 c1 c2 c3 c4 c5 c6
                    obtain ⟨c0, c1, c2, c3, c4, c5, c6⟩ := hz7.cells
                    simp only at c0 c1 c2 c3 c4 c5 c6
                    by_cases hls : lineH ⟨digNV x0, digNV x1, idxW opsW x2, L, idxW codesW x5, digNV x3, -1⟩ = l
                    · have hst : (LS.toList == s.toList) = true := by rw [← hLS, ByteArray.toList_eq, ByteArray.toList_eq, hl'.out]; simp [lineHS, hls]
                      have hyy := Lib.hid (hyes'.out (by rw [if_pos h45'.out, hL]; exact ⟨hok, hls⟩))
                      rw [if_pos h45'.out, hL] at hyy
                      clear hok hls hLS
                      go_wp2_with fail
                      refine (hln'.out _ hb7).mono ?_
                      rintro e w8 ⟨rfl, hb8⟩
                      have hbox8 := hbox7.kept hb8
                      have hz8 := hz7.kept hb8
                      have hf8 := hf7.below hb8
                      have hB8 := hB7.trans (hb8.mono (by have := hB7.size; rw [hn] at this; exact this))
                      clear c0 c1 c2 c3 c4 c5 c6
                      obtain ⟨c0, c1, c2, c3, c4, c5, c6⟩ := hz8.cells
                      simp only at c0 c1 c2 c3 c4 c5 c6
                      obtain ⟨d0, d1, d2, d3, d4, d5, d6⟩ := hbox8.cells
                      have df0 := hbox8.frozen 0
                      have df1 := hbox8.frozen 1
                      have df2 := hbox8.frozen 2
                      have df3 := hbox8.frozen 3
                      have df4 := hbox8.frozen 4
                      have df5 := hbox8.frozen 5
                      have df6 := hbox8.frozen 6
                      go_wp2_with fail
                      refine bodyPost_ret (res_rread _ _ rfl rfl (hbox8.set7 ⟨digNV x0, digNV x1, idxW opsW x2, L, idxW codesW x5, digNV x3, -1⟩ Av cv)) rfl ?_
                      exact ⟨⟨Av, cv, by rw [hyy.out.1, hyy.out.2], by rw [hyy.out.1]; exact (hf8.set7 n _ _ _ _ _ _ _ (by omega)).mono (by omega)⟩, by rw [hn]; exact below_set7 hB8 n (Nat.le_refl _) _ _ _ _ _ _ _⟩
                    · have hst : (LS.toList == s.toList) = false := by
                        rw [beq_eq_false_iff_ne, ← hLS, ByteArray.toList_eq, ByteArray.toList_eq, hl'.out]
                        simpa [lineHS] using hls
                      have hno := Lib.hid (hno'.out (fun h => by rw [if_pos h45'.out, hL] at h; exact hls h.2))
                      clear hok hls hLS
                      go_wp2_with fail
                      refine (hln'.out _ hb7).mono ?_
                      rintro e w8 ⟨rfl, hb8⟩
                      have hbox8 := hbox7.kept hb8
                      have hB8 := hB7.trans (hb8.mono (by have := hB7.size; rw [hn] at this; exact this))
                      obtain ⟨d0, d1, d2, d3, d4, d5, d6⟩ := hbox8.cells
                      have df0 := hbox8.frozen 0
                      have df1 := hbox8.frozen 1
                      have df2 := hbox8.frozen 2
                      have df3 := hbox8.frozen 3
                      have df4 := hbox8.frozen 4
                      have df5 := hbox8.frozen 5
                      have df6 := hbox8.frozen 6
                      go_wp2_with fail
                      refine bodyPost_ret (res_rread _ _ rfl rfl (hbox8.set7 cl0 none 0)) rfl ?_
                      exact ⟨⟨none, 0, by rw [hno.out.1, hno.out.2], by rw [hno.out.1]; exact WsF.nil _ _ _ (fun b o e => by cases e)⟩, by rw [hn]; exact below_set7 hB8 n (Nat.le_refl _) _ _ _ _ _ _ _⟩
            · skip
              have hln : nb + 1 ≤ wr.heap.size := hzr.lt
              have HPR5 := HPR
              clear hln
              go_loopw [11, 73] (fun _ j wr => ∃ k : Nat, k ≤ t.length ∧ j = .int .i64 k ∧ (∃ Av cv, ClBox wr nb ⟨digNV x0, digNV x1, idxW opsW x2, (t.take k).map rnum, idxW codesW x5, digNV x3, -1⟩ Av cv ∧ Own (ints .u32) 22 (nb + 1) wr (.slice Av ((t.take k).map rnum).length cv) ((t.take k).map rnum)) ∧ ClBox wr n cl0 none 0 ∧ PcC wr pb (x0 :: x1 :: x2 :: x3 :: x4 :: x5 :: t) ∧ Below n w wr) (fun _ j _ => t.length - (intOf j).toNat)
              case atStart => exact ⟨0, Nat.zero_le _, rfl, ⟨none, 0, hzr, Own.nil _ _⟩, hboxr, HPR.out, hBr⟩
              case round =>
                clear hzr hboxr hBr HPR5 HPR
                obtain ⟨k, hk, rfl, ⟨Av, cv, hzr, hown⟩, hboxr, hpr, hBr⟩ := hrel
                have HPR := Lib.hid hpr
                by_cases hlt : k < t.length
                · obtain ⟨x, hx⟩ := get_some hlt
                  have hpx := hpr (k + 6) x (by simpa using hx)
                  have hpx' := hpx
                  rw [Nat.add_comm] at hpx'
                  have hxl := HYT.out x (List.mem_of_getElem? hx)
                  have htk := show (t.take (k + 1)).map rnum = (t.take k).map rnum ++ [rnum x] by rw [take_snoc hx, List.map_append]; rfl
                  have hlk := show ((t.take k).map rnum).length = k by simp; omega
                  obtain ⟨Lk, hLk⟩ : ∃ Lk, (t.take k).map rnum = Lk := ⟨_, rfl⟩
                  obtain ⟨L1, hL1⟩ : ∃ L1, (t.take (k + 1)).map rnum = L1 := ⟨_, rfl⟩
                  rw [hLk] at hzr hown htk hlk
                  rw [hL1] at htk
                  replace htk := Lib.hid htk
                  replace hlk := Lib.hid hlk
                  replace hL1 := Lib.hid hL1
                  clear hLk
                  have hkm : (k : Int) < (M : Int) - 6 := by have := HMT.out; omega
                  have hkm2 : k < M - 6 := by have := HMT.out; omega
                  have hk0 : (0 : Int) ≤ (k : Int) := by omega
                  obtain ⟨c0, c1, c2, c3, c4, c5, c6⟩ := hzr.cells
                  simp only at c3
                  clear hx hpr c0 c1 c2 c4 c5 c6
                  go_wp2_with fail
                  refine wp_region_held_drew (S := fun w' => Below nb wr w') (by kernel_rfl) ((Below.refl nb wr).drew) (fun hHeld => ?_)
                  have hzr := hzr.kept ((Below.refl _ wr).drew)
                  have hown := hown.below ((Below.refl _ wr).drew) (Nat.le_refl _)
                  have hboxr := hboxr.kept ((Below.refl _ wr).drew)
                  have HPR := Lib.hid (HPR.out.below ((Below.refl _ wr).drew))
                  have hBr := hBr.trans ((Below.refl wr.heap.size wr).drew.mono (by have := hBr.size; rw [hn] at this; exact this))
                  have c3 := (((Below.refl wr.heap.size wr).drew).cell (p := ⟨nb, 3, none⟩) (cell_lt c3)).trans c3
                  generalize hwd : wr.drew = wd at hHeld hzr hown hboxr HPR hBr c3 ⊢
                  clear hwd
                  refine wpAnyH_take (i := 0) (oi := ?_) (v := ?_) ?_ (by kernel_rfl) (by kernel_rfl) (by kernel_rfl) ?_ (Or.inl ⟨?_, ?_⟩) (by assumption) ?_
                  rotate_left 2
                  · (simp only [List.getElem?_toArray, List.getElem?_cons_zero]; rfl)
                  · first | exact fun _ _ _ h => h | exact fun _ _ _ h => by cases h.1
                  · rfl
                  · ((intro wq hSq; (try dsimp only at hSq); go_simp); (try with_reducible rfl))
                  try simp only [Act.put, List.setIfInBounds_toArray, List.set_cons_zero, List.set_cons_succ]
                  refine wpAnyH_take (i := 2) (oi := ?_) (v := ?_) ?_ (by kernel_rfl) (by kernel_rfl) (by kernel_rfl) ?_ (Or.inl ⟨?_, ?_⟩) (by assumption) ?_
                  rotate_left 2
                  · (simp only [List.getElem?_toArray, List.getElem?_cons_succ, List.getElem?_cons_zero]; rfl)
                  · first | exact fun _ _ _ h => h | exact fun _ _ _ h => by cases h.1
                  · rfl
                  · ((intro wq hSq; (try dsimp only at hSq); go_simp); (try with_reducible rfl))
                  try simp only [Act.put, List.setIfInBounds_toArray, List.set_cons_zero, List.set_cons_succ]
                  refine wpAnyH_ready (rs := [1, 3]) (by kernel_rfl) (by simp) ?_
                  refine AllReadyH.cons (o := ?_) ?_ (fun K hK => ?_) ?_
                  rotate_left
                  · (simp only [List.getElem?_toArray, List.getElem?_cons_succ, List.getElem?_cons_zero]; rfl)
                  · go_simp
                    refine hK.out _ _ hHeld (fun hHeld => ?_)
                    clear hK K
                    try simp only [Act.put, List.setIfInBounds_toArray, List.set_cons_zero, List.set_cons_succ]
                    refine wpAnyH_ready (rs := [3]) (by kernel_rfl) (by simp) ?_
                    refine AllReadyH.cons (o := ?_) ?_ (fun K hK => ?_) AllReadyH.nil
                    rotate_left
                    · (simp only [List.getElem?_toArray, List.getElem?_cons_succ, List.getElem?_cons_zero]; rfl)
                    go_simp
                    go_at_call 44
                    refine (rd9A _ _ hxl).mono ?_
                    rintro e wx ⟨rfl, hbx⟩
                    have hzx := hzr.kept hbx
                    have hownx := hown.below hbx (Nat.le_refl _)
                    have hboxx := hboxr.kept hbx
                    have hprx := HPR.out.below hbx
                    have hBx := hBr.trans (hbx.mono (by have := hBr.size; rw [hn] at this; exact this))
                    have hcx := (hbx.cell (p := ⟨nb, 3, none⟩) (cell_lt c3)).trans c3
                    have hSx : Below nb wr wx := hHeld.trans (hbx.mono (by have := hHeld.size; have := hzr.lt; omega))
                    refine hK.out _ _ hSx (fun hHeld => ?_)
                    clear hK K
                    try simp only [Act.put, List.setIfInBounds_toArray, List.set_cons_zero, List.set_cons_succ]
                    refine wpAnyH_ready (rs := [4]) (by kernel_rfl) (by simp) ?_
                    refine AllReadyH.cons (o := ?_) ?_ (fun K hK => ?_) AllReadyH.nil
                    rotate_left
                    · (simp only [List.getElem?_toArray, List.getElem?_cons_succ, List.getElem?_cons_zero]; rfl)
                    go_simp
                    have hzy := hzx.kept ((Below.refl _ wx).alloc (Nat.le_refl _) (.cells #[.int .u32 (rnum x)] 22))
                    have hcy := (((Below.refl _ wx).alloc (Nat.le_refl _) (.cells #[.int .u32 (rnum x)] 22)).cell (p := ⟨nb, 3, none⟩) (cell_lt hcx)).trans hcx
                    have hSx : Below nb wr (wx.alloc (.cells #[.int .u32 (rnum x)] 22)) := hHeld.alloc (by have := hzx.lt; omega) _
                    refine hK.out _ _ hSx (fun hHeld => ?_)
                    clear hK K
                    try simp only [Act.put, List.setIfInBounds_toArray, List.set_cons_zero, List.set_cons_succ]
                    refine wpAnyH_ready (rs := [5]) (by kernel_rfl) (by simp) ?_
                    refine AllReadyH.cons (o := ?_) ?_ (fun K hK => ?_) AllReadyH.nil
                    rotate_left
                    · (simp only [List.getElem?_toArray, List.getElem?_cons_succ, List.getElem?_cons_zero]; rfl)
                    refine step_app (by rfl) (.tmp 78) (.tmp 81) 43 (by rfl) u32Ty (nb + 1) (hownx.alloc _) (by rfl) (cells_new' wx [.int .u32 (rnum x)] _ _ rfl) (by rfl) (by rfl) (by simp [Value.oneCell']) (by rw [hlk.out]; unfold maxLen; omega) (by rw [hlk.out]; omega) (by have := hzy.lt; omega) ?_
                    intro v' w9 hown9 hb9 _
                    have hown9' : Own (ints .u32) 22 (nb + 1) w9 v' L1 := by rw [htk.out]; exact Own.app hown9 rfl
                    obtain ⟨A9, c9, rfl, _, _, _⟩ := hown9'.sl
                    have hz9 := hzy.below hb9 (Nat.lt_succ_self nb)
                    have hSx : Below nb wr w9 := hHeld.trans (hb9.mono (Nat.le_succ nb))
                    obtain ⟨g0, g1, g2, g3, g4, g5, g6⟩ := hz9.cells
                    have g7 := hz9.frozen 3
                    refine hK.out _ _ hSx (fun hHeld => ?_)
                    clear hK K
                    try simp only [Act.put, List.setIfInBounds_toArray, List.set_cons_zero, List.set_cons_succ]
                    refine wpAnyH_take (i := 6) (oi := ?_) (v := ?_) ?_ (by kernel_rfl) (by kernel_rfl) (by kernel_rfl) ?_ (Or.inl ⟨?_, ?_⟩) (by assumption) ?_
                    rotate_left 2
                    · (simp only [List.getElem?_toArray, List.getElem?_cons_succ, List.getElem?_cons_zero]; rfl)
                    · first | exact fun _ _ _ h => h | exact fun _ _ _ h => by cases h.1
                    · rfl
                    · ((intro wq hSq; (try dsimp only at hSq); go_simp); (try with_reducible rfl))
                    try simp only [Act.put, List.setIfInBounds_toArray, List.set_cons_zero, List.set_cons_succ]
                    refine wpAnyH_ready (rs := [7]) (by kernel_rfl) (by simp) ?_
                    refine AllReadyH.cons (o := ?_) ?_ (fun K hK => ?_) AllReadyH.nil
                    rotate_left
                    · (simp only [List.getElem?_toArray, List.getElem?_cons_succ, List.getElem?_cons_zero]; rfl)
                    go_simp
                    have hSx : Below nb wr (w9.setCell ⟨nb, 3, none⟩ (.slice A9 L1.length c9)) := below_set1 hHeld nb 3 (Nat.le_refl _) _
                    refine hK.out _ _ hSx (fun hHeld => ?_)
                    clear hK K
                    try simp only [Act.put, List.setIfInBounds_toArray, List.set_cons_zero, List.set_cons_succ]
                    refine wpAnyH_done (by kernel_rfl) ?_ _
                    have hz10 := hz9.setR L1 A9 c9
                    have hown10 := hown9'.set nb 3 (.slice A9 L1.length c9) (Nat.lt_succ_self nb)
                    have hb10 := (((Below.refl _ wx).alloc (Nat.le_refl _) (.cells #[.int .u32 (rnum x)] 22)).mono (by have := hzx.lt; omega : nb + 1 ≤ wx.heap.size)).trans hb9
                    have hbox10 := (hboxx.below hb10 (by omega)).other nb 3 (.slice A9 L1.length c9) hnz.2.1
                    have hpr10 := (hprx.from hb10 (by omega)).set nb 3 (.slice A9 L1.length c9) hnz.1
                    have hB10 := below_set1 (hBx.trans (hb10.mono (by omega))) nb 3 hnz.2.2.1 (.slice A9 L1.length c9)
                    clear c3 hpx hpx' hcx hzx hzy hcy hz9 hown9 hown9' hprx hboxx hbx hb9 hb10 hBx hownx hzr hown hboxr HPR hBr g0 g1 g2 g3 g4 g5 g6 g7
                    go_wp2_with fail
                    go_roundw
                    case rel => exact ⟨k + 1, by omega, by go_num, ⟨A9, c9, by rw [hL1.out]; exact hz10, by rw [hL1.out]; exact hown10⟩, hbox10, hpr10, hB10⟩
                    case measure => simp [intOf]; omega
                  · refine AllReadyH.cons (o := ?_) ?_ (fun K hK => ?_) AllReadyH.nil
                    rotate_left
                    · (simp only [List.getElem?_toArray, List.getElem?_cons_succ, List.getElem?_cons_zero]; rfl)
                    go_simp
                    go_at_call 44
                    refine (rd9A _ _ hxl).mono ?_
                    rintro e wx ⟨rfl, hbx⟩
                    have hzx := hzr.kept hbx
                    have hownx := hown.below hbx (Nat.le_refl _)
                    have hboxx := hboxr.kept hbx
                    have hprx := HPR.out.below hbx
                    have hBx := hBr.trans (hbx.mono (by have := hBr.size; rw [hn] at this; exact this))
                    have hcx := (hbx.cell (p := ⟨nb, 3, none⟩) (cell_lt c3)).trans c3
                    have hSx : Below nb wr wx := hHeld.trans (hbx.mono (by have := hHeld.size; have := hzr.lt; omega))
                    refine hK.out _ _ hSx (fun hHeld => ?_)
                    clear hK K
                    try simp only [Act.put, List.setIfInBounds_toArray, List.set_cons_zero, List.set_cons_succ]
                    refine wpAnyH_ready (rs := [1, 4]) (by kernel_rfl) (by simp) ?_
                    refine AllReadyH.cons (o := ?_) ?_ (fun K hK => ?_) ?_
                    rotate_left
                    · (simp only [List.getElem?_toArray, List.getElem?_cons_succ, List.getElem?_cons_zero]; rfl)
                    · go_simp
                      refine hK.out _ _ hHeld (fun hHeld => ?_)
                      clear hK K
                      try simp only [Act.put, List.setIfInBounds_toArray, List.set_cons_zero, List.set_cons_succ]
                      refine wpAnyH_ready (rs := [4]) (by kernel_rfl) (by simp) ?_
                      refine AllReadyH.cons (o := ?_) ?_ (fun K hK => ?_) AllReadyH.nil
                      rotate_left
                      · (simp only [List.getElem?_toArray, List.getElem?_cons_succ, List.getElem?_cons_zero]; rfl)
                      go_simp
                      have hzy := hzx.kept ((Below.refl _ wx).alloc (Nat.le_refl _) (.cells #[.int .u32 (rnum x)] 22))
                      have hcy := (((Below.refl _ wx).alloc (Nat.le_refl _) (.cells #[.int .u32 (rnum x)] 22)).cell (p := ⟨nb, 3, none⟩) (cell_lt hcx)).trans hcx
                      have hSx : Below nb wr (wx.alloc (.cells #[.int .u32 (rnum x)] 22)) := hHeld.alloc (by have := hzx.lt; omega) _
                      refine hK.out _ _ hSx (fun hHeld => ?_)
                      clear hK K
                      try simp only [Act.put, List.setIfInBounds_toArray, List.set_cons_zero, List.set_cons_succ]
                      refine wpAnyH_ready (rs := [5]) (by kernel_rfl) (by simp) ?_
                      refine AllReadyH.cons (o := ?_) ?_ (fun K hK => ?_) AllReadyH.nil
                      rotate_left
                      · (simp only [List.getElem?_toArray, List.getElem?_cons_succ, List.getElem?_cons_zero]; rfl)
                      refine step_app (by rfl) (.tmp 78) (.tmp 81) 43 (by rfl) u32Ty (nb + 1) (hownx.alloc _) (by rfl) (cells_new' wx [.int .u32 (rnum x)] _ _ rfl) (by rfl) (by rfl) (by simp [Value.oneCell']) (by rw [hlk.out]; unfold maxLen; omega) (by rw [hlk.out]; omega) (by have := hzy.lt; omega) ?_
                      intro v' w9 hown9 hb9 _
                      have hown9' : Own (ints .u32) 22 (nb + 1) w9 v' L1 := by rw [htk.out]; exact Own.app hown9 rfl
                      obtain ⟨A9, c9, rfl, _, _, _⟩ := hown9'.sl
                      have hz9 := hzy.below hb9 (Nat.lt_succ_self nb)
                      have hSx : Below nb wr w9 := hHeld.trans (hb9.mono (Nat.le_succ nb))
                      obtain ⟨g0, g1, g2, g3, g4, g5, g6⟩ := hz9.cells
                      have g7 := hz9.frozen 3
                      refine hK.out _ _ hSx (fun hHeld => ?_)
                      clear hK K
                      try simp only [Act.put, List.setIfInBounds_toArray, List.set_cons_zero, List.set_cons_succ]
                      refine wpAnyH_take (i := 6) (oi := ?_) (v := ?_) ?_ (by kernel_rfl) (by kernel_rfl) (by kernel_rfl) ?_ (Or.inl ⟨?_, ?_⟩) (by assumption) ?_
                      rotate_left 2
                      · (simp only [List.getElem?_toArray, List.getElem?_cons_succ, List.getElem?_cons_zero]; rfl)
                      · first | exact fun _ _ _ h => h | exact fun _ _ _ h => by cases h.1
                      · rfl
                      · ((intro wq hSq; (try dsimp only at hSq); go_simp); (try with_reducible rfl))
                      try simp only [Act.put, List.setIfInBounds_toArray, List.set_cons_zero, List.set_cons_succ]
                      refine wpAnyH_ready (rs := [7]) (by kernel_rfl) (by simp) ?_
                      refine AllReadyH.cons (o := ?_) ?_ (fun K hK => ?_) AllReadyH.nil
                      rotate_left
                      · (simp only [List.getElem?_toArray, List.getElem?_cons_succ, List.getElem?_cons_zero]; rfl)
                      go_simp
                      have hSx : Below nb wr (w9.setCell ⟨nb, 3, none⟩ (.slice A9 L1.length c9)) := below_set1 hHeld nb 3 (Nat.le_refl _) _
                      refine hK.out _ _ hSx (fun hHeld => ?_)
                      clear hK K
                      try simp only [Act.put, List.setIfInBounds_toArray, List.set_cons_zero, List.set_cons_succ]
                      refine wpAnyH_done (by kernel_rfl) ?_ _
                      have hz10 := hz9.setR L1 A9 c9
                      have hown10 := hown9'.set nb 3 (.slice A9 L1.length c9) (Nat.lt_succ_self nb)
                      have hb10 := (((Below.refl _ wx).alloc (Nat.le_refl _) (.cells #[.int .u32 (rnum x)] 22)).mono (by have := hzx.lt; omega : nb + 1 ≤ wx.heap.size)).trans hb9
                      have hbox10 := (hboxx.below hb10 (by omega)).other nb 3 (.slice A9 L1.length c9) hnz.2.1
                      have hpr10 := (hprx.from hb10 (by omega)).set nb 3 (.slice A9 L1.length c9) hnz.1
                      have hB10 := below_set1 (hBx.trans (hb10.mono (by omega))) nb 3 hnz.2.2.1 (.slice A9 L1.length c9)
                      clear c3 hpx hpx' hcx hzx hzy hcy hz9 hown9 hown9' hprx hboxx hbx hb9 hb10 hBx hownx hzr hown hboxr HPR hBr g0 g1 g2 g3 g4 g5 g6 g7
                      go_wp2_with fail
                      go_roundw
                      case rel => exact ⟨k + 1, by omega, by go_num, ⟨A9, c9, by rw [hL1.out]; exact hz10, by rw [hL1.out]; exact hown10⟩, hbox10, hpr10, hB10⟩
                      case measure => simp [intOf]; omega
                    · refine AllReadyH.cons (o := ?_) ?_ (fun K hK => ?_) AllReadyH.nil
                      rotate_left
                      · (simp only [List.getElem?_toArray, List.getElem?_cons_succ, List.getElem?_cons_zero]; rfl)
                      go_simp
                      have hzy := hzx.kept ((Below.refl _ wx).alloc (Nat.le_refl _) (.cells #[.int .u32 (rnum x)] 22))
                      have hcy := (((Below.refl _ wx).alloc (Nat.le_refl _) (.cells #[.int .u32 (rnum x)] 22)).cell (p := ⟨nb, 3, none⟩) (cell_lt hcx)).trans hcx
                      have hSx : Below nb wr (wx.alloc (.cells #[.int .u32 (rnum x)] 22)) := hHeld.alloc (by have := hzx.lt; omega) _
                      refine hK.out _ _ hSx (fun hHeld => ?_)
                      clear hK K
                      try simp only [Act.put, List.setIfInBounds_toArray, List.set_cons_zero, List.set_cons_succ]
                      refine wpAnyH_ready (rs := [1]) (by kernel_rfl) (by simp) ?_
                      refine AllReadyH.cons (o := ?_) ?_ (fun K hK => ?_) AllReadyH.nil
                      rotate_left
                      · (simp only [List.getElem?_toArray, List.getElem?_cons_succ, List.getElem?_cons_zero]; rfl)
                      go_simp
                      refine hK.out _ _ hHeld (fun hHeld => ?_)
                      clear hK K
                      try simp only [Act.put, List.setIfInBounds_toArray, List.set_cons_zero, List.set_cons_succ]
                      refine wpAnyH_ready (rs := [5]) (by kernel_rfl) (by simp) ?_
                      refine AllReadyH.cons (o := ?_) ?_ (fun K hK => ?_) AllReadyH.nil
                      rotate_left
                      · (simp only [List.getElem?_toArray, List.getElem?_cons_succ, List.getElem?_cons_zero]; rfl)
                      refine step_app (by rfl) (.tmp 78) (.tmp 81) 43 (by rfl) u32Ty (nb + 1) (hownx.alloc _) (by rfl) (cells_new' wx [.int .u32 (rnum x)] _ _ rfl) (by rfl) (by rfl) (by simp [Value.oneCell']) (by rw [hlk.out]; unfold maxLen; omega) (by rw [hlk.out]; omega) (by have := hzy.lt; omega) ?_
                      intro v' w9 hown9 hb9 _
                      have hown9' : Own (ints .u32) 22 (nb + 1) w9 v' L1 := by rw [htk.out]; exact Own.app hown9 rfl
                      obtain ⟨A9, c9, rfl, _, _, _⟩ := hown9'.sl
                      have hz9 := hzy.below hb9 (Nat.lt_succ_self nb)
                      have hSx : Below nb wr w9 := hHeld.trans (hb9.mono (Nat.le_succ nb))
                      obtain ⟨g0, g1, g2, g3, g4, g5, g6⟩ := hz9.cells
                      have g7 := hz9.frozen 3
                      refine hK.out _ _ hSx (fun hHeld => ?_)
                      clear hK K
                      try simp only [Act.put, List.setIfInBounds_toArray, List.set_cons_zero, List.set_cons_succ]
                      refine wpAnyH_take (i := 6) (oi := ?_) (v := ?_) ?_ (by kernel_rfl) (by kernel_rfl) (by kernel_rfl) ?_ (Or.inl ⟨?_, ?_⟩) (by assumption) ?_
                      rotate_left 2
                      · (simp only [List.getElem?_toArray, List.getElem?_cons_succ, List.getElem?_cons_zero]; rfl)
                      · first | exact fun _ _ _ h => h | exact fun _ _ _ h => by cases h.1
                      · rfl
                      · ((intro wq hSq; (try dsimp only at hSq); go_simp); (try with_reducible rfl))
                      try simp only [Act.put, List.setIfInBounds_toArray, List.set_cons_zero, List.set_cons_succ]
                      refine wpAnyH_ready (rs := [7]) (by kernel_rfl) (by simp) ?_
                      refine AllReadyH.cons (o := ?_) ?_ (fun K hK => ?_) AllReadyH.nil
                      rotate_left
                      · (simp only [List.getElem?_toArray, List.getElem?_cons_succ, List.getElem?_cons_zero]; rfl)
                      go_simp
                      have hSx : Below nb wr (w9.setCell ⟨nb, 3, none⟩ (.slice A9 L1.length c9)) := below_set1 hHeld nb 3 (Nat.le_refl _) _
                      refine hK.out _ _ hSx (fun hHeld => ?_)
                      clear hK K
                      try simp only [Act.put, List.setIfInBounds_toArray, List.set_cons_zero, List.set_cons_succ]
                      refine wpAnyH_done (by kernel_rfl) ?_ _
                      have hz10 := hz9.setR L1 A9 c9
                      have hown10 := hown9'.set nb 3 (.slice A9 L1.length c9) (Nat.lt_succ_self nb)
                      have hb10 := (((Below.refl _ wx).alloc (Nat.le_refl _) (.cells #[.int .u32 (rnum x)] 22)).mono (by have := hzx.lt; omega : nb + 1 ≤ wx.heap.size)).trans hb9
                      have hbox10 := (hboxx.below hb10 (by omega)).other nb 3 (.slice A9 L1.length c9) hnz.2.1
                      have hpr10 := (hprx.from hb10 (by omega)).set nb 3 (.slice A9 L1.length c9) hnz.1
                      have hB10 := below_set1 (hBx.trans (hb10.mono (by omega))) nb 3 hnz.2.2.1 (.slice A9 L1.length c9)
                      clear c3 hpx hpx' hcx hzx hzy hcy hz9 hown9 hown9' hprx hboxx hbx hb9 hb10 hBx hownx hzr hown hboxr HPR hBr g0 g1 g2 g3 g4 g5 g6 g7
                      go_wp2_with fail
                      go_roundw
                      case rel => exact ⟨k + 1, by omega, by go_num, ⟨A9, c9, by rw [hL1.out]; exact hz10, by rw [hL1.out]; exact hown10⟩, hbox10, hpr10, hB10⟩
                      case measure => simp [intOf]; omega
                · have htt : t.take k = t := take_all hlt
                  rw [htt] at hzr hown
                  obtain ⟨L, hL⟩ : ∃ L, t.map rnum = L := ⟨_, rfl⟩
                  have hf := (ownW_rnum hown).far
                  rw [hL] at hzr hown hf
                  obtain ⟨A', c', he, hf⟩ := hf
                  injection he with e1 e2 e3
                  subst e1 e3
                  obtain ⟨c0, c1, c2, c3, c4, c5, c6⟩ := hzr.cells
                  simp only at c0 c1 c2 c3 c4 c5 c6
                  have hone := rone_any ⟨digNV x0, digNV x1, idxW opsW x2, L, idxW codesW x5, digNV x3, -1⟩ Av cv wr
                  unfold clV at hone
                  simp only at hone
                  have hkm : ¬ (k : Int) < (M : Int) - 6 := by have := HMT.out; omega
                  have hkm2 : ¬ k < M - 6 := by have := HMT.out; omega
                  clear hpr HPR hown e2 htt
                  rcases hok : clB ⟨digNV x0, digNV x1, idxW opsW x2, L, idxW codesW x5, digNV x3, -1⟩ with _ | _
                  · rw [hok] at hone
                    have hno := Lib.hid (hno'.out (fun h => by rw [if_pos h45'.out, hL] at h; rw [hok] at h; cases h.1))
                    have hone' := Lib.hid hone
                    clear hone hok
                    go_wp2_with fail
                    refine hone'.out.mono ?_
                    rintro e w7 ⟨rfl, hb7⟩
                    have hbox7 := hboxr.kept hb7
                    have hB7 := hBr.trans (hb7.mono (by have := hBr.size; rw [hn] at this; exact this))
                    obtain ⟨d0, d1, d2, d3, d4, d5, d6⟩ := hbox7.cells
                    have df0 := hbox7.frozen 0
                    have df1 := hbox7.frozen 1
                    have df2 := hbox7.frozen 2
                    have df3 := hbox7.frozen 3
                    have df4 := hbox7.frozen 4
                    have df5 := hbox7.frozen 5
                    have df6 := hbox7.frozen 6
                    go_wp2_with fail
                    refine bodyPost_ret (res_rread _ _ rfl rfl (hbox7.set7 cl0 none 0)) rfl ?_
                    exact ⟨⟨none, 0, by rw [hno.out.1, hno.out.2], by rw [hno.out.1]; exact WsF.nil _ _ _ (fun b o e => by cases e)⟩, by rw [hn]; exact below_set7 hB7 n (Nat.le_refl _) _ _ _ _ _ _ _⟩
                  · rw [hok] at hone
                    have hone' := Lib.hid hone
                    have hln := fun (W : World) (hW : Below wr.heap.size wr W) => rhline_any ⟨digNV x0, digNV x1, idxW opsW x2, L, idxW codesW x5, digNV x3, -1⟩ Av cv W hok (hf.below hW).1
                    obtain ⟨LS, hLS⟩ : ∃ x, lineHS ⟨digNV x0, digNV x1, idxW opsW x2, L, idxW codesW x5, digNV x3, -1⟩ = x := ⟨_, rfl⟩
                    rw [hLS] at hln
                    unfold clV at hln
                    simp only at hln
                    have hln' := Lib.hid hln
                    clear hone hln
                    go_wp2_with fail
                    refine hone'.out.mono ?_
                    rintro e w7 ⟨rfl, hb7⟩
                    have hbox7 := hboxr.kept hb7
                    have hz7 := hzr.kept hb7
                    have hf7 := hf.below hb7
                    have hB7 := hBr.trans (hb7.mono (by have := hBr.size; rw [hn] at this; exact this))
                    clear c0 c1 c2 c3 c4 c5 c6
                    obtain ⟨c0, c1, c2, c3, c4, c5, c6⟩ := hz7.cells
                    simp only at c0 c1 c2 c3 c4 c5 c6
                    by_cases hls : lineH ⟨digNV x0, digNV x1, idxW opsW x2, L, idxW codesW x5, digNV x3, -1⟩ = l
                    · have hst : (LS.toList == s.toList) = true := by rw [← hLS, ByteArray.toList_eq, ByteArray.toList_eq, hl'.out]; simp [lineHS, hls]
                      have hyy := Lib.hid (hyes'.out (by rw [if_pos h45'.out, hL]; exact ⟨hok, hls⟩))
                      rw [if_pos h45'.out, hL] at hyy
                      clear hok hls hLS
                      go_wp2_with fail
                      refine (hln'.out _ hb7).mono ?_
                      rintro e w8 ⟨rfl, hb8⟩
                      have hbox8 := hbox7.kept hb8
                      have hz8 := hz7.kept hb8
                      have hf8 := hf7.below hb8
                      have hB8 := hB7.trans (hb8.mono (by have := hB7.size; rw [hn] at this; exact this))
                      clear c0 c1 c2 c3 c4 c5 c6
                      obtain ⟨c0, c1, c2, c3, c4, c5, c6⟩ := hz8.cells
                      simp only at c0 c1 c2 c3 c4 c5 c6
                      obtain ⟨d0, d1, d2, d3, d4, d5, d6⟩ := hbox8.cells
                      have df0 := hbox8.frozen 0
                      have df1 := hbox8.frozen 1
                      have df2 := hbox8.frozen 2
                      have df3 := hbox8.frozen 3
                      have df4 := hbox8.frozen 4
                      have df5 := hbox8.frozen 5
                      have df6 := hbox8.frozen 6
                      go_wp2_with fail
                      refine bodyPost_ret (res_rread _ _ rfl rfl (hbox8.set7 ⟨digNV x0, digNV x1, idxW opsW x2, L, idxW codesW x5, digNV x3, -1⟩ Av cv)) rfl ?_
                      exact ⟨⟨Av, cv, by rw [hyy.out.1, hyy.out.2], by rw [hyy.out.1]; exact (hf8.set7 n _ _ _ _ _ _ _ (by omega)).mono (by omega)⟩, by rw [hn]; exact below_set7 hB8 n (Nat.le_refl _) _ _ _ _ _ _ _⟩
                    · have hst : (LS.toList == s.toList) = false := by
                        rw [beq_eq_false_iff_ne, ← hLS, ByteArray.toList_eq, ByteArray.toList_eq, hl'.out]
                        simpa [lineHS] using hls
                      have hno := Lib.hid (hno'.out (fun h => by rw [if_pos h45'.out, hL] at h; exact hls h.2))
                      clear hok hls hLS
                      go_wp2_with fail
                      refine (hln'.out _ hb7).mono ?_
                      rintro e w8 ⟨rfl, hb8⟩
                      have hbox8 := hbox7.kept hb8
                      have hB8 := hB7.trans (hb8.mono (by have := hB7.size; rw [hn] at this; exact this))
                      obtain ⟨d0, d1, d2, d3, d4, d5, d6⟩ := hbox8.cells
                      have df0 := hbox8.frozen 0
                      have df1 := hbox8.frozen 1
                      have df2 := hbox8.frozen 2
                      have df3 := hbox8.frozen 3
                      have df4 := hbox8.frozen 4
                      have df5 := hbox8.frozen 5
                      have df6 := hbox8.frozen 6
                      go_wp2_with fail
                      refine bodyPost_ret (res_rread _ _ rfl rfl (hbox8.set7 cl0 none 0)) rfl ?_
                      exact ⟨⟨none, 0, by rw [hno.out.1, hno.out.2], by rw [hno.out.1]; exact WsF.nil _ _ _ (fun b o e => by cases e)⟩, by rw [hn]; exact below_set7 hB8 n (Nat.le_refl _) _ _ _ _ _ _ _⟩
          · have t2 : (x4 == [45]) = false := by rw [beq_eq_false_iff_ne]; exact h45
            have h45' := Lib.hid h45
            clear h45
            go_wp2_with fail
            refine (rdigA x4 _ y4).mono ?_
            rintro e w7 ⟨rfl, hb7⟩
            have hz7 := hzr.kept hb7
            have hbox7 := hboxr.kept hb7
            have hB7 := hBr.trans (hb7.mono (by have := hBr.size; rw [hn] at this; exact this))
            have hpr7 := HPR.out.below hb7
            obtain ⟨c0, c1, c2, c3, c4, c5, c6⟩ := hz7.cells
            have cf := hz7.frozen 6
            clear c0 c1 c2 c3 c4 c5 hzr hboxr hBr HPR hb7 p4
            have hzr : ClBox (w7.setCell ⟨nb, 6, none⟩ (.int .i64 (digNV x4))) nb ⟨digNV x0, digNV x1, idxW opsW x2, [], idxW codesW x5, digNV x3, digNV x4⟩ none 0 := hz7.setE (digNV x4)
            have hboxr := hbox7.other nb 6 (.int .i64 (digNV x4)) hnz.2.1
            have hBr := below_set1 hB7 nb 6 hnz.2.2.1 (.int .i64 (digNV x4))
            have HPR := Lib.hid (hpr7.set nb 6 (.int .i64 (digNV x4)) hnz.1)
            go_wp2_with fail
          
            · skip
              clear c6 cf hz7 hbox7 hB7 hpr7
              revert hzr hboxr hBr HPR
              generalize w7.setCell ⟨nb, 6, none⟩ (.int .i64 (digNV x4)) = w8
              intro hzr hboxr hBr HPR
              have hln : nb + 1 ≤ w8.heap.size := hzr.lt
              have HPR5 := HPR
              clear hln
              go_loopw [11, 73] (fun _ j wr => ∃ k : Nat, k ≤ t.length ∧ j = .int .i64 k ∧ (∃ Av cv, ClBox wr nb ⟨digNV x0, digNV x1, idxW opsW x2, (t.take k).map rnum, idxW codesW x5, digNV x3, digNV x4⟩ Av cv ∧ Own (ints .u32) 22 (nb + 1) wr (.slice Av ((t.take k).map rnum).length cv) ((t.take k).map rnum)) ∧ ClBox wr n cl0 none 0 ∧ PcC wr pb (x0 :: x1 :: x2 :: x3 :: x4 :: x5 :: t) ∧ Below n w wr) (fun _ j _ => t.length - (intOf j).toNat)
              case atStart => exact ⟨0, Nat.zero_le _, rfl, ⟨none, 0, hzr, Own.nil _ _⟩, hboxr, HPR.out, hBr⟩
              case round =>
                clear hzr hboxr hBr HPR5 HPR
                obtain ⟨k, hk, rfl, ⟨Av, cv, hzr, hown⟩, hboxr, hpr, hBr⟩ := hrel
                have HPR := Lib.hid hpr
                by_cases hlt : k < t.length
                · exfalso
                  have := HMT.out
                  omega
                · have htt : t.take k = t := take_all hlt
                  rw [htt] at hzr hown
                  obtain ⟨L, hL⟩ : ∃ L, t.map rnum = L := ⟨_, rfl⟩
                  have hf := (ownW_rnum hown).far
                  rw [hL] at hzr hown hf
                  obtain ⟨A', c', he, hf⟩ := hf
                  injection he with e1 e2 e3
                  subst e1 e3
                  obtain ⟨c0, c1, c2, c3, c4, c5, c6⟩ := hzr.cells
                  simp only at c0 c1 c2 c3 c4 c5 c6
                  have hone := rone_any ⟨digNV x0, digNV x1, idxW opsW x2, L, idxW codesW x5, digNV x3, digNV x4⟩ Av cv wr
                  unfold clV at hone
                  simp only at hone
                  have hkm : ¬ (k : Int) < (M : Int) - 6 := by have := HMT.out; omega
                  have hkm2 : ¬ k < M - 6 := by have := HMT.out; omega
                  clear hpr HPR hown e2 htt
                  rcases hok : clB ⟨digNV x0, digNV x1, idxW opsW x2, L, idxW codesW x5, digNV x3, digNV x4⟩ with _ | _
                  · rw [hok] at hone
                    have hno := Lib.hid (hno'.out (fun h => by rw [if_neg h45'.out, hL] at h; rw [hok] at h; cases h.1))
                    have hone' := Lib.hid hone
                    clear hone hok
                    go_wp2_with fail
                    refine hone'.out.mono ?_
                    rintro e w7 ⟨rfl, hb7⟩
                    have hbox7 := hboxr.kept hb7
                    have hB7 := hBr.trans (hb7.mono (by have := hBr.size; rw [hn] at this; exact this))
                    obtain ⟨d0, d1, d2, d3, d4, d5, d6⟩ := hbox7.cells
                    have df0 := hbox7.frozen 0
                    have df1 := hbox7.frozen 1
                    have df2 := hbox7.frozen 2
                    have df3 := hbox7.frozen 3
                    have df4 := hbox7.frozen 4
                    have df5 := hbox7.frozen 5
                    have df6 := hbox7.frozen 6
                    go_wp2_with fail
                    refine bodyPost_ret (res_rread _ _ rfl rfl (hbox7.set7 cl0 none 0)) rfl ?_
                    exact ⟨⟨none, 0, by rw [hno.out.1, hno.out.2], by rw [hno.out.1]; exact WsF.nil _ _ _ (fun b o e => by cases e)⟩, by rw [hn]; exact below_set7 hB7 n (Nat.le_refl _) _ _ _ _ _ _ _⟩
                  · rw [hok] at hone
                    have hone' := Lib.hid hone
                    have hln := fun (W : World) (hW : Below wr.heap.size wr W) => rhline_any ⟨digNV x0, digNV x1, idxW opsW x2, L, idxW codesW x5, digNV x3, digNV x4⟩ Av cv W hok (hf.below hW).1
                    obtain ⟨LS, hLS⟩ : ∃ x, lineHS ⟨digNV x0, digNV x1, idxW opsW x2, L, idxW codesW x5, digNV x3, digNV x4⟩ = x := ⟨_, rfl⟩
                    rw [hLS] at hln
                    unfold clV at hln
                    simp only at hln
                    have hln' := Lib.hid hln
                    clear hone hln
                    go_wp2_with fail
                    refine hone'.out.mono ?_
                    rintro e w7 ⟨rfl, hb7⟩
                    have hbox7 := hboxr.kept hb7
                    have hz7 := hzr.kept hb7
                    have hf7 := hf.below hb7
                    have hB7 := hBr.trans (hb7.mono (by have := hBr.size; rw [hn] at this; exact this))
                    clear c0 c1 c2 c3 c4 c5 c6
                    obtain ⟨c0, c1, c2, c3, c4, c5, c6⟩ := hz7.cells
                    simp only at c0 c1 c2 c3 c4 c5 c6
                    by_cases hls : lineH ⟨digNV x0, digNV x1, idxW opsW x2, L, idxW codesW x5, digNV x3, digNV x4⟩ = l
                    · have hst : (LS.toList == s.toList) = true := by rw [← hLS, ByteArray.toList_eq, ByteArray.toList_eq, hl'.out]; simp [lineHS, hls]
                      have hyy := Lib.hid (hyes'.out (by rw [if_neg h45'.out, hL]; exact ⟨hok, hls⟩))
                      rw [if_neg h45'.out, hL] at hyy
                      clear hok hls hLS
                      go_wp2_with fail
                      refine (hln'.out _ hb7).mono ?_
                      rintro e w8 ⟨rfl, hb8⟩
                      have hbox8 := hbox7.kept hb8
                      have hz8 := hz7.kept hb8
                      have hf8 := hf7.below hb8
                      have hB8 := hB7.trans (hb8.mono (by have := hB7.size; rw [hn] at this; exact this))
                      clear c0 c1 c2 c3 c4 c5 c6
                      obtain ⟨c0, c1, c2, c3, c4, c5, c6⟩ := hz8.cells
                      simp only at c0 c1 c2 c3 c4 c5 c6
                      obtain ⟨d0, d1, d2, d3, d4, d5, d6⟩ := hbox8.cells
                      have df0 := hbox8.frozen 0
                      have df1 := hbox8.frozen 1
                      have df2 := hbox8.frozen 2
                      have df3 := hbox8.frozen 3
                      have df4 := hbox8.frozen 4
                      have df5 := hbox8.frozen 5
                      have df6 := hbox8.frozen 6
                      go_wp2_with fail
                      refine bodyPost_ret (res_rread _ _ rfl rfl (hbox8.set7 ⟨digNV x0, digNV x1, idxW opsW x2, L, idxW codesW x5, digNV x3, digNV x4⟩ Av cv)) rfl ?_
                      exact ⟨⟨Av, cv, by rw [hyy.out.1, hyy.out.2], by rw [hyy.out.1]; exact (hf8.set7 n _ _ _ _ _ _ _ (by omega)).mono (by omega)⟩, by rw [hn]; exact below_set7 hB8 n (Nat.le_refl _) _ _ _ _ _ _ _⟩
                    · have hst : (LS.toList == s.toList) = false := by
                        rw [beq_eq_false_iff_ne, ← hLS, ByteArray.toList_eq, ByteArray.toList_eq, hl'.out]
                        simpa [lineHS] using hls
                      have hno := Lib.hid (hno'.out (fun h => by rw [if_neg h45'.out, hL] at h; exact hls h.2))
                      clear hok hls hLS
                      go_wp2_with fail
                      refine (hln'.out _ hb7).mono ?_
                      rintro e w8 ⟨rfl, hb8⟩
                      have hbox8 := hbox7.kept hb8
                      have hB8 := hB7.trans (hb8.mono (by have := hB7.size; rw [hn] at this; exact this))
                      obtain ⟨d0, d1, d2, d3, d4, d5, d6⟩ := hbox8.cells
                      have df0 := hbox8.frozen 0
                      have df1 := hbox8.frozen 1
                      have df2 := hbox8.frozen 2
                      have df3 := hbox8.frozen 3
                      have df4 := hbox8.frozen 4
                      have df5 := hbox8.frozen 5
                      have df6 := hbox8.frozen 6
                      go_wp2_with fail
                      refine bodyPost_ret (res_rread _ _ rfl rfl (hbox8.set7 cl0 none 0)) rfl ?_
                      exact ⟨⟨none, 0, by rw [hno.out.1, hno.out.2], by rw [hno.out.1]; exact WsF.nil _ _ _ (fun b o e => by cases e)⟩, by rw [hn]; exact below_set7 hB8 n (Nat.le_refl _) _ _ _ _ _ _ _⟩
            · skip
              clear c6 cf hz7 hbox7 hB7 hpr7
              revert hzr hboxr hBr HPR
              generalize w7.setCell ⟨nb, 6, none⟩ (.int .i64 (digNV x4)) = w8
              intro hzr hboxr hBr HPR
              have hln : nb + 1 ≤ w8.heap.size := hzr.lt
              have HPR5 := HPR
              clear hln
              go_loopw [11, 73] (fun _ j wr => ∃ k : Nat, k ≤ t.length ∧ j = .int .i64 k ∧ (∃ Av cv, ClBox wr nb ⟨digNV x0, digNV x1, idxW opsW x2, (t.take k).map rnum, idxW codesW x5, digNV x3, digNV x4⟩ Av cv ∧ Own (ints .u32) 22 (nb + 1) wr (.slice Av ((t.take k).map rnum).length cv) ((t.take k).map rnum)) ∧ ClBox wr n cl0 none 0 ∧ PcC wr pb (x0 :: x1 :: x2 :: x3 :: x4 :: x5 :: t) ∧ Below n w wr) (fun _ j _ => t.length - (intOf j).toNat)
              case atStart => exact ⟨0, Nat.zero_le _, rfl, ⟨none, 0, hzr, Own.nil _ _⟩, hboxr, HPR.out, hBr⟩
              case round =>
                clear hzr hboxr hBr HPR5 HPR
                obtain ⟨k, hk, rfl, ⟨Av, cv, hzr, hown⟩, hboxr, hpr, hBr⟩ := hrel
                have HPR := Lib.hid hpr
                by_cases hlt : k < t.length
                · obtain ⟨x, hx⟩ := get_some hlt
                  have hpx := hpr (k + 6) x (by simpa using hx)
                  have hpx' := hpx
                  rw [Nat.add_comm] at hpx'
                  have hxl := HYT.out x (List.mem_of_getElem? hx)
                  have htk := show (t.take (k + 1)).map rnum = (t.take k).map rnum ++ [rnum x] by rw [take_snoc hx, List.map_append]; rfl
                  have hlk := show ((t.take k).map rnum).length = k by simp; omega
                  obtain ⟨Lk, hLk⟩ : ∃ Lk, (t.take k).map rnum = Lk := ⟨_, rfl⟩
                  obtain ⟨L1, hL1⟩ : ∃ L1, (t.take (k + 1)).map rnum = L1 := ⟨_, rfl⟩
                  rw [hLk] at hzr hown htk hlk
                  rw [hL1] at htk
                  replace htk := Lib.hid htk
                  replace hlk := Lib.hid hlk
                  replace hL1 := Lib.hid hL1
                  clear hLk
                  have hkm : (k : Int) < (M : Int) - 6 := by have := HMT.out; omega
                  have hkm2 : k < M - 6 := by have := HMT.out; omega
                  have hk0 : (0 : Int) ≤ (k : Int) := by omega
                  obtain ⟨c0, c1, c2, c3, c4, c5, c6⟩ := hzr.cells
                  simp only at c3
                  clear hx hpr c0 c1 c2 c4 c5 c6
                  go_wp2_with fail
                  refine wp_region_held_drew (S := fun w' => Below nb wr w') (by kernel_rfl) ((Below.refl nb wr).drew) (fun hHeld => ?_)
                  have hzr := hzr.kept ((Below.refl _ wr).drew)
                  have hown := hown.below ((Below.refl _ wr).drew) (Nat.le_refl _)
                  have hboxr := hboxr.kept ((Below.refl _ wr).drew)
                  have HPR := Lib.hid (HPR.out.below ((Below.refl _ wr).drew))
                  have hBr := hBr.trans ((Below.refl wr.heap.size wr).drew.mono (by have := hBr.size; rw [hn] at this; exact this))
                  have c3 := (((Below.refl wr.heap.size wr).drew).cell (p := ⟨nb, 3, none⟩) (cell_lt c3)).trans c3
                  generalize hwd : wr.drew = wd at hHeld hzr hown hboxr HPR hBr c3 ⊢
                  clear hwd
                  refine wpAnyH_take (i := 0) (oi := ?_) (v := ?_) ?_ (by kernel_rfl) (by kernel_rfl) (by kernel_rfl) ?_ (Or.inl ⟨?_, ?_⟩) (by assumption) ?_
                  rotate_left 2
                  · (simp only [List.getElem?_toArray, List.getElem?_cons_zero]; rfl)
                  · first | exact fun _ _ _ h => h | exact fun _ _ _ h => by cases h.1
                  · rfl
                  · ((intro wq hSq; (try dsimp only at hSq); go_simp); (try with_reducible rfl))
                  try simp only [Act.put, List.setIfInBounds_toArray, List.set_cons_zero, List.set_cons_succ]
                  refine wpAnyH_take (i := 2) (oi := ?_) (v := ?_) ?_ (by kernel_rfl) (by kernel_rfl) (by kernel_rfl) ?_ (Or.inl ⟨?_, ?_⟩) (by assumption) ?_
                  rotate_left 2
                  · (simp only [List.getElem?_toArray, List.getElem?_cons_succ, List.getElem?_cons_zero]; rfl)
                  · first | exact fun _ _ _ h => h | exact fun _ _ _ h => by cases h.1
                  · rfl
                  · ((intro wq hSq; (try dsimp only at hSq); go_simp); (try with_reducible rfl))
                  try simp only [Act.put, List.setIfInBounds_toArray, List.set_cons_zero, List.set_cons_succ]
                  refine wpAnyH_ready (rs := [1, 3]) (by kernel_rfl) (by simp) ?_
                  refine AllReadyH.cons (o := ?_) ?_ (fun K hK => ?_) ?_
                  rotate_left
                  · (simp only [List.getElem?_toArray, List.getElem?_cons_succ, List.getElem?_cons_zero]; rfl)
                  · go_simp
                    refine hK.out _ _ hHeld (fun hHeld => ?_)
                    clear hK K
                    try simp only [Act.put, List.setIfInBounds_toArray, List.set_cons_zero, List.set_cons_succ]
                    refine wpAnyH_ready (rs := [3]) (by kernel_rfl) (by simp) ?_
                    refine AllReadyH.cons (o := ?_) ?_ (fun K hK => ?_) AllReadyH.nil
                    rotate_left
                    · (simp only [List.getElem?_toArray, List.getElem?_cons_succ, List.getElem?_cons_zero]; rfl)
                    go_simp
                    go_at_call 44
                    refine (rd9A _ _ hxl).mono ?_
                    rintro e wx ⟨rfl, hbx⟩
                    have hzx := hzr.kept hbx
                    have hownx := hown.below hbx (Nat.le_refl _)
                    have hboxx := hboxr.kept hbx
                    have hprx := HPR.out.below hbx
                    have hBx := hBr.trans (hbx.mono (by have := hBr.size; rw [hn] at this; exact this))
                    have hcx := (hbx.cell (p := ⟨nb, 3, none⟩) (cell_lt c3)).trans c3
                    have hSx : Below nb wr wx := hHeld.trans (hbx.mono (by have := hHeld.size; have := hzr.lt; omega))
                    refine hK.out _ _ hSx (fun hHeld => ?_)
                    clear hK K
                    try simp only [Act.put, List.setIfInBounds_toArray, List.set_cons_zero, List.set_cons_succ]
                    refine wpAnyH_ready (rs := [4]) (by kernel_rfl) (by simp) ?_
                    refine AllReadyH.cons (o := ?_) ?_ (fun K hK => ?_) AllReadyH.nil
                    rotate_left
                    · (simp only [List.getElem?_toArray, List.getElem?_cons_succ, List.getElem?_cons_zero]; rfl)
                    go_simp
                    have hzy := hzx.kept ((Below.refl _ wx).alloc (Nat.le_refl _) (.cells #[.int .u32 (rnum x)] 22))
                    have hcy := (((Below.refl _ wx).alloc (Nat.le_refl _) (.cells #[.int .u32 (rnum x)] 22)).cell (p := ⟨nb, 3, none⟩) (cell_lt hcx)).trans hcx
                    have hSx : Below nb wr (wx.alloc (.cells #[.int .u32 (rnum x)] 22)) := hHeld.alloc (by have := hzx.lt; omega) _
                    refine hK.out _ _ hSx (fun hHeld => ?_)
                    clear hK K
                    try simp only [Act.put, List.setIfInBounds_toArray, List.set_cons_zero, List.set_cons_succ]
                    refine wpAnyH_ready (rs := [5]) (by kernel_rfl) (by simp) ?_
                    refine AllReadyH.cons (o := ?_) ?_ (fun K hK => ?_) AllReadyH.nil
                    rotate_left
                    · (simp only [List.getElem?_toArray, List.getElem?_cons_succ, List.getElem?_cons_zero]; rfl)
                    refine step_app (by rfl) (.tmp 78) (.tmp 81) 43 (by rfl) u32Ty (nb + 1) (hownx.alloc _) (by rfl) (cells_new' wx [.int .u32 (rnum x)] _ _ rfl) (by rfl) (by rfl) (by simp [Value.oneCell']) (by rw [hlk.out]; unfold maxLen; omega) (by rw [hlk.out]; omega) (by have := hzy.lt; omega) ?_
                    intro v' w9 hown9 hb9 _
                    have hown9' : Own (ints .u32) 22 (nb + 1) w9 v' L1 := by rw [htk.out]; exact Own.app hown9 rfl
                    obtain ⟨A9, c9, rfl, _, _, _⟩ := hown9'.sl
                    have hz9 := hzy.below hb9 (Nat.lt_succ_self nb)
                    have hSx : Below nb wr w9 := hHeld.trans (hb9.mono (Nat.le_succ nb))
                    obtain ⟨g0, g1, g2, g3, g4, g5, g6⟩ := hz9.cells
                    have g7 := hz9.frozen 3
                    refine hK.out _ _ hSx (fun hHeld => ?_)
                    clear hK K
                    try simp only [Act.put, List.setIfInBounds_toArray, List.set_cons_zero, List.set_cons_succ]
                    refine wpAnyH_take (i := 6) (oi := ?_) (v := ?_) ?_ (by kernel_rfl) (by kernel_rfl) (by kernel_rfl) ?_ (Or.inl ⟨?_, ?_⟩) (by assumption) ?_
                    rotate_left 2
                    · (simp only [List.getElem?_toArray, List.getElem?_cons_succ, List.getElem?_cons_zero]; rfl)
                    · first | exact fun _ _ _ h => h | exact fun _ _ _ h => by cases h.1
                    · rfl
                    · ((intro wq hSq; (try dsimp only at hSq); go_simp); (try with_reducible rfl))
                    try simp only [Act.put, List.setIfInBounds_toArray, List.set_cons_zero, List.set_cons_succ]
                    refine wpAnyH_ready (rs := [7]) (by kernel_rfl) (by simp) ?_
                    refine AllReadyH.cons (o := ?_) ?_ (fun K hK => ?_) AllReadyH.nil
                    rotate_left
                    · (simp only [List.getElem?_toArray, List.getElem?_cons_succ, List.getElem?_cons_zero]; rfl)
                    go_simp
                    have hSx : Below nb wr (w9.setCell ⟨nb, 3, none⟩ (.slice A9 L1.length c9)) := below_set1 hHeld nb 3 (Nat.le_refl _) _
                    refine hK.out _ _ hSx (fun hHeld => ?_)
                    clear hK K
                    try simp only [Act.put, List.setIfInBounds_toArray, List.set_cons_zero, List.set_cons_succ]
                    refine wpAnyH_done (by kernel_rfl) ?_ _
                    have hz10 := hz9.setR L1 A9 c9
                    have hown10 := hown9'.set nb 3 (.slice A9 L1.length c9) (Nat.lt_succ_self nb)
                    have hb10 := (((Below.refl _ wx).alloc (Nat.le_refl _) (.cells #[.int .u32 (rnum x)] 22)).mono (by have := hzx.lt; omega : nb + 1 ≤ wx.heap.size)).trans hb9
                    have hbox10 := (hboxx.below hb10 (by omega)).other nb 3 (.slice A9 L1.length c9) hnz.2.1
                    have hpr10 := (hprx.from hb10 (by omega)).set nb 3 (.slice A9 L1.length c9) hnz.1
                    have hB10 := below_set1 (hBx.trans (hb10.mono (by omega))) nb 3 hnz.2.2.1 (.slice A9 L1.length c9)
                    clear c3 hpx hpx' hcx hzx hzy hcy hz9 hown9 hown9' hprx hboxx hbx hb9 hb10 hBx hownx hzr hown hboxr HPR hBr g0 g1 g2 g3 g4 g5 g6 g7
                    go_wp2_with fail
                    go_roundw
                    case rel => exact ⟨k + 1, by omega, by go_num, ⟨A9, c9, by rw [hL1.out]; exact hz10, by rw [hL1.out]; exact hown10⟩, hbox10, hpr10, hB10⟩
                    case measure => simp [intOf]; omega
                  · refine AllReadyH.cons (o := ?_) ?_ (fun K hK => ?_) AllReadyH.nil
                    rotate_left
                    · (simp only [List.getElem?_toArray, List.getElem?_cons_succ, List.getElem?_cons_zero]; rfl)
                    go_simp
                    go_at_call 44
                    refine (rd9A _ _ hxl).mono ?_
                    rintro e wx ⟨rfl, hbx⟩
                    have hzx := hzr.kept hbx
                    have hownx := hown.below hbx (Nat.le_refl _)
                    have hboxx := hboxr.kept hbx
                    have hprx := HPR.out.below hbx
                    have hBx := hBr.trans (hbx.mono (by have := hBr.size; rw [hn] at this; exact this))
                    have hcx := (hbx.cell (p := ⟨nb, 3, none⟩) (cell_lt c3)).trans c3
                    have hSx : Below nb wr wx := hHeld.trans (hbx.mono (by have := hHeld.size; have := hzr.lt; omega))
                    refine hK.out _ _ hSx (fun hHeld => ?_)
                    clear hK K
                    try simp only [Act.put, List.setIfInBounds_toArray, List.set_cons_zero, List.set_cons_succ]
                    refine wpAnyH_ready (rs := [1, 4]) (by kernel_rfl) (by simp) ?_
                    refine AllReadyH.cons (o := ?_) ?_ (fun K hK => ?_) ?_
                    rotate_left
                    · (simp only [List.getElem?_toArray, List.getElem?_cons_succ, List.getElem?_cons_zero]; rfl)
                    · go_simp
                      refine hK.out _ _ hHeld (fun hHeld => ?_)
                      clear hK K
                      try simp only [Act.put, List.setIfInBounds_toArray, List.set_cons_zero, List.set_cons_succ]
                      refine wpAnyH_ready (rs := [4]) (by kernel_rfl) (by simp) ?_
                      refine AllReadyH.cons (o := ?_) ?_ (fun K hK => ?_) AllReadyH.nil
                      rotate_left
                      · (simp only [List.getElem?_toArray, List.getElem?_cons_succ, List.getElem?_cons_zero]; rfl)
                      go_simp
                      have hzy := hzx.kept ((Below.refl _ wx).alloc (Nat.le_refl _) (.cells #[.int .u32 (rnum x)] 22))
                      have hcy := (((Below.refl _ wx).alloc (Nat.le_refl _) (.cells #[.int .u32 (rnum x)] 22)).cell (p := ⟨nb, 3, none⟩) (cell_lt hcx)).trans hcx
                      have hSx : Below nb wr (wx.alloc (.cells #[.int .u32 (rnum x)] 22)) := hHeld.alloc (by have := hzx.lt; omega) _
                      refine hK.out _ _ hSx (fun hHeld => ?_)
                      clear hK K
                      try simp only [Act.put, List.setIfInBounds_toArray, List.set_cons_zero, List.set_cons_succ]
                      refine wpAnyH_ready (rs := [5]) (by kernel_rfl) (by simp) ?_
                      refine AllReadyH.cons (o := ?_) ?_ (fun K hK => ?_) AllReadyH.nil
                      rotate_left
                      · (simp only [List.getElem?_toArray, List.getElem?_cons_succ, List.getElem?_cons_zero]; rfl)
                      refine step_app (by rfl) (.tmp 78) (.tmp 81) 43 (by rfl) u32Ty (nb + 1) (hownx.alloc _) (by rfl) (cells_new' wx [.int .u32 (rnum x)] _ _ rfl) (by rfl) (by rfl) (by simp [Value.oneCell']) (by rw [hlk.out]; unfold maxLen; omega) (by rw [hlk.out]; omega) (by have := hzy.lt; omega) ?_
                      intro v' w9 hown9 hb9 _
                      have hown9' : Own (ints .u32) 22 (nb + 1) w9 v' L1 := by rw [htk.out]; exact Own.app hown9 rfl
                      obtain ⟨A9, c9, rfl, _, _, _⟩ := hown9'.sl
                      have hz9 := hzy.below hb9 (Nat.lt_succ_self nb)
                      have hSx : Below nb wr w9 := hHeld.trans (hb9.mono (Nat.le_succ nb))
                      obtain ⟨g0, g1, g2, g3, g4, g5, g6⟩ := hz9.cells
                      have g7 := hz9.frozen 3
                      refine hK.out _ _ hSx (fun hHeld => ?_)
                      clear hK K
                      try simp only [Act.put, List.setIfInBounds_toArray, List.set_cons_zero, List.set_cons_succ]
                      refine wpAnyH_take (i := 6) (oi := ?_) (v := ?_) ?_ (by kernel_rfl) (by kernel_rfl) (by kernel_rfl) ?_ (Or.inl ⟨?_, ?_⟩) (by assumption) ?_
                      rotate_left 2
                      · (simp only [List.getElem?_toArray, List.getElem?_cons_succ, List.getElem?_cons_zero]; rfl)
                      · first | exact fun _ _ _ h => h | exact fun _ _ _ h => by cases h.1
                      · rfl
                      · ((intro wq hSq; (try dsimp only at hSq); go_simp); (try with_reducible rfl))
                      try simp only [Act.put, List.setIfInBounds_toArray, List.set_cons_zero, List.set_cons_succ]
                      refine wpAnyH_ready (rs := [7]) (by kernel_rfl) (by simp) ?_
                      refine AllReadyH.cons (o := ?_) ?_ (fun K hK => ?_) AllReadyH.nil
                      rotate_left
                      · (simp only [List.getElem?_toArray, List.getElem?_cons_succ, List.getElem?_cons_zero]; rfl)
                      go_simp
                      have hSx : Below nb wr (w9.setCell ⟨nb, 3, none⟩ (.slice A9 L1.length c9)) := below_set1 hHeld nb 3 (Nat.le_refl _) _
                      refine hK.out _ _ hSx (fun hHeld => ?_)
                      clear hK K
                      try simp only [Act.put, List.setIfInBounds_toArray, List.set_cons_zero, List.set_cons_succ]
                      refine wpAnyH_done (by kernel_rfl) ?_ _
                      have hz10 := hz9.setR L1 A9 c9
                      have hown10 := hown9'.set nb 3 (.slice A9 L1.length c9) (Nat.lt_succ_self nb)
                      have hb10 := (((Below.refl _ wx).alloc (Nat.le_refl _) (.cells #[.int .u32 (rnum x)] 22)).mono (by have := hzx.lt; omega : nb + 1 ≤ wx.heap.size)).trans hb9
                      have hbox10 := (hboxx.below hb10 (by omega)).other nb 3 (.slice A9 L1.length c9) hnz.2.1
                      have hpr10 := (hprx.from hb10 (by omega)).set nb 3 (.slice A9 L1.length c9) hnz.1
                      have hB10 := below_set1 (hBx.trans (hb10.mono (by omega))) nb 3 hnz.2.2.1 (.slice A9 L1.length c9)
                      clear c3 hpx hpx' hcx hzx hzy hcy hz9 hown9 hown9' hprx hboxx hbx hb9 hb10 hBx hownx hzr hown hboxr HPR hBr g0 g1 g2 g3 g4 g5 g6 g7
                      go_wp2_with fail
                      go_roundw
                      case rel => exact ⟨k + 1, by omega, by go_num, ⟨A9, c9, by rw [hL1.out]; exact hz10, by rw [hL1.out]; exact hown10⟩, hbox10, hpr10, hB10⟩
                      case measure => simp [intOf]; omega
                    · refine AllReadyH.cons (o := ?_) ?_ (fun K hK => ?_) AllReadyH.nil
                      rotate_left
                      · (simp only [List.getElem?_toArray, List.getElem?_cons_succ, List.getElem?_cons_zero]; rfl)
                      go_simp
                      have hzy := hzx.kept ((Below.refl _ wx).alloc (Nat.le_refl _) (.cells #[.int .u32 (rnum x)] 22))
                      have hcy := (((Below.refl _ wx).alloc (Nat.le_refl _) (.cells #[.int .u32 (rnum x)] 22)).cell (p := ⟨nb, 3, none⟩) (cell_lt hcx)).trans hcx
                      have hSx : Below nb wr (wx.alloc (.cells #[.int .u32 (rnum x)] 22)) := hHeld.alloc (by have := hzx.lt; omega) _
                      refine hK.out _ _ hSx (fun hHeld => ?_)
                      clear hK K
                      try simp only [Act.put, List.setIfInBounds_toArray, List.set_cons_zero, List.set_cons_succ]
                      refine wpAnyH_ready (rs := [1]) (by kernel_rfl) (by simp) ?_
                      refine AllReadyH.cons (o := ?_) ?_ (fun K hK => ?_) AllReadyH.nil
                      rotate_left
                      · (simp only [List.getElem?_toArray, List.getElem?_cons_succ, List.getElem?_cons_zero]; rfl)
                      go_simp
                      refine hK.out _ _ hHeld (fun hHeld => ?_)
                      clear hK K
                      try simp only [Act.put, List.setIfInBounds_toArray, List.set_cons_zero, List.set_cons_succ]
                      refine wpAnyH_ready (rs := [5]) (by kernel_rfl) (by simp) ?_
                      refine AllReadyH.cons (o := ?_) ?_ (fun K hK => ?_) AllReadyH.nil
                      rotate_left
                      · (simp only [List.getElem?_toArray, List.getElem?_cons_succ, List.getElem?_cons_zero]; rfl)
                      refine step_app (by rfl) (.tmp 78) (.tmp 81) 43 (by rfl) u32Ty (nb + 1) (hownx.alloc _) (by rfl) (cells_new' wx [.int .u32 (rnum x)] _ _ rfl) (by rfl) (by rfl) (by simp [Value.oneCell']) (by rw [hlk.out]; unfold maxLen; omega) (by rw [hlk.out]; omega) (by have := hzy.lt; omega) ?_
                      intro v' w9 hown9 hb9 _
                      have hown9' : Own (ints .u32) 22 (nb + 1) w9 v' L1 := by rw [htk.out]; exact Own.app hown9 rfl
                      obtain ⟨A9, c9, rfl, _, _, _⟩ := hown9'.sl
                      have hz9 := hzy.below hb9 (Nat.lt_succ_self nb)
                      have hSx : Below nb wr w9 := hHeld.trans (hb9.mono (Nat.le_succ nb))
                      obtain ⟨g0, g1, g2, g3, g4, g5, g6⟩ := hz9.cells
                      have g7 := hz9.frozen 3
                      refine hK.out _ _ hSx (fun hHeld => ?_)
                      clear hK K
                      try simp only [Act.put, List.setIfInBounds_toArray, List.set_cons_zero, List.set_cons_succ]
                      refine wpAnyH_take (i := 6) (oi := ?_) (v := ?_) ?_ (by kernel_rfl) (by kernel_rfl) (by kernel_rfl) ?_ (Or.inl ⟨?_, ?_⟩) (by assumption) ?_
                      rotate_left 2
                      · (simp only [List.getElem?_toArray, List.getElem?_cons_succ, List.getElem?_cons_zero]; rfl)
                      · first | exact fun _ _ _ h => h | exact fun _ _ _ h => by cases h.1
                      · rfl
                      · ((intro wq hSq; (try dsimp only at hSq); go_simp); (try with_reducible rfl))
                      try simp only [Act.put, List.setIfInBounds_toArray, List.set_cons_zero, List.set_cons_succ]
                      refine wpAnyH_ready (rs := [7]) (by kernel_rfl) (by simp) ?_
                      refine AllReadyH.cons (o := ?_) ?_ (fun K hK => ?_) AllReadyH.nil
                      rotate_left
                      · (simp only [List.getElem?_toArray, List.getElem?_cons_succ, List.getElem?_cons_zero]; rfl)
                      go_simp
                      have hSx : Below nb wr (w9.setCell ⟨nb, 3, none⟩ (.slice A9 L1.length c9)) := below_set1 hHeld nb 3 (Nat.le_refl _) _
                      refine hK.out _ _ hSx (fun hHeld => ?_)
                      clear hK K
                      try simp only [Act.put, List.setIfInBounds_toArray, List.set_cons_zero, List.set_cons_succ]
                      refine wpAnyH_done (by kernel_rfl) ?_ _
                      have hz10 := hz9.setR L1 A9 c9
                      have hown10 := hown9'.set nb 3 (.slice A9 L1.length c9) (Nat.lt_succ_self nb)
                      have hb10 := (((Below.refl _ wx).alloc (Nat.le_refl _) (.cells #[.int .u32 (rnum x)] 22)).mono (by have := hzx.lt; omega : nb + 1 ≤ wx.heap.size)).trans hb9
                      have hbox10 := (hboxx.below hb10 (by omega)).other nb 3 (.slice A9 L1.length c9) hnz.2.1
                      have hpr10 := (hprx.from hb10 (by omega)).set nb 3 (.slice A9 L1.length c9) hnz.1
                      have hB10 := below_set1 (hBx.trans (hb10.mono (by omega))) nb 3 hnz.2.2.1 (.slice A9 L1.length c9)
                      clear c3 hpx hpx' hcx hzx hzy hcy hz9 hown9 hown9' hprx hboxx hbx hb9 hb10 hBx hownx hzr hown hboxr HPR hBr g0 g1 g2 g3 g4 g5 g6 g7
                      go_wp2_with fail
                      go_roundw
                      case rel => exact ⟨k + 1, by omega, by go_num, ⟨A9, c9, by rw [hL1.out]; exact hz10, by rw [hL1.out]; exact hown10⟩, hbox10, hpr10, hB10⟩
                      case measure => simp [intOf]; omega
                · have htt : t.take k = t := take_all hlt
                  rw [htt] at hzr hown
                  obtain ⟨L, hL⟩ : ∃ L, t.map rnum = L := ⟨_, rfl⟩
                  have hf := (ownW_rnum hown).far
                  rw [hL] at hzr hown hf
                  obtain ⟨A', c', he, hf⟩ := hf
                  injection he with e1 e2 e3
                  subst e1 e3
                  obtain ⟨c0, c1, c2, c3, c4, c5, c6⟩ := hzr.cells
                  simp only at c0 c1 c2 c3 c4 c5 c6
                  have hone := rone_any ⟨digNV x0, digNV x1, idxW opsW x2, L, idxW codesW x5, digNV x3, digNV x4⟩ Av cv wr
                  unfold clV at hone
                  simp only at hone
                  have hkm : ¬ (k : Int) < (M : Int) - 6 := by have := HMT.out; omega
                  have hkm2 : ¬ k < M - 6 := by have := HMT.out; omega
                  clear hpr HPR hown e2 htt
                  rcases hok : clB ⟨digNV x0, digNV x1, idxW opsW x2, L, idxW codesW x5, digNV x3, digNV x4⟩ with _ | _
                  · rw [hok] at hone
                    have hno := Lib.hid (hno'.out (fun h => by rw [if_neg h45'.out, hL] at h; rw [hok] at h; cases h.1))
                    have hone' := Lib.hid hone
                    clear hone hok
                    go_wp2_with fail
                    refine hone'.out.mono ?_
                    rintro e w7 ⟨rfl, hb7⟩
                    have hbox7 := hboxr.kept hb7
                    have hB7 := hBr.trans (hb7.mono (by have := hBr.size; rw [hn] at this; exact this))
                    obtain ⟨d0, d1, d2, d3, d4, d5, d6⟩ := hbox7.cells
                    have df0 := hbox7.frozen 0
                    have df1 := hbox7.frozen 1
                    have df2 := hbox7.frozen 2
                    have df3 := hbox7.frozen 3
                    have df4 := hbox7.frozen 4
                    have df5 := hbox7.frozen 5
                    have df6 := hbox7.frozen 6
                    go_wp2_with fail
                    refine bodyPost_ret (res_rread _ _ rfl rfl (hbox7.set7 cl0 none 0)) rfl ?_
                    exact ⟨⟨none, 0, by rw [hno.out.1, hno.out.2], by rw [hno.out.1]; exact WsF.nil _ _ _ (fun b o e => by cases e)⟩, by rw [hn]; exact below_set7 hB7 n (Nat.le_refl _) _ _ _ _ _ _ _⟩
                  · rw [hok] at hone
                    have hone' := Lib.hid hone
                    have hln := fun (W : World) (hW : Below wr.heap.size wr W) => rhline_any ⟨digNV x0, digNV x1, idxW opsW x2, L, idxW codesW x5, digNV x3, digNV x4⟩ Av cv W hok (hf.below hW).1
                    obtain ⟨LS, hLS⟩ : ∃ x, lineHS ⟨digNV x0, digNV x1, idxW opsW x2, L, idxW codesW x5, digNV x3, digNV x4⟩ = x := ⟨_, rfl⟩
                    rw [hLS] at hln
                    unfold clV at hln
                    simp only at hln
                    have hln' := Lib.hid hln
                    clear hone hln
                    go_wp2_with fail
                    refine hone'.out.mono ?_
                    rintro e w7 ⟨rfl, hb7⟩
                    have hbox7 := hboxr.kept hb7
                    have hz7 := hzr.kept hb7
                    have hf7 := hf.below hb7
                    have hB7 := hBr.trans (hb7.mono (by have := hBr.size; rw [hn] at this; exact this))
                    clear c0 c1 c2 c3 c4 c5 c6
                    obtain ⟨c0, c1, c2, c3, c4, c5, c6⟩ := hz7.cells
                    simp only at c0 c1 c2 c3 c4 c5 c6
                    by_cases hls : lineH ⟨digNV x0, digNV x1, idxW opsW x2, L, idxW codesW x5, digNV x3, digNV x4⟩ = l
                    · have hst : (LS.toList == s.toList) = true := by rw [← hLS, ByteArray.toList_eq, ByteArray.toList_eq, hl'.out]; simp [lineHS, hls]
                      have hyy := Lib.hid (hyes'.out (by rw [if_neg h45'.out, hL]; exact ⟨hok, hls⟩))
                      rw [if_neg h45'.out, hL] at hyy
                      clear hok hls hLS
                      go_wp2_with fail
                      refine (hln'.out _ hb7).mono ?_
                      rintro e w8 ⟨rfl, hb8⟩
                      have hbox8 := hbox7.kept hb8
                      have hz8 := hz7.kept hb8
                      have hf8 := hf7.below hb8
                      have hB8 := hB7.trans (hb8.mono (by have := hB7.size; rw [hn] at this; exact this))
                      clear c0 c1 c2 c3 c4 c5 c6
                      obtain ⟨c0, c1, c2, c3, c4, c5, c6⟩ := hz8.cells
                      simp only at c0 c1 c2 c3 c4 c5 c6
                      obtain ⟨d0, d1, d2, d3, d4, d5, d6⟩ := hbox8.cells
                      have df0 := hbox8.frozen 0
                      have df1 := hbox8.frozen 1
                      have df2 := hbox8.frozen 2
                      have df3 := hbox8.frozen 3
                      have df4 := hbox8.frozen 4
                      have df5 := hbox8.frozen 5
                      have df6 := hbox8.frozen 6
                      go_wp2_with fail
                      refine bodyPost_ret (res_rread _ _ rfl rfl (hbox8.set7 ⟨digNV x0, digNV x1, idxW opsW x2, L, idxW codesW x5, digNV x3, digNV x4⟩ Av cv)) rfl ?_
                      exact ⟨⟨Av, cv, by rw [hyy.out.1, hyy.out.2], by rw [hyy.out.1]; exact (hf8.set7 n _ _ _ _ _ _ _ (by omega)).mono (by omega)⟩, by rw [hn]; exact below_set7 hB8 n (Nat.le_refl _) _ _ _ _ _ _ _⟩
                    · have hst : (LS.toList == s.toList) = false := by
                        rw [beq_eq_false_iff_ne, ← hLS, ByteArray.toList_eq, ByteArray.toList_eq, hl'.out]
                        simpa [lineHS] using hls
                      have hno := Lib.hid (hno'.out (fun h => by rw [if_neg h45'.out, hL] at h; exact hls h.2))
                      clear hok hls hLS
                      go_wp2_with fail
                      refine (hln'.out _ hb7).mono ?_
                      rintro e w8 ⟨rfl, hb8⟩
                      have hbox8 := hbox7.kept hb8
                      have hB8 := hB7.trans (hb8.mono (by have := hB7.size; rw [hn] at this; exact this))
                      obtain ⟨d0, d1, d2, d3, d4, d5, d6⟩ := hbox8.cells
                      have df0 := hbox8.frozen 0
                      have df1 := hbox8.frozen 1
                      have df2 := hbox8.frozen 2
                      have df3 := hbox8.frozen 3
                      have df4 := hbox8.frozen 4
                      have df5 := hbox8.frozen 5
                      have df6 := hbox8.frozen 6
                      go_wp2_with fail
                      refine bodyPost_ret (res_rread _ _ rfl rfl (hbox8.set7 cl0 none 0)) rfl ?_
                      exact ⟨⟨none, 0, by rw [hno.out.1, hno.out.2], by rw [hno.out.1]; exact WsF.nil _ _ _ (fun b o e => by cases e)⟩, by rw [hn]; exact below_set7 hB8 n (Nat.le_refl _) _ _ _ _ _ _ _⟩

end Go.Proofs.YtkcdmonmgnmojaaDoor
