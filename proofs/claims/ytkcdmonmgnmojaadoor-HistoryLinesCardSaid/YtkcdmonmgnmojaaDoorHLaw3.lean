/- The statement HistoryLines. -/
import Derived.Test.YtkcdmonmgnmojaaDoorHAw
import Derived.Test.YtkcdmonmgnmojaaDoorHRr0
import Derived.Test.YtkcdmonmgnmojaaDoorHPl
namespace Go.Proofs.YtkcdmonmgnmojaaDoor
open Go.RowKit

theorem hread_line {x : Cl} (h : clB x = true) (hr : ∀ z ∈ x.r, 0 ≤ z ∧ z < 4294967296) : hreadX (lineHS x).data.toList = x ∧ hreadOk (lineHS x).data.toList = true := by
  have e : (lineHS x).data.toList = lineH x := rfl
  rw [e]
  unfold hreadX hreadOk
  rw [readP_line h hr]
  exact ⟨rfl, rfl⟩
theorem hreadX_len (s : List UInt8) : (hreadX s).r.length ≤ 1000000 := by
  unfold hreadX
  cases h : readP s with
  | none => decide
  | some x =>
    have h1 := (clB_iff.1 (readHBy_some h).1).r
    show x.r.length ≤ 1000000
    omega
theorem lineHS_size (x : Cl) : (lineHS x).size = (lineH x).length := by simp [lineHS, ByteArray.size]

set_option maxRecDepth 100000 in
set_option maxHeartbeats 8000000 in
theorem historyLines_any (x : Cl) (A : Option Addr) (c : Nat) (s : ByteArray) (w : World) (hW : Ws w w.heap.size A x.r) (hc : x.r.length ≤ c) (hc2 : c ≤ maxLen) (hT : Tab w) (hM : Mx w) :
    Calls Tryd.prog 8 #[clV x A c, .string s] w fun e w' => e = .returned (.bool true) ∧ Below w.heap.size w w' := by
  have hb0 := (Below.refl w.heap.size w).alloc (Nat.le_refl _) (.cells #[.int .i64 x.p, .int .i64 x.o, .int .i64 x.q, .slice A x.r.length c, .int .i64 x.c, .int .i64 x.b, .int .i64 x.e] 45)
  have hbx := ClBox.new w x A c
  have hW1 := hW.below hb0 hb0.size
  have hcl := one_cl _ x A c hW1 hc hc2
  have hb1 := (Below.refl _ (w.alloc (.cells #[.int .i64 x.p, .int .i64 x.o, .int .i64 x.q, .slice A x.r.length c, .int .i64 x.c, .int .i64 x.b, .int .i64 x.e] 45))).alloc (Nat.le_refl _) (.cells #[.int .i64 x.p, .int .i64 x.o, .int .i64 x.q, .slice A x.r.length c, .int .i64 x.c, .int .i64 x.b, .int .i64 x.e] 45)
  have hsh := short_any (some ⟨(w.alloc (.cells #[.int .i64 x.p, .int .i64 x.o, .int .i64 x.q, .slice A x.r.length c, .int .i64 x.c, .int .i64 x.b, .int .i64 x.e] 45)).heap.size, 0, none⟩) 1 [x] 1 _ hcl (by omega)
  have hB1 := hb0.trans (hb1.mono hb0.size)
  have hbx1 := hbx.kept hb1
  have hrr : ∀ z ∈ x.r, 0 ≤ z ∧ z < 4294967296 := fun z hz => by
    obtain ⟨i, hi⟩ := List.getElem?_of_mem hz
    exact (hW.get hi).1.2
  obtain ⟨w1, hw1⟩ : ∃ x', (w.alloc (.cells #[.int .i64 x.p, .int .i64 x.o, .int .i64 x.q, .slice A x.r.length c, .int .i64 x.c, .int .i64 x.b, .int .i64 x.e] 45)).alloc (.cells #[.int .i64 x.p, .int .i64 x.o, .int .i64 x.q, .slice A x.r.length c, .int .i64 x.c, .int .i64 x.b, .int .i64 x.e] 45) = x' := ⟨_, rfl⟩
  obtain ⟨n, hn⟩ : ∃ n, w.heap.size = n := ⟨_, rfl⟩
  rw [World.size_alloc, hn] at hsh
  rw [hw1] at hB1 hbx1 hsh
  have hT1 := hT.below (hB1.mono (Nat.le_refl _))
  have hM1 := hM.below (hB1.mono (Nat.le_refl _))
  have hW2 := hW.below hB1 hB1.size
  rw [hn] at hbx1 hB1
  have HW1 := Lib.hid hw1
  unfold clV
  clear hb0 hbx hW1 hcl hb1 hT hM hW hw1
  rcases hq : shortB [x] 1 with _ | _
  · rw [hq] at hsh
    have hsh' := Lib.hid hsh
    clear hsh
    go_enter Tryd.func8, Tryd.ntmps8
    go_wp2_with fail
    rw [HW1.out]
    refine hsh'.out.mono ?_
    rintro e w2 ⟨rfl, hb2⟩
    have hbx2 := hbx1.kept hb2
    have hT2 := hT1.below hb2
    have hM2 := hM1.below hb2
    have hW3 := hW2.below hb2 hb2.size
    have hB2 := hB1.trans (hb2.mono (by have := hB1.size; omega))
    clear hbx1 hT1 hM1 hW2 hB1 hb2 hsh' HW1
    have haw := Lib.hid (hawake_any w2 hT2)
    go_wp2_with fail
    refine haw.out.mono ?_
    rintro e w3 ⟨rfl, hb3⟩
    go_wp2_with fail
    go_ret
    exact ⟨rfl, by rw [hn]; exact hB2.trans (hb3.mono (by have := hB2.size; omega))⟩
  · rw [hq] at hsh
    have h100 : x.r.length ≤ 100 := by
      unfold shortB at hq
      simp only [Bool.and_eq_true, decide_eq_true_eq, List.all_cons, List.all_nil] at hq
      omega
    clear hq
    by_cases hs : 300 < s.size
    · have t1 : decide ((300 : Int) < (s.size : Int)) = true := by rw [decide_eq_true_iff]; omega
      have t2 : decide (300 < s.size) = true := by rw [decide_eq_true_iff]; exact hs
      have hs' := Lib.hid hs
      clear hs
      have hsh' := Lib.hid hsh
      clear hsh
      go_enter Tryd.func8, Tryd.ntmps8
      go_wp2_with fail
      rw [HW1.out]
      refine hsh'.out.mono ?_
      rintro e w2 ⟨rfl, hb2⟩
      have hbx2 := hbx1.kept hb2
      have hT2 := hT1.below hb2
      have hM2 := hM1.below hb2
      have hW3 := hW2.below hb2 hb2.size
      have hB2 := hB1.trans (hb2.mono (by have := hB1.size; omega))
      clear hbx1 hT1 hM1 hW2 hB1 hb2 hsh' HW1
      have haw := Lib.hid (hawake_any w2 hT2)
      go_wp2_with fail
      refine haw.out.mono ?_
      rintro e w3 ⟨rfl, hb3⟩
      go_wp2_with fail
      go_ret
      exact ⟨rfl, by rw [hn]; exact hB2.trans (hb3.mono (by have := hB2.size; omega))⟩
    · have t1 : decide ((300 : Int) < (s.size : Int)) = false := by rw [decide_eq_false_iff_not]; omega
      have t2 : decide (300 < s.size) = false := by rw [decide_eq_false_iff_not]; exact hs
      have hs' := Lib.hid hs
      clear hs
      rcases hok : clB x with _ | _
      · skip
        have hsh' := Lib.hid hsh
        clear hsh
        go_enter Tryd.func8, Tryd.ntmps8
        go_wp2_with fail
        rw [HW1.out]
        refine hsh'.out.mono ?_
        rintro e w2 ⟨rfl, hb2⟩
        have hbx2 := hbx1.kept hb2
        have hT2 := hT1.below hb2
        have hM2 := hM1.below hb2
        have hW3 := hW2.below hb2 hb2.size
        have hB2 := hB1.trans (hb2.mono (by have := hB1.size; omega))
        clear hbx1 hT1 hM1 hW2 hB1 hb2 hsh' HW1
        have hln := fun W => hline_no x A c W hok
        have hon := fun W => rone_any x A c W
        rw [hok] at hon
        unfold clV at hln hon
        have hln' := Lib.hid hln
        have hon' := Lib.hid hon
        clear hln hon hok
        obtain ⟨d0, d1, d2, d3, d4, d5, d6⟩ := hbx2.cells
        go_wp2_with fail
        refine (hln'.out _).mono ?_
        rintro e w3 ⟨rfl, hb3⟩
        have hbx3 := hbx2.kept hb3
        have hT3 := hT2.below hb3
        have hM3 := hM2.below hb3
        have hB3 := hB2.trans (hb3.mono (by have := hB2.size; omega))
        clear hbx2 hT2 hM2 hB2 hb3 hW3 d0 d1 d2 d3 d4 d5 d6
        obtain ⟨d0, d1, d2, d3, d4, d5, d6⟩ := hbx3.cells
        go_wp2_with fail
        refine (hon'.out _).mono ?_
        rintro e w4 ⟨rfl, hb4⟩
        have hT4 := hT3.below hb4
        have hM4 := hM3.below hb4
        have hB4 := hB3.trans (hb4.mono (by have := hB3.size; omega))
        clear hbx3 hT3 hM3 hB3 hb4 d0 d1 d2 d3 d4 d5 d6
        have te : ((⟨#[]⟩ : ByteArray).toList.isEmpty) = true := by rw [ByteArray.toList_eq]; rfl
        have hrd := hread_any s w4 (by have := hs'.out; omega) hT4 hM4
        obtain ⟨Y, hY⟩ : ∃ Y, hreadX s.data.toList = Y := ⟨_, rfl⟩
        obtain ⟨K, hK⟩ : ∃ K, hreadOk s.data.toList = K := ⟨_, rfl⟩
        have hrr2 := fun W => rhread_any s W (by have := hs'.out; omega)
        rw [hY, hK] at hrd
        simp only [hY, hK] at hrr2
        have hyl : Y.r.length ≤ 1000000 := by
          rw [← hY]
          exact hreadX_len s.data.toList
        unfold clV at hrd hrr2
        have hrd' := Lib.hid hrd
        have hrr2' := Lib.hid hrr2
        clear hrd hrr2 hY hK
        go_wp2_with fail
        refine hrd'.out.mono ?_
        rintro e w7 ⟨⟨A7, c7, rfl, hf7⟩, hb7⟩
        have hB7 := hB4.trans (hb7.mono (by have := hB4.size; omega))
        have hT7 := hT4.below hb7
        have hB8 := hB7.alloc (by have := hB7.size; omega) (.cells #[.int .i64 Y.p, .int .i64 Y.o, .int .i64 Y.q, .slice A7 Y.r.length c7, .int .i64 Y.c, .int .i64 Y.b, .int .i64 Y.e] 45)
        have hbA := ClBox.new w7 Y A7 c7
        have hbAl := (Below.refl w7.heap.size w7).alloc (Nat.le_refl _) (.cells #[.int .i64 Y.p, .int .i64 Y.o, .int .i64 Y.q, .slice A7 Y.r.length c7, .int .i64 Y.c, .int .i64 Y.b, .int .i64 Y.e] 45)
        have hf8 := hf7.below hbAl
        have hT8 := hT7.below hbAl
        obtain ⟨n7, hn7⟩ : ∃ x, w7.heap.size = x := ⟨_, rfl⟩
        go_wp2_with fail
        refine (hrr2'.out _).mono ?_
        rintro e w9 ⟨⟨A9, c9, rfl, hf9⟩, hb9⟩
        have hB9 := hB8.trans (hb9.mono (by have := hB8.size; omega))
        have hT9 := hT8.below hb9
        have hbA9 := hbA.kept hb9
        have hf89 := hf8.below hb9
        have hB10 := hB9.alloc (by have := hB9.size; omega) (.cells #[.int .i64 Y.p, .int .i64 Y.o, .int .i64 Y.q, .slice A9 Y.r.length c9, .int .i64 Y.c, .int .i64 Y.b, .int .i64 Y.e] 45)
        have hbC := ClBox.new w9 Y A9 c9
        have hbCl := (Below.refl w9.heap.size w9).alloc (Nat.le_refl _) (.cells #[.int .i64 Y.p, .int .i64 Y.o, .int .i64 Y.q, .slice A9 Y.r.length c9, .int .i64 Y.c, .int .i64 Y.b, .int .i64 Y.e] 45)
        have hbA10 := hbA9.kept hbCl
        have hfA := hf89.below hbCl
        have hfC := hf9.below hbCl
        have hT10 := hT9.below hbCl
        obtain ⟨n9, hn9⟩ : ∃ x, w9.heap.size = x := ⟨_, rfl⟩
        rw [hn7] at hbA10
        rw [hn9] at hbC
        obtain ⟨a0, a1, a2, a3, a4, a5, a6⟩ := hbA10.cells
        obtain ⟨b0, b1, b2, b3, b4, b5, b6⟩ := hbC.cells
        have hpc := pcall_any Y Y A7 A9 c7 c9 _ hfA.1 hfC.1 (by omega) (by omega)
        rw [clEq_self] at hpc
        unfold clV at hpc
        have hpc' := Lib.hid hpc
        have hKK : (K == K) = true := by simp
        clear hrd' hrr2' hB7 hT7 hB8 hbA hbAl hf7 hf8 hT8 hb7 hb9 hB9 hT9 hbA9 hf89 hbCl hbA10 hbC hfA hfC hf9 hpc hyl
        try rw [hn7]
        go_wp2_with fail
        try rw [hn9]
        refine hpc'.out.mono ?_
        rintro e w11 ⟨rfl, hb11⟩
        have hB11 := hB10.trans (hb11.mono (by have := hB10.size; omega))
        have haw := Lib.hid (hawake_any w11 (hT10.below hb11))
        go_wp2_with fail
        refine haw.out.mono ?_
        rintro e w12 ⟨rfl, hb12⟩
        go_wp2_with fail
        go_ret
        exact ⟨rfl, by first | exact hB11.trans (hb12.mono (by have := hB11.size; omega)) | (rw [hn]; exact hB11.trans (hb12.mono (by have := hB11.size; omega)))⟩
      · skip
        have hsh' := Lib.hid hsh
        clear hsh
        go_enter Tryd.func8, Tryd.ntmps8
        go_wp2_with fail
        rw [HW1.out]
        refine hsh'.out.mono ?_
        rintro e w2 ⟨rfl, hb2⟩
        have hbx2 := hbx1.kept hb2
        have hT2 := hT1.below hb2
        have hM2 := hM1.below hb2
        have hW3 := hW2.below hb2 hb2.size
        have hB2 := hB1.trans (hb2.mono (by have := hB1.size; omega))
        clear hbx1 hT1 hM1 hW2 hB1 hb2 hsh' HW1
        have hln := fun (W : World) (hW : Ws W W.heap.size A x.r) (hT : Tab W) => hline_yes x A c W hok hW hT
        have hon := fun W => rone_any x A c W
        have hrl := fun (W : World) (hW : Ws W W.heap.size A x.r) => rhline_any x A c W hok hW
        have hrs := fun (W : World) (hT : Tab W) (hM : Mx W) => hread_any (lineHS x) W (by rw [lineHS_size]; have := lineH_len hok hrr; omega) hT hM
        rw [hok] at hon
        rw [(hread_line hok hrr).1, (hread_line hok hrr).2] at hrs
        obtain ⟨LS, hLS⟩ : ∃ LS, lineHS x = LS := ⟨_, rfl⟩
        rw [hLS] at hln hrl hrs
        unfold clV at hln hon hrl hrs
        have hln' := Lib.hid hln
        have hon' := Lib.hid hon
        have hrl' := Lib.hid hrl
        have hrs' := Lib.hid hrs
        clear hln hon hok hrl hrs hrr
        obtain ⟨d0, d1, d2, d3, d4, d5, d6⟩ := hbx2.cells
        go_wp2_with fail
        refine (hln'.out _ hW3 hT2).mono ?_
        rintro e w3 ⟨rfl, hb3⟩
        have hbx3 := hbx2.kept hb3
        have hT3 := hT2.below hb3
        have hM3 := hM2.below hb3
        have hW4 := hW3.below hb3 hb3.size
        have hB3 := hB2.trans (hb3.mono (by have := hB2.size; omega))
        clear hbx2 hT2 hM2 hB2 hb3 hW3 d0 d1 d2 d3 d4 d5 d6
        obtain ⟨d0, d1, d2, d3, d4, d5, d6⟩ := hbx3.cells
        go_wp2_with fail
        refine (hon'.out _).mono ?_
        rintro e w4 ⟨rfl, hb4⟩
        have hbx4 := hbx3.kept hb4
        have hT4 := hT3.below hb4
        have hM4 := hM3.below hb4
        have hW5 := hW4.below hb4 hb4.size
        have hB4 := hB3.trans (hb4.mono (by have := hB3.size; omega))
        clear hbx3 hT3 hM3 hB3 hb4 hW4 d0 d1 d2 d3 d4 d5 d6
        go_wp2_with fail
        refine (hrs'.out _ hT4 hM4).mono ?_
        rintro e w5 ⟨⟨A5, c5, rfl, hf5⟩, hb5⟩
        have hT5 := hT4.below hb5
        have hM5 := hM4.below hb5
        have hW6 := hW5.below hb5 hb5.size
        have hbx5 := hbx4.kept hb5
        have hB5 := hB4.trans (hb5.mono (by have := hB4.size; omega))
        have hal := (Below.refl w5.heap.size w5).alloc (Nat.le_refl _) (.cells #[.int .i64 x.p, .int .i64 x.o, .int .i64 x.q, .slice A5 x.r.length c5, .int .i64 x.c, .int .i64 x.b, .int .i64 x.e] 45)
        have hT6 := hT5.below hal
        have hM6 := hM5.below hal
        have hW7 := hW6.below hal hal.size
        have hbx6 := hbx5.kept hal
        have hbA := ClBox.new w5 x A5 c5
        have hfA := hf5.below hal
        have hB6 := hB5.alloc (by have := hB5.size; omega) (.cells #[.int .i64 x.p, .int .i64 x.o, .int .i64 x.q, .slice A5 x.r.length c5, .int .i64 x.c, .int .i64 x.b, .int .i64 x.e] 45)
        obtain ⟨n5, hn5⟩ : ∃ n5, w5.heap.size = n5 := ⟨_, rfl⟩
        rw [hn5] at hbA
        obtain ⟨d0, d1, d2, d3, d4, d5, d6⟩ := hbx6.cells
        clear hT5 hM5 hW6 hbx5 hB5 hal hf5 hb5 hT4 hM4 hW5 hbx4 hB4 hrs'
        have tl : (LS.toList == LS.toList) = true := by simp
        go_wp2_with fail
        try rw [hn5]
        refine (hrl'.out _ hW7).mono ?_
        rintro e w7 ⟨rfl, hb7⟩
        have hT7 := hT6.below hb7
        have hM7 := hM6.below hb7
        have hW8 := hW7.below hb7 hb7.size
        have hbx7 := hbx6.kept hb7
        have hbA7 := hbA.kept hb7
        have hfA7 := hfA.below hb7
        have hB7 := hB6.trans (hb7.mono (by have := hB6.size; omega))
        clear d0 d1 d2 d3 d4 d5 d6 hT6 hM6 hW7 hbx6 hbA hfA hB6 hb7 hrl'
        obtain ⟨d0, d1, d2, d3, d4, d5, d6⟩ := hbx7.cells
        obtain ⟨a0, a1, a2, a3, a4, a5, a6⟩ := hbA7.cells
        have hpc := pcall_any x x A5 A c5 c w7 hfA7.1 hW8 (by omega) (by omega)
        rw [clEq_self] at hpc
        unfold clV at hpc
        have hpc' := Lib.hid hpc
        clear hpc
        go_wp2_with fail
        refine hpc'.out.mono ?_
        rintro e w8 ⟨rfl, hb8⟩
        have hT8 := hT7.below hb8
        have hM8 := hM7.below hb8
        have hB8 := hB7.trans (hb8.mono (by have := hB7.size; omega))
        clear d0 d1 d2 d3 d4 d5 d6 a0 a1 a2 a3 a4 a5 a6 hT7 hM7 hW8 hbx7 hbA7 hfA7 hB7 hb8 hpc' hLS tl
        have hrd := hread_any s w8 (by have := hs'.out; omega) hT8 hM8
        obtain ⟨Y, hY⟩ : ∃ Y, hreadX s.data.toList = Y := ⟨_, rfl⟩
        obtain ⟨K, hK⟩ : ∃ K, hreadOk s.data.toList = K := ⟨_, rfl⟩
        have hrr2 := fun W => rhread_any s W (by have := hs'.out; omega)
        rw [hY, hK] at hrd
        simp only [hY, hK] at hrr2
        have hyl : Y.r.length ≤ 1000000 := by
          rw [← hY]
          exact hreadX_len s.data.toList
        unfold clV at hrd hrr2
        have hrd' := Lib.hid hrd
        have hrr2' := Lib.hid hrr2
        clear hrd hrr2 hY hK
        go_wp2_with fail
        refine hrd'.out.mono ?_
        rintro e w7 ⟨⟨A7, c7, rfl, hf7⟩, hb7⟩
        have hB7 := hB8.trans (hb7.mono (by have := hB8.size; omega))
        have hT7 := hT8.below hb7
        have hB8 := hB7.alloc (by have := hB7.size; omega) (.cells #[.int .i64 Y.p, .int .i64 Y.o, .int .i64 Y.q, .slice A7 Y.r.length c7, .int .i64 Y.c, .int .i64 Y.b, .int .i64 Y.e] 45)
        have hbA := ClBox.new w7 Y A7 c7
        have hbAl := (Below.refl w7.heap.size w7).alloc (Nat.le_refl _) (.cells #[.int .i64 Y.p, .int .i64 Y.o, .int .i64 Y.q, .slice A7 Y.r.length c7, .int .i64 Y.c, .int .i64 Y.b, .int .i64 Y.e] 45)
        have hf8 := hf7.below hbAl
        have hT8 := hT7.below hbAl
        obtain ⟨n7, hn7⟩ : ∃ x, w7.heap.size = x := ⟨_, rfl⟩
        go_wp2_with fail
        refine (hrr2'.out _).mono ?_
        rintro e w9 ⟨⟨A9, c9, rfl, hf9⟩, hb9⟩
        have hB9 := hB8.trans (hb9.mono (by have := hB8.size; omega))
        have hT9 := hT8.below hb9
        have hbA9 := hbA.kept hb9
        have hf89 := hf8.below hb9
        have hB10 := hB9.alloc (by have := hB9.size; omega) (.cells #[.int .i64 Y.p, .int .i64 Y.o, .int .i64 Y.q, .slice A9 Y.r.length c9, .int .i64 Y.c, .int .i64 Y.b, .int .i64 Y.e] 45)
        have hbC := ClBox.new w9 Y A9 c9
        have hbCl := (Below.refl w9.heap.size w9).alloc (Nat.le_refl _) (.cells #[.int .i64 Y.p, .int .i64 Y.o, .int .i64 Y.q, .slice A9 Y.r.length c9, .int .i64 Y.c, .int .i64 Y.b, .int .i64 Y.e] 45)
        have hbA10 := hbA9.kept hbCl
        have hfA := hf89.below hbCl
        have hfC := hf9.below hbCl
        have hT10 := hT9.below hbCl
        obtain ⟨n9, hn9⟩ : ∃ x, w9.heap.size = x := ⟨_, rfl⟩
        rw [hn7] at hbA10
        rw [hn9] at hbC
        obtain ⟨a0, a1, a2, a3, a4, a5, a6⟩ := hbA10.cells
        obtain ⟨b0, b1, b2, b3, b4, b5, b6⟩ := hbC.cells
        have hpc := pcall_any Y Y A7 A9 c7 c9 _ hfA.1 hfC.1 (by omega) (by omega)
        rw [clEq_self] at hpc
        unfold clV at hpc
        have hpc' := Lib.hid hpc
        have hKK : (K == K) = true := by simp
        clear hrd' hrr2' hB7 hT7 hB8 hbA hbAl hf7 hf8 hT8 hb7 hb9 hB9 hT9 hbA9 hf89 hbCl hbA10 hbC hfA hfC hf9 hpc hyl
        try rw [hn7]
        go_wp2_with fail
        try rw [hn9]
        refine hpc'.out.mono ?_
        rintro e w11 ⟨rfl, hb11⟩
        have hB11 := hB10.trans (hb11.mono (by have := hB10.size; omega))
        have haw := Lib.hid (hawake_any w11 (hT10.below hb11))
        go_wp2_with fail
        refine haw.out.mono ?_
        rintro e w12 ⟨rfl, hb12⟩
        go_wp2_with fail
        go_ret
        exact ⟨rfl, by first | exact hB11.trans (hb12.mono (by have := hB11.size; omega)) | (rw [hn]; exact hB11.trans (hb12.mono (by have := hB11.size; omega)))⟩

end Go.Proofs.YtkcdmonmgnmojaaDoor
