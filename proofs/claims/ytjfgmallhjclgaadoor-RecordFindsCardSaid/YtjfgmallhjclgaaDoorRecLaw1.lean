/- coxswainlaw04.RecordFinds: the walk of the law. -/
import Derived.Test.YtjfgmallhjclgaaDoorRec3
import Derived.Deep.RegionWith
namespace Go.Proofs.YtjfgmallhjclgaaDoor
open Go.RowKit

set_option maxHeartbeats 1000000 in
theorem law1_big (A A' : Option Addr) (c c' : Nat) (L : List (List Int)) (r : List Int) (w : World) (hn : L.length ≤ 9223372036854775807) (hrn : r.length ≤ 9223372036854775807) (hl : Recs w w.heap.size A L) (hr : Ws w w.heap.size A' r) (hT : Tab w)
    (hbig : fewB L = false ∨ 60 < r.length) :
    Calls Tryd.prog 5 #[.slice A L.length c, .slice A' r.length c'] w fun e w' => e = .returned (.bool true) ∧ Below w.heap.size w w' := by
  rcases hf : fewB L with _ | _
  · go_enter Tryd.func5, Tryd.ntmps5
    go_wp2_with fail
    refine (few_any A c L _ hn hl).mono ?_
    rintro e w1 ⟨rfl, rfl⟩
    rw [hf]
    go_wp2_with fail
    refine (awake_any _ hT).mono ?_
    rintro e w1 ⟨rfl, hb⟩
    go_wp2_with fail
    go_ret
    exact ⟨rfl, hb⟩
  · have h60 : 60 < r.length := by rcases hbig with h | h; rw [hf] at h; cases h; exact h
    go_enter Tryd.func5, Tryd.ntmps5
    go_wp2_with fail
    refine (few_any A c L _ hn hl).mono ?_
    rintro e w1 ⟨rfl, rfl⟩
    rw [hf]
    go_wp2_with fail
    refine (awake_any _ hT).mono ?_
    rintro e w1 ⟨rfl, hb⟩
    go_wp2_with fail
    go_ret
    exact ⟨rfl, hb⟩

set_option maxHeartbeats 1000000 in
theorem law1_small (A A' : Option Addr) (c c' : Nat) (L : List (List Int)) (r : List Int) (w : World) (hn : L.length ≤ 60) (hL : ∀ x ∈ L, x.length ≤ 60) (hrn : r.length ≤ 60) (hl : Recs w w.heap.size A L) (hr : Ws w w.heap.size A' r) (hT : Tab w) (hf : fewB L = true) :
    Calls Tryd.prog 5 #[.slice A L.length c, .slice A' r.length c'] w fun e w' => e = .returned (.bool true) ∧ Below w.heap.size w w' := by
  have hbd := findN_bd L r
  have hI := Lib.hid (show findI L r = if 0 ≤ findN L r then findN L r else 0 from rfl)
  have hBq : findB L r = decide (0 ≤ findN L r) := rfl
  have hLr : ∀ (W : World), Below w.heap.size w W → Recs W W.heap.size A L ∧ Ws W W.heap.size A' r ∧ Tab W := fun W hb => ⟨hl.below hb hb.size, hr.below hb hb.size, hT.below hb⟩
  have hLr' := Lib.hid hLr
  clear hLr
  have hq : ∃ q f b, findN L r = q ∧ findI L r = f ∧ findB L r = b ∧ decide (0 ≤ q) = b ∧ (b = true → f = q) ∧ (b = false → f = 0) := by
    refine ⟨_, _, _, rfl, rfl, rfl, rfl, fun h => ?_, fun h => ?_⟩
    · rw [hI.out, if_pos (by simpa [findB] using h)]
    · rw [hI.out, if_neg (by simpa [findB] using h)]
  obtain ⟨q, f, b, e1, e2, e3, e4, e5, e6⟩ := hq
  have E1 := Lib.hid e1
  have E2 := Lib.hid e2
  have E3 := Lib.hid e3
  clear e1 e2 e3 hI hBq hbd
  cases b with
  | false =>
    obtain rfl := e6 rfl
    clear e5 e6
    rcases L with _ | ⟨y, L⟩
    · go_enter Tryd.func5, Tryd.ntmps5
      go_wp2_with fail
      refine (few_any A c [] _ (by omega) hl).mono ?_
      rintro e w1 ⟨rfl, rfl⟩
      rw [hf]
      go_wp2_with fail
      refine (rfind_any A A' c c' [] r _ hn hrn hL hl hr).mono ?_
      rintro e w1 ⟨rfl, hb1⟩
      rw [E1.out]
      obtain ⟨x1, x2, x3⟩ := hLr'.out _ hb1
      go_wp2_with fail
      refine (find_any A A' c c' [] r _ hn hrn hL x1 x2).mono ?_
      rintro e w2 ⟨rfl, hb2⟩
      rw [E2.out, E3.out]
      replace hb2 := hb1.trans (hb2.mono hb1.size)
      clear hb1 x1 x2 x3
      obtain ⟨x1, x2, x3⟩ := hLr'.out _ hb2
      go_wp2_with fail
      refine (copy_any A' c' r _ hrn x2).mono ?_
      rintro e w3 ⟨v, rfl, hov, hb3⟩
      replace hb3 := hb2.trans (hb3.mono hb2.size)
      clear hb2 x1 x2 x3
      obtain ⟨x1, x2, x3⟩ := hLr'.out _ hb3
      go_wp2_with fail
      refine (mixed_any A A' c c' [] r _ hn hrn hL x1 x2).mono ?_
      rintro e w4 ⟨rfl, hb4⟩
      replace hov := hov.below hb4 (Nat.le_refl _)
      replace hb4 := hb3.trans (hb4.mono hb3.size)
      clear hb3 x1 x2 x3
      obtain ⟨x1, x2, x3⟩ := hLr'.out _ hb4
      go_wp2_with fail
      refine (rmixed_any A A' c c' [] r _ hn hrn hL x1 x2).mono ?_
      rintro e w5 ⟨rfl, hb5⟩
      replace hov := hov.below hb5 (Nat.le_refl _)
      replace hb5 := hb4.trans (hb5.mono hb4.size)
      clear hb4 x1 x2 x3
      obtain ⟨x1, x2, x3⟩ := hLr'.out _ hb5
      obtain ⟨Ac, cc, rfl, _, hwc⟩ := hov.ws
      go_wp2_with fail
      refine (words_any Ac A' cc c' r r _ (by omega) (by omega) hwc x2).mono ?_
      rintro e w6 ⟨rfl, hb6⟩
      rw [decide_eq_true (rfl : r = r)]
      replace hb6 := hb5.trans (hb6.mono hb5.size)
      clear hb5 x1 x2 x3 hov hwc
      obtain ⟨x1, x2, x3⟩ := hLr'.out _ hb6
      go_wp2_with fail
      obtain ⟨ι, WW, i0, hi0, hWb, hcov⟩ := class_of w6
      have hTT : ∀ i, Tab (WW i) := fun i => x3.below (hWb i)
      haveI : Nonempty ι := ⟨i0⟩
      refine wp_region_class hi0 (by kernel_rfl) (by kernel_rfl) ?_
      repeat (go_big_quiet_step ((go_at_call 11; exact class_call hcov (awake_any _ (hTT _)))))
      refine wpQuiet_nil ?_
      rintro _ ⟨i, rfl⟩
      go_wp2_with fail
      go_ret
      exact ⟨rfl, hb6.trans ((hWb i).mono hb6.size)⟩
    · go_enter Tryd.func5, Tryd.ntmps5
      go_wp2_with fail
      refine (few_any A c (y :: L) _ (by omega) hl).mono ?_
      rintro e w1 ⟨rfl, rfl⟩
      rw [hf]
      go_wp2_with fail
      refine (rfind_any A A' c c' (y :: L) r _ hn hrn hL hl hr).mono ?_
      rintro e w1 ⟨rfl, hb1⟩
      rw [E1.out]
      obtain ⟨x1, x2, x3⟩ := hLr'.out _ hb1
      go_wp2_with fail
      refine (find_any A A' c c' (y :: L) r _ hn hrn hL x1 x2).mono ?_
      rintro e w2 ⟨rfl, hb2⟩
      rw [E2.out, E3.out]
      replace hb2 := hb1.trans (hb2.mono hb1.size)
      clear hb1 x1 x2 x3
      obtain ⟨x1, x2, x3⟩ := hLr'.out _ hb2
      go_wp2_with fail
      refine (copy_any A' c' r _ hrn x2).mono ?_
      rintro e w3 ⟨v, rfl, hov, hb3⟩
      replace hb3 := hb2.trans (hb3.mono hb2.size)
      clear hb2 x1 x2 x3
      obtain ⟨x1, x2, x3⟩ := hLr'.out _ hb3
      go_wp2_with fail
      refine (mixed_any A A' c c' (y :: L) r _ hn hrn hL x1 x2).mono ?_
      rintro e w4 ⟨rfl, hb4⟩
      replace hov := hov.below hb4 (Nat.le_refl _)
      replace hb4 := hb3.trans (hb4.mono hb3.size)
      clear hb3 x1 x2 x3
      obtain ⟨x1, x2, x3⟩ := hLr'.out _ hb4
      go_wp2_with fail
      refine (rmixed_any A A' c c' (y :: L) r _ hn hrn hL x1 x2).mono ?_
      rintro e w5 ⟨rfl, hb5⟩
      replace hov := hov.below hb5 (Nat.le_refl _)
      replace hb5 := hb4.trans (hb5.mono hb4.size)
      clear hb4 x1 x2 x3
      obtain ⟨x1, x2, x3⟩ := hLr'.out _ hb5
      obtain ⟨Ac, cc, rfl, _, hwc⟩ := hov.ws
      go_wp2_with fail
      refine (words_any Ac A' cc c' r r _ (by omega) (by omega) hwc x2).mono ?_
      rintro e w6 ⟨rfl, hb6⟩
      rw [decide_eq_true (rfl : r = r)]
      replace hb6 := hb5.trans (hb6.mono hb5.size)
      clear hb5 x1 x2 x3 hov hwc
      obtain ⟨x1, x2, x3⟩ := hLr'.out _ hb6
      go_wp2_with fail
      have hyl := hL y (by simp)
      obtain ⟨b0, o0, Ay, cy, rfl, hbl, hcell, hws, _⟩ := x1 0 y rfl
      obtain ⟨ι, WW, i0, hi0, hWb, hcov⟩ := class_of w6
      have hTT : ∀ i, Tab (WW i) := fun i => x3.below (hWb i)
      have hyy : ∀ i, Ws (WW i) (WW i).heap.size Ay y := fun i => hws.below (hWb i) (hWb i).size
      have hrr : ∀ i, Ws (WW i) (WW i).heap.size A' r := fun i => x2.below (hWb i) (hWb i).size
      have hcc : ∀ i, (WW i).cell? ⟨b0, o0, none⟩ = some (.slice Ay y.length cy) := fun i => ((hWb i).cell (p := ⟨b0, o0, none⟩) hbl).trans (by simpa using hcell)
      have hne : ((L.length : Int) + 1 == 0) = false := by rw [beq_eq_false_iff_ne]; omega
      have hnz : (0 : Int) < (L.length : Int) + 1 := by omega
      haveI : Nonempty ι := ⟨i0⟩
      refine wp_region_class hi0 (by kernel_rfl) (by kernel_rfl) ?_
      repeat (go_big_quiet_step (first
        | (go_at_call 19; exact class_call hcov (same_any Ay A' cy c' y r _ (by omega) (by omega) (hyy _) (hrr _)))
        | (go_at_call 12; exact class_call hcov (rsame_any Ay A' cy c' y r _ (by omega) (by omega) (hyy _) (hrr _)))
        | (go_at_call 11; exact class_call hcov (awake_any _ (hTT _)))))
      refine wpQuiet_nil ?_
      rintro _ ⟨i, rfl⟩
      go_wp2_with fail
      go_ret
      exact ⟨rfl, hb6.trans ((hWb i).mono hb6.size)⟩
  | true =>
    obtain rfl := e5 rfl
    clear e5 e6
    rcases L with _ | ⟨y, L⟩
    · exfalso
      have h9 := E1.out
      have h10 : findN [] r = -1 := rfl
      rw [h10] at h9
      subst h9
      simp at e4
    · go_enter Tryd.func5, Tryd.ntmps5
      go_wp2_with fail
      refine (few_any A c (y :: L) _ (by omega) hl).mono ?_
      rintro e w1 ⟨rfl, rfl⟩
      rw [hf]
      go_wp2_with fail
      refine (rfind_any A A' c c' (y :: L) r _ hn hrn hL hl hr).mono ?_
      rintro e w1 ⟨rfl, hb1⟩
      rw [E1.out]
      obtain ⟨x1, x2, x3⟩ := hLr'.out _ hb1
      go_wp2_with fail
      refine (find_any A A' c c' (y :: L) r _ hn hrn hL x1 x2).mono ?_
      rintro e w2 ⟨rfl, hb2⟩
      rw [E2.out, E3.out]
      replace hb2 := hb1.trans (hb2.mono hb1.size)
      clear hb1 x1 x2 x3
      obtain ⟨x1, x2, x3⟩ := hLr'.out _ hb2
      go_wp2_with fail
      refine (copy_any A' c' r _ hrn x2).mono ?_
      rintro e w3 ⟨v, rfl, hov, hb3⟩
      replace hb3 := hb2.trans (hb3.mono hb2.size)
      clear hb2 x1 x2 x3
      obtain ⟨x1, x2, x3⟩ := hLr'.out _ hb3
      go_wp2_with fail
      refine (mixed_any A A' c c' (y :: L) r _ hn hrn hL x1 x2).mono ?_
      rintro e w4 ⟨rfl, hb4⟩
      replace hov := hov.below hb4 (Nat.le_refl _)
      replace hb4 := hb3.trans (hb4.mono hb3.size)
      clear hb3 x1 x2 x3
      obtain ⟨x1, x2, x3⟩ := hLr'.out _ hb4
      go_wp2_with fail
      refine (rmixed_any A A' c c' (y :: L) r _ hn hrn hL x1 x2).mono ?_
      rintro e w5 ⟨rfl, hb5⟩
      replace hov := hov.below hb5 (Nat.le_refl _)
      replace hb5 := hb4.trans (hb5.mono hb4.size)
      clear hb4 x1 x2 x3
      obtain ⟨x1, x2, x3⟩ := hLr'.out _ hb5
      obtain ⟨Ac, cc, rfl, _, hwc⟩ := hov.ws
      go_wp2_with fail
      refine (words_any Ac A' cc c' r r _ (by omega) (by omega) hwc x2).mono ?_
      rintro e w6 ⟨rfl, hb6⟩
      rw [decide_eq_true (rfl : r = r)]
      replace hb6 := hb5.trans (hb6.mono hb5.size)
      clear hb5 x1 x2 x3 hov hwc
      obtain ⟨x1, x2, x3⟩ := hLr'.out _ hb6
      go_wp2_with fail
      have hyl := hL y (by simp)
      obtain ⟨b0, o0, Ay, cy, rfl, hbl, hcell, hws, _⟩ := x1 0 y rfl
      obtain ⟨ι, WW, i0, hi0, hWb, hcov⟩ := class_of w6
      have hTT : ∀ i, Tab (WW i) := fun i => x3.below (hWb i)
      have hyy : ∀ i, Ws (WW i) (WW i).heap.size Ay y := fun i => hws.below (hWb i) (hWb i).size
      have hrr : ∀ i, Ws (WW i) (WW i).heap.size A' r := fun i => x2.below (hWb i) (hWb i).size
      have hcc : ∀ i, (WW i).cell? ⟨b0, o0, none⟩ = some (.slice Ay y.length cy) := fun i => ((hWb i).cell (p := ⟨b0, o0, none⟩) hbl).trans (by simpa using hcell)
      have hne : ((L.length : Int) + 1 == 0) = false := by rw [beq_eq_false_iff_ne]; omega
      have hnz : (0 : Int) < (L.length : Int) + 1 := by omega
      haveI : Nonempty ι := ⟨i0⟩
      refine wp_region_class hi0 (by kernel_rfl) (by kernel_rfl) ?_
      repeat (go_big_quiet_step (first
        | (go_at_call 19; exact class_call hcov (same_any Ay A' cy c' y r _ (by omega) (by omega) (hyy _) (hrr _)))
        | (go_at_call 12; exact class_call hcov (rsame_any Ay A' cy c' y r _ (by omega) (by omega) (hyy _) (hrr _)))
        | (go_at_call 11; exact class_call hcov (awake_any _ (hTT _)))))
      refine wpQuiet_nil ?_
      rintro _ ⟨i, rfl⟩
      go_wp2_with fail
      go_ret
      exact ⟨rfl, hb6.trans ((hWb i).mono hb6.size)⟩

end Go.Proofs.YtjfgmallhjclgaaDoor
