/- The statement ObjectKinds. -/
import Derived.Test.YtgjcniokgdicpaaGreatDoorObK
namespace Go.Proofs.YtgjcniokgdicpaaGreatDoor
open Go.RowKit
attribute [local go_sem] Oper.semAt_some

def oA (k : Int) : Int := if isK k = true then (if k = 6 then 3 else 2) else 0
def oB (k : Int) : Int := if isK k = true then (if k = 6 then 4 else 1) else 0
theorem isK_cases (k : Int) : (isK k = true ∧ (k = 1 ∨ k = 2 ∨ k = 3 ∨ k = 4 ∨ k = 5 ∨ k = 6)) ∨ (isK k = false ∧ k ≠ 1 ∧ k ≠ 2 ∧ k ≠ 3 ∧ k ≠ 4 ∧ k ≠ 5 ∧ k ≠ 6) := by
  unfold isK
  by_cases h1 : 1 ≤ k <;> by_cases h2 : k ≤ 6
  · left
    rw [decide_eq_true h1, decide_eq_true h2]
    exact ⟨rfl, by omega⟩
  · right
    rw [decide_eq_false h2, Bool.and_false]
    exact ⟨rfl, by omega, by omega, by omega, by omega, by omega, by omega⟩
  · right
    rw [decide_eq_false h1, Bool.false_and]
    exact ⟨rfl, by omega, by omega, by omega, by omega, by omega, by omega⟩
  · omega
set_option maxRecDepth 100000 in
theorem oops_any (k : Int) (w : World) : Calls Tryz.prog 8 #[.int .i64 k] w fun e w' => e = .returned (.tuple #[.int .i64 (oA k), .int .i64 (oB k), .bool (isK k)]) ∧ w' = w := by
  rcases isK_cases k with ⟨hk, rfl | rfl | rfl | rfl | rfl | rfl⟩ | ⟨hk, h1, h2, h3, h4, h5, h6⟩
  · go_enter Tryz.func8, Tryz.ntmps8
    go_wp2_with fail
    refine bodyPost_ret (v := .tuple #[.int .i64 (oA 1), .int .i64 (oB 1), .bool (isK 1)]) (by simp [results, go_sem, oA, oB, isK]) rfl ?_
    exact ⟨rfl, rfl⟩
  · go_enter Tryz.func8, Tryz.ntmps8
    go_wp2_with fail
    refine bodyPost_ret (v := .tuple #[.int .i64 (oA 2), .int .i64 (oB 2), .bool (isK 2)]) (by simp [results, go_sem, oA, oB, isK]) rfl ?_
    exact ⟨rfl, rfl⟩
  · go_enter Tryz.func8, Tryz.ntmps8
    go_wp2_with fail
    refine bodyPost_ret (v := .tuple #[.int .i64 (oA 3), .int .i64 (oB 3), .bool (isK 3)]) (by simp [results, go_sem, oA, oB, isK]) rfl ?_
    exact ⟨rfl, rfl⟩
  · go_enter Tryz.func8, Tryz.ntmps8
    go_wp2_with fail
    refine bodyPost_ret (v := .tuple #[.int .i64 (oA 4), .int .i64 (oB 4), .bool (isK 4)]) (by simp [results, go_sem, oA, oB, isK]) rfl ?_
    exact ⟨rfl, rfl⟩
  · go_enter Tryz.func8, Tryz.ntmps8
    go_wp2_with fail
    refine bodyPost_ret (v := .tuple #[.int .i64 (oA 5), .int .i64 (oB 5), .bool (isK 5)]) (by simp [results, go_sem, oA, oB, isK]) rfl ?_
    exact ⟨rfl, rfl⟩
  · go_enter Tryz.func8, Tryz.ntmps8
    go_wp2_with fail
    refine bodyPost_ret (v := .tuple #[.int .i64 (oA 6), .int .i64 (oB 6), .bool (isK 6)]) (by simp [results, go_sem, oA, oB, isK]) rfl ?_
    exact ⟨rfl, rfl⟩
  · have a1 : (k == 1) = false := by rw [beq_eq_false_iff_ne]; exact h1
    have a2 : (k == 2) = false := by rw [beq_eq_false_iff_ne]; exact h2
    have a3 : (k == 3) = false := by rw [beq_eq_false_iff_ne]; exact h3
    have a4 : (k == 4) = false := by rw [beq_eq_false_iff_ne]; exact h4
    have a5 : (k == 5) = false := by rw [beq_eq_false_iff_ne]; exact h5
    have a6 : (k == 6) = false := by rw [beq_eq_false_iff_ne]; exact h6
    have e1 : oA k = 0 := by unfold oA; rw [hk]; rfl
    have e2 : oB k = 0 := by unfold oB; rw [hk]; rfl
    rw [e1, e2, hk]
    clear e1 e2 hk h1 h2 h3 h4 h5 h6
    go_enter Tryz.func8, Tryz.ntmps8
    go_wp2_with fail
    refine bodyPost_ret (v := .tuple #[.int .i64 0, .int .i64 0, .bool false]) (by simp [results, go_sem]) rfl ?_
    exact ⟨rfl, rfl⟩
theorem rWrites_any (k : Int) (w : World) (hk : isK k = true) : Calls Tryz.prog 9 #[.int .i64 k] w fun e w' => e = .returned (.int .i64 (oA k)) ∧ w' = w := by
  unfold oA
  rw [if_pos hk]
  by_cases h : k = 6
  · rw [if_pos h]
    have t : (k == 6) = true := by rw [h]; rfl
    clear hk h
    go_enter Tryz.func9, Tryz.ntmps9
    go_wp2_with fail
    go_ret
    exact ⟨rfl, rfl⟩
  · rw [if_neg h]
    have t : (k == 6) = false := by rw [beq_eq_false_iff_ne]; exact h
    clear hk h
    go_enter Tryz.func9, Tryz.ntmps9
    go_wp2_with fail
    go_ret
    exact ⟨rfl, rfl⟩
theorem rReads_any (k : Int) (w : World) (hk : isK k = true) : Calls Tryz.prog 10 #[.int .i64 k] w fun e w' => e = .returned (.int .i64 (oB k)) ∧ w' = w := by
  unfold oB
  rw [if_pos hk]
  by_cases h : k = 6
  · rw [if_pos h]
    have t : (k == 6) = true := by rw [h]; rfl
    clear hk h
    go_enter Tryz.func10, Tryz.ntmps10
    go_wp2_with fail
    go_ret
    exact ⟨rfl, rfl⟩
  · rw [if_neg h]
    have t : (k == 6) = false := by rw [beq_eq_false_iff_ne]; exact h
    clear hk h
    go_enter Tryz.func10, Tryz.ntmps10
    go_wp2_with fail
    go_ret
    exact ⟨rfl, rfl⟩
/-- What is found of a word among the first k. -/
def wantTo (x : List UInt8) : Nat → Int
  | 0 => 0
  | k + 1 => if 0 < k ∧ kindsW.getD k [] = x then (k : Int) else wantTo x k
theorem wantTo_succ {x y : List UInt8} {k : Nat} (h : kindsW[k]? = some y) : wantTo x (k + 1) = if 0 < k ∧ y = x then (k : Int) else wantTo x k := by
  show (if 0 < k ∧ kindsW.getD k [] = x then (k : Int) else wantTo x k) = _
  rw [List.getD_eq_getElem?_getD, h]
  rfl
theorem wantTo_all (x : List UInt8) : wantTo x 7 = kidx x + 1 := by
  by_cases h0 : x = [102, 111, 117, 114]
  · subst h0; decide
  by_cases h1 : x = [99, 104, 101, 110]
  · subst h1; decide
  by_cases h2 : x = [115, 101, 113]
  · subst h2; decide
  by_cases h3 : x = [114, 105, 110, 103]
  · subst h3; decide
  by_cases h4 : x = [99, 97, 98]
  · subst h4; decide
  by_cases h5 : x = [102, 105, 102, 111]
  · subst h5; decide
  have e0 : ([102, 111, 117, 114] : List UInt8) ≠ x := fun e => h0 e.symm
  have e1 : ([99, 104, 101, 110] : List UInt8) ≠ x := fun e => h1 e.symm
  have e2 : ([115, 101, 113] : List UInt8) ≠ x := fun e => h2 e.symm
  have e3 : ([114, 105, 110, 103] : List UInt8) ≠ x := fun e => h3 e.symm
  have e4 : ([99, 97, 98] : List UInt8) ≠ x := fun e => h4 e.symm
  have e5 : ([102, 105, 102, 111] : List UInt8) ≠ x := fun e => h5 e.symm
  have a : wantTo x 7 = 0 := by simp [wantTo, kindsW, kindsT, e0, e1, e2, e3, e4, e5]
  have b : kidx x = -1 := by
    unfold kidx
    rw [show (kindsT.findIdx? fun z => z == x) = none from by rw [List.findIdx?_eq_none_iff]; simp [kindsT, e0, e1, e2, e3, e4, e5]]
  rw [a, b]
  rfl
theorem kword_no {k : Int} (h : isK k = false) : kword k = [] := by
  unfold kword
  by_cases h0 : 0 ≤ k ∧ k ≤ 6
  · rw [if_pos h0]
    rcases isK_cases k with ⟨h1, _⟩ | ⟨_, h1, h2, h3, h4, h5, h6⟩
    · rw [h] at h1; cases h1
    · have : k = 0 := by omega
      subst this
      rfl
  · rw [if_neg h0]
theorem kword_nat {k : Nat} {y : List UInt8} (h : kindsW[k]? = some y) : kword (k : Int) = y := by
  have hl := (List.getElem?_eq_some_iff.1 h).1
  have : kindsW.length = 7 := rfl
  unfold kword
  rw [if_pos (by omega), Int.toNat_natCast, List.getD_eq_getElem?_getD, h]
  rfl
theorem dec_isK (k : Int) : isK k = (decide (1 ≤ k) && decide (k ≤ 6)) := rfl

set_option maxRecDepth 100000 in
set_option maxHeartbeats 8000000 in
theorem objectKinds_any (kind : Int) (s : ByteArray) (w : World) : Calls Tryz.prog 3 #[.int .i64 kind, .string s] w fun e w' => e = .returned (.bool true) ∧ Below w.heap.size w w' := by
  by_cases hs : 100 < s.size
  · have t1 : decide ((100 : Int) < (s.size : Int)) = true := by rw [decide_eq_true_iff]; omega
    have t2 : decide (100 < s.size) = true := by rw [decide_eq_true_iff]; exact hs
    have ha := Lib.hid (kawake_any w)
    clear hs
    go_enter Tryz.func3, Tryz.ntmps3
    go_wp2_with fail
    refine ha.out.mono ?_
    rintro e w1 ⟨rfl, hb⟩
    go_wp2_with fail
    go_ret
    exact ⟨rfl, hb⟩
  have hlen : s.data.toList.length = s.size := Array.length_toList
  obtain ⟨l, hl⟩ : ∃ l : List UInt8, s = ⟨l.toArray⟩ := ⟨s.data.toList, by cases s; simp⟩
  have hll : l.length ≤ 100 := by rw [hl] at hs; simp [ByteArray.size] at hs; omega
  subst hl
  have t1 : decide ((100 : Int) < (l.length : Int)) = false := by rw [decide_eq_false_iff_not]; omega
  have t2 : decide (100 < l.length) = false := by rw [decide_eq_false_iff_not]; omega
  have t3 : decide ((100 : Int) < ((⟨l.toArray⟩ : ByteArray).size : Int)) = false := by rw [decide_eq_false_iff_not]; simp [ByteArray.size]; omega
  have t4 : decide (100 < (⟨l.toArray⟩ : ByteArray).size) = false := by rw [decide_eq_false_iff_not]; simp [ByteArray.size]; omega
  clear hs hlen hll
  have hop := Lib.hid (oops_any kind w)
  have hkw := Lib.hid fun W => kword_any kind W
  have hkk := Lib.hid fun W => kkind_any l W
  have hlast := Lib.hid (wantTo_all l)
  rcases hk : isK kind with _ | _
  · skip
    have o1 := oops_any kind w
    have ha : oA kind = 0 := by unfold oA; rw [hk]; rfl
    have hb : oB kind = 0 := by unfold oB; rw [hk]; rfl
    rw [hk, ha, hb] at o1
    have hop := Lib.hid o1
    have hkn := Lib.hid (kword_no hk)
    unfold isK at hk
    clear o1 ha hb
    have te : ((⟨#[]⟩ : ByteArray).toList.isEmpty) = true := by rw [ByteArray.toList_eq]; rfl
    rcases k1 : decide (1 ≤ kind) with _ | _
    · skip
      clear hk
      go_enter Tryz.func3, Tryz.ntmps3
      go_wp2_with fail
      refine hop.out.mono ?_
      rintro e w1 ⟨rfl, hw1⟩
      rw [hw1]
      clear hw1
      go_wp2_with fail
      refine (rkwords_any _).mono ?_
      rintro e w2 ⟨b0, rfl, hc, hb0, hB⟩
      have HC := Lib.hid hc
      clear hc
      go_wp2_with fail
      go_loopw [9, 10, 11, 12, 61] (fun m f _ _ j wr => ∃ k : Nat, k ≤ 7 ∧ j = .int .i64 k ∧ m = .int .i64 (wantTo l k) ∧ f = .bool (decide (0 < wantTo l k)) ∧ Below w2.heap.size w2 wr ∧ Below w.heap.size w wr) (fun _ _ _ _ j _ => 7 - (intOf j).toNat)
      case atStart => exact ⟨0, Nat.zero_le _, rfl, rfl, rfl, Below.refl _ _, hB⟩
      case round =>
        obtain ⟨k, hk7, rfl, rfl, rfl, hbr, hBr⟩ := hrel
        by_cases hlt : k < 7
        · obtain ⟨z, hz⟩ := get_some (show k < kindsW.length from hlt)
          have hcz := (hbr.cell (p := ⟨b0, k, none⟩) hb0).trans (HC.out k z hz)
          have hki : (k : Int) < 7 := by omega
          have hk0 : (0 : Int) ≤ (k : Int) := by omega
          have hws := wantTo_succ (x := l) hz
          have hkn2 := Lib.hid (kword_nat hz)
          clear hz
          obtain ⟨m, hm⟩ : ∃ m, wantTo l k = m := ⟨_, rfl⟩
          rw [hm] at hws ⊢
          have hsz := hbr.size
          by_cases hcase : 0 < k ∧ z = l
          · rw [if_pos hcase] at hws
            have HWS := Lib.hid hws
            obtain ⟨q1, q2⟩ := hcase
            have u1 : decide (0 < k) = true := decide_eq_true q1
            have u2 : (z == l) = true := by rw [q2]; exact beq_self_eq_true _
            have HQ := Lib.hid q1
            clear hws q1 q2 hm
            by_cases hkk2 : (k : Int) = kind
            · have u3 : ((k : Int) == kind) = true := by rw [hkk2]; exact beq_self_eq_true _
              have hkw2 := Lib.hid (show ∀ W, Calls Tryz.prog 12 #[.int .i64 kind] W fun e w' => e = .returned (.string ⟨z.toArray⟩) ∧ Below W.heap.size W w' from fun W => by have := hkw.out W; rw [← hkk2, hkn2.out] at this; rw [← hkk2]; exact this)
              have hkk2' := Lib.hid hkk2
              clear hkk2
              go_wp2_with fail
              refine (hkw2.out _).mono ?_
              rintro e w3 ⟨rfl, hb3⟩
              go_wp2_with fail
              go_roundw
              case rel => exact ⟨k + 1, by omega, by go_num, by rw [HWS.out], by rw [HWS.out]; exact congrArg Value.bool (decide_eq_true (by have := HQ.out; omega)).symm, hbr.trans (hb3.mono hsz), hBr.trans (hb3.mono hBr.size)⟩
              case measure => simp [intOf]; omega
            · have u3 : ((k : Int) == kind) = false := by rw [beq_eq_false_iff_ne]; exact hkk2
              have hkk2' := Lib.hid hkk2
              clear hkk2
              go_wp2_with fail
              go_roundw
              case rel => exact ⟨k + 1, by omega, by go_num, by rw [HWS.out], by rw [HWS.out]; exact congrArg Value.bool (decide_eq_true (by have := HQ.out; omega)).symm, hbr, hBr⟩
              case measure => simp [intOf]; omega
          · rw [if_neg hcase] at hws
            have HWS := Lib.hid hws
            have hcs : decide (0 < k) = false ∨ (decide (0 < k) = true ∧ (z == l) = false) := by
              by_cases q : 0 < k
              · exact .inr ⟨decide_eq_true q, by rw [beq_eq_false_iff_ne]; exact fun e => hcase ⟨q, e⟩⟩
              · exact .inl (decide_eq_false q)
            clear hws hcase hm
            by_cases hkk2 : (k : Int) = kind
            · have u3 : ((k : Int) == kind) = true := by rw [hkk2]; exact beq_self_eq_true _
              have hkw2 := Lib.hid (show ∀ W, Calls Tryz.prog 12 #[.int .i64 kind] W fun e w' => e = .returned (.string ⟨z.toArray⟩) ∧ Below W.heap.size W w' from fun W => by have := hkw.out W; rw [← hkk2, hkn2.out] at this; rw [← hkk2]; exact this)
              have hkk2' := Lib.hid hkk2
              clear hkk2
              rcases hcs with u1 | ⟨u1, u2⟩
              all_goals
                go_wp2_with fail
                refine (hkw2.out _).mono ?_
                rintro e w3 ⟨rfl, hb3⟩
                go_wp2_with fail
                go_roundw
                case rel => exact ⟨k + 1, by omega, by go_num, by rw [HWS.out], by rw [HWS.out], hbr.trans (hb3.mono hsz), hBr.trans (hb3.mono hBr.size)⟩
                case measure => simp [intOf]; omega
            · have u3 : ((k : Int) == kind) = false := by rw [beq_eq_false_iff_ne]; exact hkk2
              have hkk2' := Lib.hid hkk2
              clear hkk2
              rcases hcs with u1 | ⟨u1, u2⟩
              all_goals
                go_wp2_with fail
                go_roundw
                case rel => exact ⟨k + 1, by omega, by go_num, by rw [HWS.out], by rw [HWS.out], hbr, hBr⟩
                case measure => simp [intOf]; omega
        · have h7 : k = 7 := by omega
          subst h7
          rw [hlast.out]
          go_wp2_with fail
          refine (hkk.out _).mono ?_
          rintro e w3 ⟨rfl, hb3⟩
          have hB3 := hBr.trans (hb3.mono hBr.size)
          obtain ⟨q, hq⟩ : ∃ q, kidx l + 1 = q := ⟨_, rfl⟩
          have hkw3 := Lib.hid (show ∀ W, Calls Tryz.prog 12 #[.int .i64 kind] W fun e w' => e = .returned (.string ⟨#[]⟩) ∧ Below W.heap.size W w' from fun W => by have := hkw.out W; rw [hkn.out] at this; exact this)
          go_wp2_with fail
          refine (hkw3.out _).mono ?_
          rintro e w4 ⟨rfl, hb4⟩
          have hB4 := hB3.trans (hb4.mono hB3.size)
          have haw := Lib.hid (kawake_any w4)
          go_wp2_with fail
          refine haw.out.mono ?_
          rintro e w5 ⟨rfl, hb5⟩
          go_wp2_with fail
          go_ret
          exact ⟨rfl, hB4.trans (hb5.mono hB4.size)⟩
    · skip
      have k2 : decide (kind ≤ 6) = false := by rw [k1, Bool.true_and] at hk; exact hk
      clear hk
      go_enter Tryz.func3, Tryz.ntmps3
      go_wp2_with fail
      refine hop.out.mono ?_
      rintro e w1 ⟨rfl, hw1⟩
      rw [hw1]
      clear hw1
      go_wp2_with fail
      refine (rkwords_any _).mono ?_
      rintro e w2 ⟨b0, rfl, hc, hb0, hB⟩
      have HC := Lib.hid hc
      clear hc
      go_wp2_with fail
      go_loopw [9, 10, 11, 12, 61] (fun m f _ _ j wr => ∃ k : Nat, k ≤ 7 ∧ j = .int .i64 k ∧ m = .int .i64 (wantTo l k) ∧ f = .bool (decide (0 < wantTo l k)) ∧ Below w2.heap.size w2 wr ∧ Below w.heap.size w wr) (fun _ _ _ _ j _ => 7 - (intOf j).toNat)
      case atStart => exact ⟨0, Nat.zero_le _, rfl, rfl, rfl, Below.refl _ _, hB⟩
      case round =>
        obtain ⟨k, hk7, rfl, rfl, rfl, hbr, hBr⟩ := hrel
        by_cases hlt : k < 7
        · obtain ⟨z, hz⟩ := get_some (show k < kindsW.length from hlt)
          have hcz := (hbr.cell (p := ⟨b0, k, none⟩) hb0).trans (HC.out k z hz)
          have hki : (k : Int) < 7 := by omega
          have hk0 : (0 : Int) ≤ (k : Int) := by omega
          have hws := wantTo_succ (x := l) hz
          have hkn2 := Lib.hid (kword_nat hz)
          clear hz
          obtain ⟨m, hm⟩ : ∃ m, wantTo l k = m := ⟨_, rfl⟩
          rw [hm] at hws ⊢
          have hsz := hbr.size
          by_cases hcase : 0 < k ∧ z = l
          · rw [if_pos hcase] at hws
            have HWS := Lib.hid hws
            obtain ⟨q1, q2⟩ := hcase
            have u1 : decide (0 < k) = true := decide_eq_true q1
            have u2 : (z == l) = true := by rw [q2]; exact beq_self_eq_true _
            have HQ := Lib.hid q1
            clear hws q1 q2 hm
            by_cases hkk2 : (k : Int) = kind
            · have u3 : ((k : Int) == kind) = true := by rw [hkk2]; exact beq_self_eq_true _
              have hkw2 := Lib.hid (show ∀ W, Calls Tryz.prog 12 #[.int .i64 kind] W fun e w' => e = .returned (.string ⟨z.toArray⟩) ∧ Below W.heap.size W w' from fun W => by have := hkw.out W; rw [← hkk2, hkn2.out] at this; rw [← hkk2]; exact this)
              have hkk2' := Lib.hid hkk2
              clear hkk2
              go_wp2_with fail
              refine (hkw2.out _).mono ?_
              rintro e w3 ⟨rfl, hb3⟩
              go_wp2_with fail
              go_roundw
              case rel => exact ⟨k + 1, by omega, by go_num, by rw [HWS.out], by rw [HWS.out]; exact congrArg Value.bool (decide_eq_true (by have := HQ.out; omega)).symm, hbr.trans (hb3.mono hsz), hBr.trans (hb3.mono hBr.size)⟩
              case measure => simp [intOf]; omega
            · have u3 : ((k : Int) == kind) = false := by rw [beq_eq_false_iff_ne]; exact hkk2
              have hkk2' := Lib.hid hkk2
              clear hkk2
              go_wp2_with fail
              go_roundw
              case rel => exact ⟨k + 1, by omega, by go_num, by rw [HWS.out], by rw [HWS.out]; exact congrArg Value.bool (decide_eq_true (by have := HQ.out; omega)).symm, hbr, hBr⟩
              case measure => simp [intOf]; omega
          · rw [if_neg hcase] at hws
            have HWS := Lib.hid hws
            have hcs : decide (0 < k) = false ∨ (decide (0 < k) = true ∧ (z == l) = false) := by
              by_cases q : 0 < k
              · exact .inr ⟨decide_eq_true q, by rw [beq_eq_false_iff_ne]; exact fun e => hcase ⟨q, e⟩⟩
              · exact .inl (decide_eq_false q)
            clear hws hcase hm
            by_cases hkk2 : (k : Int) = kind
            · have u3 : ((k : Int) == kind) = true := by rw [hkk2]; exact beq_self_eq_true _
              have hkw2 := Lib.hid (show ∀ W, Calls Tryz.prog 12 #[.int .i64 kind] W fun e w' => e = .returned (.string ⟨z.toArray⟩) ∧ Below W.heap.size W w' from fun W => by have := hkw.out W; rw [← hkk2, hkn2.out] at this; rw [← hkk2]; exact this)
              have hkk2' := Lib.hid hkk2
              clear hkk2
              rcases hcs with u1 | ⟨u1, u2⟩
              all_goals
                go_wp2_with fail
                refine (hkw2.out _).mono ?_
                rintro e w3 ⟨rfl, hb3⟩
                go_wp2_with fail
                go_roundw
                case rel => exact ⟨k + 1, by omega, by go_num, by rw [HWS.out], by rw [HWS.out], hbr.trans (hb3.mono hsz), hBr.trans (hb3.mono hBr.size)⟩
                case measure => simp [intOf]; omega
            · have u3 : ((k : Int) == kind) = false := by rw [beq_eq_false_iff_ne]; exact hkk2
              have hkk2' := Lib.hid hkk2
              clear hkk2
              rcases hcs with u1 | ⟨u1, u2⟩
              all_goals
                go_wp2_with fail
                go_roundw
                case rel => exact ⟨k + 1, by omega, by go_num, by rw [HWS.out], by rw [HWS.out], hbr, hBr⟩
                case measure => simp [intOf]; omega
        · have h7 : k = 7 := by omega
          subst h7
          rw [hlast.out]
          go_wp2_with fail
          refine (hkk.out _).mono ?_
          rintro e w3 ⟨rfl, hb3⟩
          have hB3 := hBr.trans (hb3.mono hBr.size)
          obtain ⟨q, hq⟩ : ∃ q, kidx l + 1 = q := ⟨_, rfl⟩
          have hkw3 := Lib.hid (show ∀ W, Calls Tryz.prog 12 #[.int .i64 kind] W fun e w' => e = .returned (.string ⟨#[]⟩) ∧ Below W.heap.size W w' from fun W => by have := hkw.out W; rw [hkn.out] at this; exact this)
          go_wp2_with fail
          refine (hkw3.out _).mono ?_
          rintro e w4 ⟨rfl, hb4⟩
          have hB4 := hB3.trans (hb4.mono hB3.size)
          have haw := Lib.hid (kawake_any w4)
          go_wp2_with fail
          refine haw.out.mono ?_
          rintro e w5 ⟨rfl, hb5⟩
          go_wp2_with fail
          go_ret
          exact ⟨rfl, hB4.trans (hb5.mono hB4.size)⟩
  · skip
    have hw := Lib.hid (rWrites_any kind w hk)
    have hr := Lib.hid (rReads_any kind w hk)
    have o1 := oops_any kind w
    rw [hk] at o1
    obtain ⟨a, ha⟩ : ∃ a, oA kind = a := ⟨_, rfl⟩
    obtain ⟨b, hb⟩ : ∃ b, oB kind = b := ⟨_, rfl⟩
    rw [ha, hb] at o1
    rw [ha] at hw
    rw [hb] at hr
    have hop := Lib.hid o1
    have k1 : decide (1 ≤ kind) = true := by unfold isK at hk; rw [Bool.and_eq_true] at hk; exact hk.1
    have k2 : decide (kind ≤ 6) = true := by unfold isK at hk; rw [Bool.and_eq_true] at hk; exact hk.2
    clear o1 ha hb hk
    go_enter Tryz.func3, Tryz.ntmps3
    go_wp2_with fail
    refine hop.out.mono ?_
    rintro e w1 ⟨rfl, hw1⟩
    rw [hw1]
    clear hw1
    go_wp2_with fail
    refine hw.out.mono ?_
    rintro e w1 ⟨rfl, hw1⟩
    rw [hw1]
    clear hw1
    go_wp2_with fail
    refine hr.out.mono ?_
    rintro e w1 ⟨rfl, hw1⟩
    rw [hw1]
    clear hw1
    go_wp2_with fail
    refine (rkwords_any _).mono ?_
    rintro e w2 ⟨b0, rfl, hc, hb0, hB⟩
    have HC := Lib.hid hc
    clear hc
    go_wp2_with fail
    go_loopw [9, 10, 11, 12, 61] (fun m f _ _ j wr => ∃ k : Nat, k ≤ 7 ∧ j = .int .i64 k ∧ m = .int .i64 (wantTo l k) ∧ f = .bool (decide (0 < wantTo l k)) ∧ Below w2.heap.size w2 wr ∧ Below w.heap.size w wr) (fun _ _ _ _ j _ => 7 - (intOf j).toNat)
    case atStart => exact ⟨0, Nat.zero_le _, rfl, rfl, rfl, Below.refl _ _, hB⟩
    case round =>
      obtain ⟨k, hk7, rfl, rfl, rfl, hbr, hBr⟩ := hrel
      by_cases hlt : k < 7
      · obtain ⟨z, hz⟩ := get_some (show k < kindsW.length from hlt)
        have hcz := (hbr.cell (p := ⟨b0, k, none⟩) hb0).trans (HC.out k z hz)
        have hki : (k : Int) < 7 := by omega
        have hk0 : (0 : Int) ≤ (k : Int) := by omega
        have hws := wantTo_succ (x := l) hz
        have hkn2 := Lib.hid (kword_nat hz)
        clear hz
        obtain ⟨m, hm⟩ : ∃ m, wantTo l k = m := ⟨_, rfl⟩
        rw [hm] at hws ⊢
        have hsz := hbr.size
        by_cases hcase : 0 < k ∧ z = l
        · rw [if_pos hcase] at hws
          have HWS := Lib.hid hws
          obtain ⟨q1, q2⟩ := hcase
          have u1 : decide (0 < k) = true := decide_eq_true q1
          have u2 : (z == l) = true := by rw [q2]; exact beq_self_eq_true _
          have HQ := Lib.hid q1
          clear hws q1 q2 hm
          by_cases hkk2 : (k : Int) = kind
          · have u3 : ((k : Int) == kind) = true := by rw [hkk2]; exact beq_self_eq_true _
            have hkw2 := Lib.hid (show ∀ W, Calls Tryz.prog 12 #[.int .i64 kind] W fun e w' => e = .returned (.string ⟨z.toArray⟩) ∧ Below W.heap.size W w' from fun W => by have := hkw.out W; rw [← hkk2, hkn2.out] at this; rw [← hkk2]; exact this)
            have hkk2' := Lib.hid hkk2
            clear hkk2
            go_wp2_with fail
            refine (hkw2.out _).mono ?_
            rintro e w3 ⟨rfl, hb3⟩
            go_wp2_with fail
            go_roundw
            case rel => exact ⟨k + 1, by omega, by go_num, by rw [HWS.out], by rw [HWS.out]; exact congrArg Value.bool (decide_eq_true (by have := HQ.out; omega)).symm, hbr.trans (hb3.mono hsz), hBr.trans (hb3.mono hBr.size)⟩
            case measure => simp [intOf]; omega
          · have u3 : ((k : Int) == kind) = false := by rw [beq_eq_false_iff_ne]; exact hkk2
            have hkk2' := Lib.hid hkk2
            clear hkk2
            go_wp2_with fail
            go_roundw
            case rel => exact ⟨k + 1, by omega, by go_num, by rw [HWS.out], by rw [HWS.out]; exact congrArg Value.bool (decide_eq_true (by have := HQ.out; omega)).symm, hbr, hBr⟩
            case measure => simp [intOf]; omega
        · rw [if_neg hcase] at hws
          have HWS := Lib.hid hws
          have hcs : decide (0 < k) = false ∨ (decide (0 < k) = true ∧ (z == l) = false) := by
            by_cases q : 0 < k
            · exact .inr ⟨decide_eq_true q, by rw [beq_eq_false_iff_ne]; exact fun e => hcase ⟨q, e⟩⟩
            · exact .inl (decide_eq_false q)
          clear hws hcase hm
          by_cases hkk2 : (k : Int) = kind
          · have u3 : ((k : Int) == kind) = true := by rw [hkk2]; exact beq_self_eq_true _
            have hkw2 := Lib.hid (show ∀ W, Calls Tryz.prog 12 #[.int .i64 kind] W fun e w' => e = .returned (.string ⟨z.toArray⟩) ∧ Below W.heap.size W w' from fun W => by have := hkw.out W; rw [← hkk2, hkn2.out] at this; rw [← hkk2]; exact this)
            have hkk2' := Lib.hid hkk2
            clear hkk2
            rcases hcs with u1 | ⟨u1, u2⟩
            all_goals
              go_wp2_with fail
              refine (hkw2.out _).mono ?_
              rintro e w3 ⟨rfl, hb3⟩
              go_wp2_with fail
              go_roundw
              case rel => exact ⟨k + 1, by omega, by go_num, by rw [HWS.out], by rw [HWS.out], hbr.trans (hb3.mono hsz), hBr.trans (hb3.mono hBr.size)⟩
              case measure => simp [intOf]; omega
          · have u3 : ((k : Int) == kind) = false := by rw [beq_eq_false_iff_ne]; exact hkk2
            have hkk2' := Lib.hid hkk2
            clear hkk2
            rcases hcs with u1 | ⟨u1, u2⟩
            all_goals
              go_wp2_with fail
              go_roundw
              case rel => exact ⟨k + 1, by omega, by go_num, by rw [HWS.out], by rw [HWS.out], hbr, hBr⟩
              case measure => simp [intOf]; omega
      · have h7 : k = 7 := by omega
        subst h7
        rw [hlast.out]
        go_wp2_with fail
        refine (hkk.out _).mono ?_
        rintro e w3 ⟨rfl, hb3⟩
        have hB3 := hBr.trans (hb3.mono hBr.size)
        obtain ⟨q, hq⟩ : ∃ q, kidx l + 1 = q := ⟨_, rfl⟩
        go_wp2_with fail
        have haw := Lib.hid (kawake_any w3)
        refine haw.out.mono ?_
        rintro e w4 ⟨rfl, hb4⟩
        go_wp2_with fail
        go_ret
        exact ⟨rfl, hB3.trans (hb4.mono hB3.size)⟩

end Go.Proofs.YtgjcniokgdicpaaGreatDoor
