/- The reference's Fits of a queue's calls. -/
import Derived.Test.YtgmmblknaeepbaaZlX
namespace Go.Proofs.Ytgmmblknaeepbaa
open Go.RowKit

theorem fits_no3 {l : List Cl} {i k : Nat} {x y : Cl} (hx : l[i]? = some x) (hy : l[k]? = some y) (hq : x.q = y.q) (hp : x.p ≠ y.p) : fitsB l = false := by
  cases e : fitsB l with
  | false => rfl
  | true => exact absurd (fits_proc e x (List.mem_of_getElem? hx) y (List.mem_of_getElem? hy) hq) hp
theorem fits_end {l : List Cl} (h : ∀ (i : Nat) (x : Cl), l[i]? = some x → lfB x = true ∧ ∀ (k : Nat) (y : Cl), l[k]? = some y → x.q = y.q → x.p = y.p) : fitsB l = rightH l := by
  unfold fitsB
  have h1 : l.all lfB = true := List.all_eq_true.2 fun x hx => by
    obtain ⟨i, hi⟩ := List.getElem?_of_mem hx
    exact (h i x hi).1
  have h2 : (l.all fun x => l.all fun y => !(x.q == y.q) || x.p == y.p) = true := List.all_eq_true.2 fun x hx => List.all_eq_true.2 fun y hy => by
    obtain ⟨i, hi⟩ := List.getElem?_of_mem hx
    obtain ⟨k, hk⟩ := List.getElem?_of_mem hy
    by_cases e : x.q = y.q
    · simp [(h i x hi).2 k y hk e]
    · simp [e]
  rw [h1, h2, Bool.and_true, Bool.and_true]
/-- The tests of one call, as they are made. -/
theorem lfB_cases (x : Cl) : (lfB x = true ∧ ((x.q = 3 ∧ (x.e < 0 ∨ (¬ x.e < 0 ∧ x.c = 0) ∨ (¬ x.e < 0 ∧ x.c ≠ 0 ∧ x.c = 2))) ∨ (x.q = 4 ∧ (x.e < 0 ∨ (¬ x.e < 0 ∧ x.c = 0) ∨ (¬ x.e < 0 ∧ x.c ≠ 0 ∧ x.c = 3))))) ∨
    (lfB x = false ∧ ((x.q ≠ 3 ∧ x.q ≠ 4) ∨ (x.q = 3 ∧ ¬ x.e < 0 ∧ x.c ≠ 0 ∧ x.c ≠ 2) ∨ (x.q = 4 ∧ ¬ x.e < 0 ∧ x.c ≠ 0 ∧ x.c ≠ 3))) := by
  cases h : lfB x with
  | true =>
    refine .inl ⟨rfl, ?_⟩
    unfold lfB opn at h
    simp only [Bool.or_eq_true, Bool.and_eq_true, beq_iff_eq, decide_eq_true_eq] at h
    omega
  | false =>
    refine .inr ⟨rfl, ?_⟩
    unfold lfB opn at h
    simp only [Bool.or_eq_false_iff, Bool.and_eq_false_iff, beq_eq_false_iff_ne, decide_eq_false_iff_not, ne_eq] at h
    omega

set_option maxRecDepth 100000 in
set_option maxHeartbeats 8000000 in
theorem rfits_any (A : Option Addr) (c : Nat) (l : List Cl) (w : World) (hn : l.length ≤ 1000) (hl : ClSl w w.heap.size A l) :
    Calls Try.prog 8 #[.slice A l.length c] w fun e w' => e = .returned (.bool (fitsB l)) ∧ Below w.heap.size w w' := by
  obtain ⟨R, hR⟩ : ∃ R, fitsB l = R := ⟨_, rfl⟩
  have HR := Lib.hid hR
  rw [hR]
  clear hR
  go_enter Try.func8, Try.ntmps8
  go_wp2_with fail
  go_loopw [5, 10] (fun _ j wr => ∃ k : Nat, k ≤ l.length ∧ j = .int .i64 k ∧ (∀ i, i < k → ∀ x, l[i]? = some x → lfB x = true ∧ ∀ (m : Nat) (y : Cl), l[m]? = some y → x.q = y.q → x.p = y.p) ∧ Below w.heap.size w wr) (fun _ j _ => l.length - (intOf j).toNat)
  case atStart => exact ⟨0, Nat.zero_le _, rfl, fun i h => by omega, Below.refl _ _⟩
  case round =>
    obtain ⟨k, hk, rfl, hall, hb⟩ := hrel
    by_cases hlt : k < l.length
    · obtain ⟨x, hx⟩ := get_some hlt
      obtain ⟨b', off, Ax, cx, rfl, hlb, ⟨h0, h1, h2, h3, h4, h5, h6⟩, _, hc1, hc2⟩ := (hl.below hb (Nat.le_refl _)) k x hx
      obtain ⟨W1, hW1⟩ : ∃ W1, wr.alloc (.cells #[.int .i64 x.p, .int .i64 x.o, .int .i64 x.q, .slice Ax x.r.length cx, .int .i64 x.c, .int .i64 x.b, .int .i64 x.e] 32) = W1 := ⟨_, rfl⟩
      have hbw := (Below.refl wr.heap.size wr).alloc (Nat.le_refl _) (.cells #[.int .i64 x.p, .int .i64 x.o, .int .i64 x.q, .slice Ax x.r.length cx, .int .i64 x.c, .int .i64 x.b, .int .i64 x.e] 32)
      have hbx := ClBox.new wr x Ax cx
      obtain ⟨nb, hnb⟩ : ∃ y, wr.heap.size = y := ⟨_, rfl⟩
      rw [hW1] at hbw hbx
      have hB := hb.trans (hbw.mono hb.size)
      rw [hnb] at hbx
      obtain ⟨y0, y1, y2, y3, y4, y5, y6⟩ := hbx.cells
      have HBX := Lib.hid hbx
      have HX := Lib.hid hx
      have HALL := Lib.hid hall
      have HB := Lib.hid hB
      have hbs := hB.size
      have hcs := lfB_cases x
      clear hx hall hB hbx hbw hb
      rcases hcs with ⟨hlf, hcs⟩ | ⟨hlf, hcs⟩
      · have HLF := Lib.hid hlf
        clear hlf
        rcases hcs with ⟨hq, he | ⟨he, hcc⟩ | ⟨he, hc0, hcc⟩⟩ | ⟨hq, he | ⟨he, hcc⟩ | ⟨he, hc0, hcc⟩⟩
        all_goals
          first
            | (have t1 : (x.q == 4) = false := by rw [hq]; rfl
               have t2 : (x.q != 3) = false := by rw [hq]; rfl)
            | (have t1 : (x.q == 4) = true := by rw [hq]; rfl
               have t2 : (x.q != 3) = true := by rw [hq]; rfl
               have t2' : (x.q != 4) = false := by rw [hq]; rfl)
          first
            | (have t3 : (x.c != 0) = true := by simpa using hc0
               have t4 : (x.c != 2) = false := by rw [hcc]; rfl)
            | (have t3 : (x.c != 0) = true := by simpa using hc0
               have t4 : (x.c != 3) = false := by rw [hcc]; rfl)
            | (have t3 : (x.c != 0) = false := by rw [hcc]; rfl)
            | skip
          have HQ := Lib.hid hq
          clear hq
          try clear hcc
          try clear hc0
          go_wp2_with fail
          go_loopw [43] (fun j wq => ∃ m : Nat, m ≤ l.length ∧ j = .int .i64 m ∧ (∀ i y, i < m → l[i]? = some y → x.q = y.q → x.p = y.p) ∧ ClBox wq nb x Ax cx ∧ Below w.heap.size w wq) (fun j _ => l.length - (intOf j).toNat)
          case atStart => exact ⟨0, Nat.zero_le _, rfl, fun i y h => by omega, HBX.out, HB.out⟩
          case round =>
            obtain ⟨m, hm, rfl, hpm, hbxq, hbq⟩ := hrel
            by_cases hlm : m < l.length
            · obtain ⟨y, hy⟩ := get_some hlm
              obtain ⟨b2, off2, Ay, cy, hA, _, ⟨g0, g1, g2, g3, g4, g5, g6⟩, _, hd1, hd2⟩ := (hl.below hbq (Nat.le_refl _)) m y hy
              injection hA with hA
              injection hA with hA1 hA2
              subst hA1 hA2
              have hbxq1 := hbxq.kept ((Below.refl _ wr).alloc (Nat.le_refl _) (.cells #[.int .i64 y.p, .int .i64 y.o, .int .i64 y.q, .slice Ay y.r.length cy, .int .i64 y.c, .int .i64 y.b, .int .i64 y.e] 32))
              have hbq1 := hbq.alloc hbq.size (.cells #[.int .i64 y.p, .int .i64 y.o, .int .i64 y.q, .slice Ay y.r.length cy, .int .i64 y.c, .int .i64 y.b, .int .i64 y.e] 32)
              obtain ⟨d0, d1, d2, d3, d4, d5, d6⟩ := hbxq.cells
              have hltq := hbxq.lt
              have hneq : nb ≠ wr.heap.size := by omega
              have HBQ := Lib.hid hbq1
              have HBXQ := Lib.hid hbxq1
              have HPM := Lib.hid hpm
              have HY := Lib.hid hy
              clear hbq hbq1 hbxq hbxq1 hpm hy
              by_cases hqq : x.q = y.q
              · have u1 : (x.q == y.q) = true := by simpa using hqq
                by_cases hpp : x.p = y.p
                · have u2 : (x.p != y.p) = false := by simpa using hpp
                  have HPP := Lib.hid hpp
                  clear hqq hpp
                  go_wp2_with fail
                  go_roundw
                  case rel => exact ⟨m + 1, by omega, by go_num, fun i z hi hz hq => by
                      by_cases e : i = m
                      · subst e; have := HY.out; rw [hz] at this; cases this; exact HPP.out
                      · exact HPM.out i z (by omega) hz hq, HBXQ.out, HBQ.out⟩
                  case measure => simp [intOf]; omega
                · have u2 : (x.p != y.p) = true := by simpa using hpp
                  have HNO := Lib.hid (fits_no3 HX.out HY.out hqq hpp)
                  clear hqq hpp
                  go_wp2_with fail
                  go_ret
                  exact ⟨ret_bool (by rw [← HR.out, HNO.out]), HBQ.out⟩
              · have u1 : (x.q == y.q) = false := by simpa using hqq
                have HQQ := Lib.hid hqq
                clear hqq
                go_wp2_with fail
                go_roundw
                case rel => exact ⟨m + 1, by omega, by go_num, fun i z hi hz hq => by
                    by_cases e : i = m
                    · subst e; have := HY.out; rw [hz] at this; cases this; exact absurd hq HQQ.out
                    · exact HPM.out i z (by omega) hz hq, HBXQ.out, HBQ.out⟩
                case measure => simp [intOf]; omega
            · have HBQ := Lib.hid hbq
              have HPM := Lib.hid hpm
              clear hbq hpm hbxq
              go_wp2_with fail
              go_roundw
              case rel => exact ⟨k + 1, by omega, by go_num, fun i hi z hz => by
                  by_cases e : i = k
                  · subst e
                    have := HX.out
                    rw [hz] at this
                    cases this
                    exact ⟨HLF.out, fun m' y hy => HPM.out m' y (by have := get_lt hy; omega) hy⟩
                  · exact HALL.out i (by omega) z hz, HBQ.out⟩
              case measure => simp [intOf]; omega
      · have HNO := Lib.hid (fits_no1 HX.out hlf)
        clear hlf
        rcases hcs with ⟨hq, hq2⟩ | ⟨hq, he, hc0, hcc⟩ | ⟨hq, he, hc0, hcc⟩
        all_goals
          first
            | (have t1 : (x.q == 4) = false := by rw [hq]; rfl
               have t2 : (x.q != 3) = false := by rw [hq]; rfl)
            | (have t1 : (x.q == 4) = true := by rw [hq]; rfl
               have t2 : (x.q != 3) = true := by rw [hq]; rfl
               have t2' : (x.q != 4) = false := by rw [hq]; rfl)
            | (have t1 : (x.q == 4) = false := by simpa using hq2
               have t2 : (x.q != 3) = true := by simpa using hq
               have t2' : (x.q != 4) = true := by simpa using hq2)
          first
            | (have t3 : (x.c != 0) = true := by simpa using hc0
               have t4 : (x.c != 2) = true := by simpa using hcc)
            | (have t3 : (x.c != 0) = true := by simpa using hc0
               have t4 : (x.c != 3) = true := by simpa using hcc)
            | skip
          clear hq
          try clear hcc
          try clear hc0
          try clear hq2
          go_wp2_with fail
          go_ret
          exact ⟨ret_bool (by rw [← HR.out, HNO.out]), HB.out⟩
    · have HE := Lib.hid (fits_end (l := l) (fun i x hx => hall i (by have := get_lt hx; omega) x hx))
      have hrt := rhistRight_any A c l wr hn (hl.below hb hb.size)
      rw [← HE.out] at hrt
      have HRT := Lib.hid hrt
      have HB := Lib.hid hb
      clear hall hrt hb
      go_wp2_with fail
      refine HRT.out.mono ?_
      rintro e w3 ⟨rfl, hb3⟩
      have HB3 := Lib.hid (HB.out.trans (hb3.mono HB.out.size))
      rw [HR.out]
      clear hb3
      go_wp2_with fail
      go_ret
      exact ⟨rfl, HB3.out⟩

end Go.Proofs.Ytgmmblknaeepbaa
