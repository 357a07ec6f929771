/- slices.rotateCmpFunc on calls. -/
import Derived.Test.YtkcdmonmgnmojaaDoorSo5
namespace Go.Proofs.YtkcdmonmgnmojaaDoor
open Go.RowKit
attribute [local go_sem] Oper.semAt_some

/-- Where the rotation stands. -/
def RotAt (g m N : Nat) (P U V R : List El) (w : World) (i j : Nat) (wr : World) : Prop := ∃ A U' V' B, U'.length = i ∧ V'.length = j ∧ P.length + A.length + i = m ∧ A ++ V' ++ U' ++ B = V ++ U ∧ (P ++ A ++ U' ++ V' ++ B ++ R).length = N ∧ RowsG wr g (P ++ A ++ U' ++ V' ++ B ++ R) ∧ KpG g w wr
set_option maxRecDepth 100000 in
set_option maxHeartbeats 8000000 in
theorem rotate_any (g cap a m b N : Nat) (P U V R : List El) (w : World) (hg : RowsG w g (P ++ U ++ V ++ R)) (ha : P.length = a) (hm : P.length + U.length = m) (hb : P.length + U.length + V.length = b) (hU : 0 < U.length) (hV : 0 < V.length) (hN : (P ++ U ++ V ++ R).length = N) (hcap : N ≤ cap) (hbig : N ≤ 100000) :
    Calls Tryd.prog 144 #[.slice (some ⟨g, 0, none⟩) N cap, .int .i64 (a : Int), .int .i64 (m : Int), .int .i64 (b : Int), .func (.func 56) #[] #[]] w fun e w' => e = .returned (.tuple #[]) ∧ RowsG w' g (P ++ V ++ U ++ R) ∧ KpG g w w' := by
  have h0 : RotAt g m N P U V R w U.length V.length w := ⟨[], U, V, [], rfl, rfl, by simpa using hm, by simp, by simpa using hN, by simpa using hg, KpG.refl _ _⟩
  obtain ⟨i0, hi0⟩ : ∃ i0, U.length = i0 := ⟨_, rfl⟩
  obtain ⟨j0, hj0⟩ : ∃ j0, V.length = j0 := ⟨_, rfl⟩
  have e1 : (m : Int) - (a : Int) = (i0 : Int) := by omega
  have e2 : (b : Int) - (m : Int) = (j0 : Int) := by omega
  have hlN : i0 + j0 ≤ N ∧ m ≤ N ∧ b ≤ N := by simp only [List.length_append] at hN; omega
  have f1 : IntKind.i64.wrap (i0 : Int) = (i0 : Int) := so_wrap (by omega) (by omega)
  have f2 : IntKind.i64.wrap (j0 : Int) = (j0 : Int) := so_wrap (by omega) (by omega)
  rw [hi0, hj0] at h0
  rw [hi0] at hU
  rw [hj0] at hV
  have H0 := Lib.hid h0
  have HL := Lib.hid hlN
  clear hg ha hm hb hN hi0 hj0 h0 hlN
  go_enter Tryd.func144, Tryd.ntmps144
  go_wp2_with fail
  go_loopw [10, 11] (fun i j wr => ∃ i' j' : Nat, i = .int .i64 (i' : Int) ∧ j = .int .i64 (j' : Int) ∧ 0 < i' ∧ 0 < j' ∧ i' ≤ i0 ∧ j' ≤ j0 ∧ RotAt g m N P U V R w i' j' wr) (fun i j _ => (intOf i).toNat + (intOf j).toNat)
  case atStart => exact ⟨i0, j0, rfl, rfl, hU, hV, Nat.le_refl _, Nat.le_refl _, H0.out⟩
  case round =>
    clear H0 hU hV e1 e2 f1 f2
    obtain ⟨i, j, rfl, rfl, hi, hj, hi0, hj0, hrot⟩ := hrel
    have hb1 := HL.out
    have hmi : i ≤ m := by
      obtain ⟨A, U', V', B, q1, q2, q3, q4, q5, q6, q7⟩ := hrot
      omega
    obtain ⟨p, hp⟩ : ∃ p, m - i = p := ⟨_, rfl⟩
    have e1 : (m : Int) - (i : Int) = (p : Int) := by omega
    have jw : IntKind.i64.wrap (p : Int) = (p : Int) := so_wrap (by omega) (by omega)
    rcases Nat.lt_trichotomy i j with hij | hij | hij
    · have c1 : ((i : Int) != (j : Int)) = true := by simp; omega
      have c2 : (i != j) = true := by simp; omega
      have c3 : decide ((j : Int) < (i : Int)) = false := by rw [decide_eq_false_iff_not]; omega
      have c4 : decide (j < i) = false := by rw [decide_eq_false_iff_not]; omega
      have c5 : ¬ i = j := by omega
      have c6 : ¬ j < i := by omega
      have c7 : ¬ (i : Int) = (j : Int) := by omega
      obtain ⟨q, hq⟩ : ∃ q, m + (j - i) = q := ⟨_, rfl⟩
      obtain ⟨s, hs⟩ : ∃ s, m + j = s := ⟨_, rfl⟩
      obtain ⟨d, hd⟩ : ∃ d, j - i = d := ⟨_, rfl⟩
      have e2 : (m : Int) + (j : Int) = (s : Int) := by omega
      have e3 : (s : Int) - (i : Int) = (q : Int) := by omega
      have e4 : (j : Int) - (i : Int) = (d : Int) := by omega
      have jw2 : IntKind.i64.wrap (q : Int) = (q : Int) := so_wrap (by omega) (by omega)
      have jw3 : IntKind.i64.wrap (d : Int) = (d : Int) := so_wrap (by omega) (by omega)
      have jw4 : IntKind.i64.wrap (s : Int) = (s : Int) := so_wrap (by omega) (by omega)
      have hgo : ∃ P' X M Y R', RowsG wr g (P' ++ X ++ M ++ Y ++ R') ∧ P'.length = p ∧ P'.length + X.length + M.length = q ∧ X.length = i ∧ Y.length = i ∧ (P' ++ X ++ M ++ Y ++ R').length = N ∧ (∀ w1, RowsG w1 g (P' ++ Y ++ M ++ X ++ R') → KpG g wr w1 → RotAt g m N P U V R w i d w1) := by
        obtain ⟨A, U', V', B, q1, q2, q3, q4, q5, q6, q7⟩ := hrot
        have hv : V'.take (j - i) ++ V'.drop (j - i) = V' := List.take_append_drop _ _
        have l1 : (V'.take (j - i)).length = j - i := by rw [List.length_take]; omega
        have l2 : (V'.drop (j - i)).length = i := by rw [List.length_drop]; omega
        generalize V'.take (j - i) = V1 at hv l1
        generalize V'.drop (j - i) = V2 at hv l2
        subst hv
        refine ⟨P ++ A, U', V1, V2, B ++ R, by simpa using q6, by simp; omega, by simp; omega, q1, l2, by simpa using q5, fun w1 g1 k1 => ⟨A, V2, V1, U' ++ B, l2, by omega, by omega, by simpa using q4, ?_, by simpa using g1, q7.trans k1⟩⟩
        have := q5
        simp only [List.length_append] at this ⊢
        omega
      obtain ⟨P', X, M, Y, R', r1, r2, r3, r4, r5, r6, r7⟩ := hgo
      have hcall := Lib.hid (swapRange_any g cap p q i N P' X M Y R' wr r1 r2 r3 r4 r5 r6 hcap hbig)
      have R7 := Lib.hid r7
      have HD := Lib.hid hd
      clear r1 r2 r3 r4 r5 r6 r7 hrot hp hq hs hd hb1
      go_wp2_with fail
      refine hcall.out.mono ?_
      rintro e1 w1 ⟨rfl, hg1, hk1⟩
      have hro := Lib.hid (R7.out w1 hg1 hk1)
      clear hg1 hk1
      go_wp2_with fail
      go_roundw
      case rel => exact ⟨i, d, rfl, rfl, hi, by have := HD.out; omega, hi0, by have := HD.out; omega, hro.out⟩
      case measure => have := HD.out; simp [intOf]; omega
    · subst hij
      have c1 : ((i : Int) != (i : Int)) = false := by simp
      have c2 : (i != i) = false := by simp
      have hgo : ∃ P' X M Y R', RowsG wr g (P' ++ X ++ M ++ Y ++ R') ∧ P'.length = p ∧ P'.length + X.length + M.length = m ∧ X.length = i ∧ Y.length = i ∧ (P' ++ X ++ M ++ Y ++ R').length = N ∧ (∀ w1, RowsG w1 g (P' ++ Y ++ M ++ X ++ R') → KpG g wr w1 → RowsG w1 g (P ++ V ++ U ++ R) ∧ KpG g w w1) := by
        obtain ⟨A, U', V', B, q1, q2, q3, q4, q5, q6, q7⟩ := hrot
        refine ⟨P ++ A, U', [], V', B ++ R, by simpa using q6, by simp; omega, by simp; omega, q1, q2, by simpa using q5, fun w1 g1 k1 => ⟨?_, q7.trans k1⟩⟩
        have e : P ++ V ++ U ++ R = (P ++ A) ++ V' ++ [] ++ U' ++ (B ++ R) := by
          rw [List.append_assoc P V U, ← q4]
          simp
        rw [e]
        exact g1
      obtain ⟨P', X, M, Y, R', r1, r2, r3, r4, r5, r6, r7⟩ := hgo
      have hcall := Lib.hid (swapRange_any g cap p m i N P' X M Y R' wr r1 r2 r3 r4 r5 r6 hcap hbig)
      have R7 := Lib.hid r7
      clear r1 r2 r3 r4 r5 r6 r7 hrot hp hb1
      go_wp2_with fail
      refine hcall.out.mono ?_
      rintro e1 w1 ⟨rfl, hg1, hk1⟩
      have hro := Lib.hid (R7.out w1 hg1 hk1)
      clear hg1 hk1
      go_wp2_with fail
      (try simp only [Exit.inBlock, Exit.then])
      refine bodyPost_end (results_none rfl _ _ _) rfl ?_
      exact ⟨rfl, hro.out⟩
    · have c1 : ((i : Int) != (j : Int)) = true := by simp; omega
      have c2 : (i != j) = true := by simp; omega
      have c3 : decide ((j : Int) < (i : Int)) = true := by rw [decide_eq_true_iff]; omega
      have c4 : decide (j < i) = true := by rw [decide_eq_true_iff]; omega
      have c5 : ¬ i = j := by omega
      have c7 : ¬ (i : Int) = (j : Int) := by omega
      obtain ⟨d, hd⟩ : ∃ d, i - j = d := ⟨_, rfl⟩
      have e4 : (i : Int) - (j : Int) = (d : Int) := by omega
      have jw3 : IntKind.i64.wrap (d : Int) = (d : Int) := so_wrap (by omega) (by omega)
      have hgo : ∃ P' X M Y R', RowsG wr g (P' ++ X ++ M ++ Y ++ R') ∧ P'.length = p ∧ P'.length + X.length + M.length = m ∧ X.length = j ∧ Y.length = j ∧ (P' ++ X ++ M ++ Y ++ R').length = N ∧ (∀ w1, RowsG w1 g (P' ++ Y ++ M ++ X ++ R') → KpG g wr w1 → RotAt g m N P U V R w d j w1) := by
        obtain ⟨A, U', V', B, q1, q2, q3, q4, q5, q6, q7⟩ := hrot
        have hv : U'.take j ++ U'.drop j = U' := List.take_append_drop _ _
        have l1 : (U'.take j).length = j := by rw [List.length_take]; omega
        have l2 : (U'.drop j).length = i - j := by rw [List.length_drop]; omega
        generalize U'.take j = U1 at hv l1
        generalize U'.drop j = U2 at hv l2
        subst hv
        refine ⟨P ++ A, U1, U2, V', B ++ R, by simpa using q6, by simp; omega, by simp; omega, l1, q2, by simpa using q5, fun w1 g1 k1 => ⟨A ++ V', U2, U1, B, by omega, l1, by simp; omega, by simpa using q4, ?_, by simpa using g1, q7.trans k1⟩⟩
        have := q5
        simp only [List.length_append] at this ⊢
        omega
      obtain ⟨P', X, M, Y, R', r1, r2, r3, r4, r5, r6, r7⟩ := hgo
      have hcall := Lib.hid (swapRange_any g cap p m j N P' X M Y R' wr r1 r2 r3 r4 r5 r6 hcap hbig)
      have R7 := Lib.hid r7
      have HD := Lib.hid hd
      clear r1 r2 r3 r4 r5 r6 r7 hrot hp hd hb1
      go_wp2_with fail
      refine hcall.out.mono ?_
      rintro e1 w1 ⟨rfl, hg1, hk1⟩
      have hro := Lib.hid (R7.out w1 hg1 hk1)
      clear hg1 hk1
      go_wp2_with fail
      go_roundw
      case rel => exact ⟨d, j, rfl, rfl, by have := HD.out; omega, hj, by have := HD.out; omega, hj0, hro.out⟩
      case measure => have := HD.out; simp [intOf]; omega

end Go.Proofs.YtkcdmonmgnmojaaDoor
