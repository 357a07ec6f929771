/- slices.insertionSortCmpFunc on calls. -/
import Derived.Test.YtkcdmonmgnmojaaDoorSo3
namespace Go.Proofs.YtkcdmonmgnmojaaDoor
open Go.RowKit
attribute [local go_sem] Oper.semAt_some

set_option maxRecDepth 100000 in
set_option maxHeartbeats 8000000 in
theorem insert_any (g cap a n N : Nat) (P S0 R : List El) (w : World) (hg : RowsG w g (P ++ S0 ++ R)) (htag : S0.Pairwise fun e f => e.t < f.t) (ha : P.length = a) (hn : S0.length = n) (hN : P.length + S0.length + R.length = N) (hcap : N ≤ cap) (hbig : N ≤ 100000) :
    Calls Tryd.prog 122 #[.slice (some ⟨g, 0, none⟩) N cap, .int .i64 (a : Int), .int .i64 ((a + n : Nat) : Int), .func (.func 56) #[] #[]] w fun e w' => e = .returned (.tuple #[]) ∧ ∃ S', RowsG w' g (P ++ S' ++ R) ∧ S'.Perm S0 ∧ Srt ltE S' ∧ KpG g w w' := by
  have HG := Lib.hid hg
  have HT := Lib.hid htag
  have HA := Lib.hid ha
  have HNN := Lib.hid hn
  have HN := Lib.hid hN
  have haN : a + n ≤ N := by omega
  obtain ⟨m, hm⟩ : ∃ m, a + n = m := ⟨_, rfl⟩
  rw [hm]
  have HM := Lib.hid hm
  clear hg htag ha hn hN hm
  go_enter Tryd.func122, Tryd.ntmps122
  go_wp2_with fail
  go_loopw [8, 9] (fun i _ wr => ∃ k : Nat, 1 ≤ k ∧ (k ≤ n ∨ k = 1) ∧ i = .int .i64 ((a + k : Nat) : Int) ∧ (∃ S, S.Perm (S0.take k) ∧ Srt ltE S ∧ RowsG wr g (P ++ S ++ (S0.drop k ++ R))) ∧ KpG g w wr) (fun i _ _ => m - (intOf i).toNat)
  case atStart =>
    refine ⟨1, Nat.le_refl _, .inr rfl, by go_num, ⟨S0.take 1, List.Perm.refl _, ?_, ?_⟩, KpG.refl _ _⟩
    · rcases S0 with _ | ⟨e, t⟩
      · exact List.Pairwise.nil
      · exact List.pairwise_singleton _ _
    · have := HG.out
      rwa [← List.append_assoc, List.append_assoc P, List.take_append_drop]
  case round =>
    obtain ⟨k, hk1, hkn, rfl, ⟨S, hp, hs, hr⟩, hkp⟩ := hrel
    by_cases hlt : k < n
    · obtain ⟨x, hx⟩ := get_some (show k < S0.length by rw [HNN.out]; exact hlt)
      have hdr : S0.drop k = x :: S0.drop (k + 1) := by
        have := List.drop_eq_getElem_cons (show k < S0.length by rw [HNN.out]; exact hlt)
        rw [this]
        rw [List.getElem?_eq_getElem (show k < S0.length by rw [HNN.out]; exact hlt)] at hx
        rw [Option.some.inj hx]
      rw [hdr] at hr
      obtain ⟨R2, hR2⟩ : ∃ R2, S0.drop (k + 1) ++ R = R2 := ⟨_, rfl⟩
      rw [List.cons_append, hR2] at hr
      have HX := Lib.hid hx
      have HR2 := Lib.hid hR2
      have HP := Lib.hid hp
      have HS := Lib.hid hs
      have hkl : S.length = k := by rw [hp.length_eq, List.length_take, HNN.out]; omega
      have HKL := Lib.hid hkl
      obtain ⟨i, hi⟩ : ∃ i, a + k = i := ⟨_, rfl⟩
      have him : i < m := by have := HM.out; omega
      have him2 : (i : Int) < (m : Int) := by omega
      have him3 : decide ((i : Int) < (m : Int)) = true := decide_eq_true him2
      have HI := Lib.hid hi
      have hin : i < N := by omega
      rw [hi]
      clear hx hdr hR2 hp hs hkl hi hk1 hkn
      go_wp2_with fail
      go_loopw [9] (fun j wq => ∃ S1 S2, S = S1 ++ S2 ∧ j = .int .i64 ((a + S1.length : Nat) : Int) ∧ RowsG wq g (P ++ S1 ++ x :: S2 ++ R2) ∧ (∀ y ∈ S2, ltE x y) ∧ KpG g w wq) (fun j _ => (intOf j).toNat)
      case atStart => exact ⟨S, [], by simp, by rw [HKL.out, HI.out], by simpa using hr, (fun y hy => by cases hy), hkp⟩
      case round =>
        clear hr hkp
        obtain ⟨S1, S2, hS, rfl, hq, hlow, hkq⟩ := hrel
        rcases List.eq_nil_or_concat S1 with rfl | ⟨S1', y, rfl⟩
        · simp only [List.length_nil, Nat.add_zero, List.append_nil, List.nil_append] at hq hS ⊢
          have haa : decide ((a : Int) < (a : Int)) = false := by simp
          have HQ := Lib.hid hq
          have HSE := Lib.hid hS
          have HL := Lib.hid hlow
          have HK := Lib.hid hkq
          clear hq hS hlow hkq
          have hSd : (fun _ : World => True) wr.drew := trivial
          go_wp2_with fail
          refine wp_region_held_drew (S := fun _ => True) (by kernel_rfl) hSd (fun hHeld => ?_)
          refine wpAnyH_take (i := 0) (oi := ?_) (v := ?_) ?_ (by kernel_rfl) (by kernel_rfl) (by kernel_rfl) ?_ (Or.inl ⟨?_, ?_⟩) (by assumption) ?_
          rotate_left 2
          · (simp only [List.getElem?_toArray, List.getElem?_cons_zero]; rfl)
          · first | exact fun _ _ _ h => h | exact fun _ _ _ h => by cases h.1
          · rfl
          · ((intro wq hSq; (try dsimp only at hSq); go_simp); (try with_reducible rfl))
          try simp only [Act.put, List.setIfInBounds_toArray, List.set_cons_zero, List.set_cons_succ]
          refine wpAnyH_take (i := 1) (oi := ?_) (v := ?_) ?_ (by kernel_rfl) (by kernel_rfl) (by kernel_rfl) ?_ (Or.inl ⟨?_, ?_⟩) (by assumption) ?_
          rotate_left 2
          · (simp only [List.getElem?_toArray, List.getElem?_cons_succ, List.getElem?_cons_zero]; rfl)
          · first | exact fun _ _ _ h => h | exact fun _ _ _ h => by cases h.1
          · rfl
          · ((intro wq hSq; (try dsimp only at hSq); go_simp); (try with_reducible rfl))
          try simp only [Act.put, List.setIfInBounds_toArray, List.set_cons_zero, List.set_cons_succ]
          refine wpAnyH_take (i := 2) (oi := ?_) (v := ?_) ?_ (by kernel_rfl) (by kernel_rfl) (by kernel_rfl) ?_ (Or.inl ⟨?_, ?_⟩) (by assumption) ?_
          rotate_left 2
          · (simp only [List.getElem?_toArray, List.getElem?_cons_succ, List.getElem?_cons_zero]; rfl)
          · first | exact fun _ _ _ h => h | exact fun _ _ _ h => by cases h.1
          · rfl
          · ((intro wq hSq; (try dsimp only at hSq); go_simp); (try with_reducible rfl))
          try simp only [Act.put, List.setIfInBounds_toArray, List.set_cons_zero, List.set_cons_succ]
          refine wpAnyH_take (i := 3) (oi := ?_) (v := ?_) ?_ (by kernel_rfl) (by kernel_rfl) (by kernel_rfl) ?_ (Or.inl ⟨?_, ?_⟩) (by assumption) ?_
          rotate_left 2
          · (simp only [List.getElem?_toArray, List.getElem?_cons_succ, List.getElem?_cons_zero]; rfl)
          · first | exact fun _ _ _ h => h | exact fun _ _ _ h => by cases h.1
          · rfl
          · ((intro wq hSq; (try dsimp only at hSq); go_simp); (try with_reducible rfl))
          try simp only [Act.put, List.setIfInBounds_toArray, List.set_cons_zero, List.set_cons_succ]
          refine wpAnyH_take (i := 4) (oi := ?_) (v := undef) ?_ (by kernel_rfl) (by kernel_rfl) (by kernel_rfl) ?_ (Or.inr ⟨?_, rfl⟩) (by assumption) ?_
          rotate_left 1
          · (simp only [List.getElem?_toArray, List.getElem?_cons_succ, List.getElem?_cons_zero]; rfl)
          · first | exact fun _ _ _ h => h | exact fun _ _ _ h => by cases h.1
          · rfl
          try simp only [Act.put, List.setIfInBounds_toArray, List.set_cons_zero, List.set_cons_succ]
          refine wpAnyH_take (i := 5) (oi := ?_) (v := undef) ?_ (by kernel_rfl) (by kernel_rfl) (by kernel_rfl) ?_ (Or.inr ⟨?_, rfl⟩) (by assumption) ?_
          rotate_left 1
          · (simp only [List.getElem?_toArray, List.getElem?_cons_succ, List.getElem?_cons_zero]; rfl)
          · first | exact fun _ _ _ h => h | exact fun _ _ _ h => by cases h.1
          · rfl
          try simp only [Act.put, List.setIfInBounds_toArray, List.set_cons_zero, List.set_cons_succ]
          refine wpAnyH_take (i := 6) (oi := ?_) (v := undef) ?_ (by kernel_rfl) (by kernel_rfl) (by kernel_rfl) ?_ (Or.inr ⟨?_, rfl⟩) (by assumption) ?_
          rotate_left 1
          · (simp only [List.getElem?_toArray, List.getElem?_cons_succ, List.getElem?_cons_zero]; rfl)
          · first | exact fun _ _ _ h => h | exact fun _ _ _ h => by cases h.1
          · rfl
          try simp only [Act.put, List.setIfInBounds_toArray, List.set_cons_zero, List.set_cons_succ]
          refine wpAnyH_take (i := 7) (oi := ?_) (v := undef) ?_ (by kernel_rfl) (by kernel_rfl) (by kernel_rfl) ?_ (Or.inr ⟨?_, rfl⟩) (by assumption) ?_
          rotate_left 1
          · (simp only [List.getElem?_toArray, List.getElem?_cons_succ, List.getElem?_cons_zero]; rfl)
          · first | exact fun _ _ _ h => h | exact fun _ _ _ h => by cases h.1
          · rfl
          try simp only [Act.put, List.setIfInBounds_toArray, List.set_cons_zero, List.set_cons_succ]
          refine wpAnyH_take (i := 8) (oi := ?_) (v := undef) ?_ (by kernel_rfl) (by kernel_rfl) (by kernel_rfl) ?_ (Or.inr ⟨?_, rfl⟩) (by assumption) ?_
          rotate_left 1
          · (simp only [List.getElem?_toArray, List.getElem?_cons_succ, List.getElem?_cons_zero]; rfl)
          · first | exact fun _ _ _ h => h | exact fun _ _ _ h => by cases h.1
          · rfl
          try simp only [Act.put, List.setIfInBounds_toArray, List.set_cons_zero, List.set_cons_succ]
          refine wpAnyH_take (i := 9) (oi := ?_) (v := undef) ?_ (by kernel_rfl) (by kernel_rfl) (by kernel_rfl) ?_ (Or.inr ⟨?_, rfl⟩) (by assumption) ?_
          rotate_left 1
          · (simp only [List.getElem?_toArray, List.getElem?_cons_succ, List.getElem?_cons_zero]; rfl)
          · first | exact fun _ _ _ h => h | exact fun _ _ _ h => by cases h.1
          · rfl
          try simp only [Act.put, List.setIfInBounds_toArray, List.set_cons_zero, List.set_cons_succ]
          refine wpAnyH_take (i := 10) (oi := ?_) (v := undef) ?_ (by kernel_rfl) (by kernel_rfl) (by kernel_rfl) ?_ (Or.inr ⟨?_, rfl⟩) (by assumption) ?_
          rotate_left 1
          · (simp only [List.getElem?_toArray, List.getElem?_cons_succ, List.getElem?_cons_zero]; rfl)
          · first | exact fun _ _ _ h => h | exact fun _ _ _ h => by cases h.1
          · rfl
          try simp only [Act.put, List.setIfInBounds_toArray, List.set_cons_zero, List.set_cons_succ]
          refine wpAnyH_take (i := 11) (oi := ?_) (v := undef) ?_ (by kernel_rfl) (by kernel_rfl) (by kernel_rfl) ?_ (Or.inr ⟨?_, rfl⟩) (by assumption) ?_
          rotate_left 1
          · (simp only [List.getElem?_toArray, List.getElem?_cons_succ, List.getElem?_cons_zero]; rfl)
          · first | exact fun _ _ _ h => h | exact fun _ _ _ h => by cases h.1
          · rfl
          try simp only [Act.put, List.setIfInBounds_toArray, List.set_cons_zero, List.set_cons_succ]
          refine wpAnyH_take (i := 12) (oi := ?_) (v := undef) ?_ (by kernel_rfl) (by kernel_rfl) (by kernel_rfl) ?_ (Or.inr ⟨?_, rfl⟩) (by assumption) ?_
          rotate_left 1
          · (simp only [List.getElem?_toArray, List.getElem?_cons_succ, List.getElem?_cons_zero]; rfl)
          · first | exact fun _ _ _ h => h | exact fun _ _ _ h => by cases h.1
          · rfl
          try simp only [Act.put, List.setIfInBounds_toArray, List.set_cons_zero, List.set_cons_succ]
          refine wpAnyH_take (i := 13) (oi := ?_) (v := undef) ?_ (by kernel_rfl) (by kernel_rfl) (by kernel_rfl) ?_ (Or.inr ⟨?_, rfl⟩) (by assumption) ?_
          rotate_left 1
          · (simp only [List.getElem?_toArray, List.getElem?_cons_succ, List.getElem?_cons_zero]; rfl)
          · first | exact fun _ _ _ h => h | exact fun _ _ _ h => by cases h.1
          · rfl
          try simp only [Act.put, List.setIfInBounds_toArray, List.set_cons_zero, List.set_cons_succ]
          refine wpAnyH_take (i := 14) (oi := ?_) (v := undef) ?_ (by kernel_rfl) (by kernel_rfl) (by kernel_rfl) ?_ (Or.inr ⟨?_, rfl⟩) (by assumption) ?_
          rotate_left 1
          · (simp only [List.getElem?_toArray, List.getElem?_cons_succ, List.getElem?_cons_zero]; rfl)
          · first | exact fun _ _ _ h => h | exact fun _ _ _ h => by cases h.1
          · rfl
          try simp only [Act.put, List.setIfInBounds_toArray, List.set_cons_zero, List.set_cons_succ]
          refine wpAnyH_take (i := 15) (oi := ?_) (v := undef) ?_ (by kernel_rfl) (by kernel_rfl) (by kernel_rfl) ?_ (Or.inr ⟨?_, rfl⟩) (by assumption) ?_
          rotate_left 1
          · (simp only [List.getElem?_toArray, List.getElem?_cons_succ, List.getElem?_cons_zero]; rfl)
          · first | exact fun _ _ _ h => h | exact fun _ _ _ h => by cases h.1
          · rfl
          try simp only [Act.put, List.setIfInBounds_toArray, List.set_cons_zero, List.set_cons_succ]
          refine wpAnyH_take (i := 16) (oi := ?_) (v := ?_) ?_ (by kernel_rfl) (by kernel_rfl) (by kernel_rfl) ?_ (Or.inl ⟨?_, ?_⟩) (by assumption) ?_
          rotate_left 2
          · (simp only [List.getElem?_toArray, List.getElem?_cons_succ, List.getElem?_cons_zero]; rfl)
          · first | exact fun _ _ _ h => h | exact fun _ _ _ h => by cases h.1
          · rfl
          · ((intro wq hSq; (try dsimp only at hSq); go_simp); (try with_reducible rfl))
          try simp only [Act.put, List.setIfInBounds_toArray, List.set_cons_zero, List.set_cons_succ]
          refine wpAnyH_done (by kernel_rfl) ?_ _
          have hr' := HQ.out.kept (Below.refl _ wr).drew
          have hk' := HK.out.trans (KpG.of (Below.refl _ wr).drew)
          go_wp2_with fail
          go_roundw
          case rel =>
            refine ⟨k + 1, by omega, .inl (by omega), val_int (by have := HI.out; omega), ⟨x :: S2, ?_, ?_, ?_⟩, hk'⟩
            · rw [take_snoc HX.out]
              have h1 := HP.out
              rw [HSE.out] at h1
              exact ((List.perm_cons x).2 h1).trans (List.perm_append_singleton x _).symm
            · have h1 := HS.out
              rw [HSE.out] at h1
              exact List.pairwise_cons.2 ⟨HL.out, h1⟩
            · rw [HR2.out]
              exact hr'
          case measure => simp [intOf]; omega
        · simp only [List.concat_eq_append] at hS hq ⊢
          rw [show a + (S1' ++ [y]).length = a + S1'.length + 1 by simp; omega]
          obtain ⟨p, hp2⟩ : ∃ p, a + S1'.length = p := ⟨_, rfl⟩
          rw [hp2]
          have hlen : (P ++ (S1' ++ [y]) ++ x :: S2 ++ R2).length = N := by
            have h1 := congrArg List.length hS
            have h2 := congrArg List.length HR2.out
            simp only [List.length_append, List.length_cons, List.length_nil, List.length_drop] at h1 h2 ⊢
            have := HA.out
            have := HNN.out
            have := HN.out
            have := HKL.out
            omega
          have hPp : P.length + S1'.length = p := by rw [HA.out]; exact hp2
          have hly : (P ++ (S1' ++ [y]) ++ x :: S2 ++ R2)[p]? = some y := by
            rw [show P ++ (S1' ++ [y]) ++ x :: S2 ++ R2 = (P ++ S1') ++ y :: x :: (S2 ++ R2) by simp, ← hPp, List.getElem?_append_right (by simp)]
            simp
          have hlx : (P ++ (S1' ++ [y]) ++ x :: S2 ++ R2)[p + 1]? = some x := by
            rw [show P ++ (S1' ++ [y]) ++ x :: S2 ++ R2 = (P ++ S1') ++ y :: x :: (S2 ++ R2) by simp, ← hPp, List.getElem?_append_right (by simp <;> omega)]
            simp [show P.length + S1'.length + 1 - (P.length + S1'.length) = 1 by omega]
          have hpN : p + 1 < N := by rw [← hlen]; exact get_lt hlx
          have hap : a < p + 1 := by omega
          have j1 : decide ((a : Int) < (p : Int) + 1) = true := by rw [decide_eq_true_iff]; omega
          have j2 : decide (a < p + 1) = true := decide_eq_true hap
          have j3 : (a : Int) < (p : Int) + 1 := by omega
          have j4 : (p : Int) + 1 < (N : Int) := by omega
          have j5 : (p : Int) < (N : Int) := by omega
          have j6 : p < N := by omega
          have j7 : (0 : Int) ≤ (p : Int) + 1 := by omega
          have j8 : (0 : Int) ≤ (p : Int) := by omega
          have jw : IntKind.i64.wrap (p : Int) = (p : Int) := so_wrap (by omega) (by omega)
          have hcm := fun W => scmp_any x.x y.x x.A y.A x.c y.c W
          unfold clV at hcm
          obtain ⟨q, hcq⟩ : ∃ q, cmpC x.x y.x = q := ⟨_, rfl⟩
          rw [hcq] at hcm
          have HCM := Lib.hid hcm
          have HCQ := Lib.hid hcq
          have hxd := (hq.kept (Below.refl _ wr).drew).cells hlx
          have hyd := (hq.kept (Below.refl _ wr).drew).cells hly
          have hSd : (fun w' => Below wr.heap.size wr w' ∧ (w'.cell? ⟨g, (p + 1) * 7, none⟩ = some (.int .i64 x.x.p) ∧ w'.cell? ⟨g, (p + 1) * 7 + 1, none⟩ = some (.int .i64 x.x.o) ∧ w'.cell? ⟨g, (p + 1) * 7 + 2, none⟩ = some (.int .i64 x.x.q) ∧ w'.cell? ⟨g, (p + 1) * 7 + 3, none⟩ = some (.slice x.A x.x.r.length x.c) ∧ w'.cell? ⟨g, (p + 1) * 7 + 4, none⟩ = some (.int .i64 x.x.c) ∧ w'.cell? ⟨g, (p + 1) * 7 + 5, none⟩ = some (.int .i64 x.x.b) ∧ w'.cell? ⟨g, (p + 1) * 7 + 6, none⟩ = some (.int .i64 x.x.e)) ∧ (w'.cell? ⟨g, p * 7, none⟩ = some (.int .i64 y.x.p) ∧ w'.cell? ⟨g, p * 7 + 1, none⟩ = some (.int .i64 y.x.o) ∧ w'.cell? ⟨g, p * 7 + 2, none⟩ = some (.int .i64 y.x.q) ∧ w'.cell? ⟨g, p * 7 + 3, none⟩ = some (.slice y.A y.x.r.length y.c) ∧ w'.cell? ⟨g, p * 7 + 4, none⟩ = some (.int .i64 y.x.c) ∧ w'.cell? ⟨g, p * 7 + 5, none⟩ = some (.int .i64 y.x.b) ∧ w'.cell? ⟨g, p * 7 + 6, none⟩ = some (.int .i64 y.x.e))) wr.drew := ⟨(Below.refl _ wr).drew, hxd, hyd⟩
          have HQ := Lib.hid hq
          have HSE := Lib.hid hS
          have HL := Lib.hid hlow
          have HK := Lib.hid hkq
          have HLX := Lib.hid hlx
          have HLY := Lib.hid hly
          have HPP := Lib.hid hPp
          have HLEN := Lib.hid hlen
          have HP2 := Lib.hid hp2
          clear hq hS hlow hkq hcm hcq hxd hyd hlx hly hPp hlen hp2
          rcases hneg : decide (q < 0) with _ | _
          · go_wp2_with fail
            refine wp_region_held_drew (S := fun w' => Below wr.heap.size wr w' ∧ (w'.cell? ⟨g, (p + 1) * 7, none⟩ = some (.int .i64 x.x.p) ∧ w'.cell? ⟨g, (p + 1) * 7 + 1, none⟩ = some (.int .i64 x.x.o) ∧ w'.cell? ⟨g, (p + 1) * 7 + 2, none⟩ = some (.int .i64 x.x.q) ∧ w'.cell? ⟨g, (p + 1) * 7 + 3, none⟩ = some (.slice x.A x.x.r.length x.c) ∧ w'.cell? ⟨g, (p + 1) * 7 + 4, none⟩ = some (.int .i64 x.x.c) ∧ w'.cell? ⟨g, (p + 1) * 7 + 5, none⟩ = some (.int .i64 x.x.b) ∧ w'.cell? ⟨g, (p + 1) * 7 + 6, none⟩ = some (.int .i64 x.x.e)) ∧ (w'.cell? ⟨g, p * 7, none⟩ = some (.int .i64 y.x.p) ∧ w'.cell? ⟨g, p * 7 + 1, none⟩ = some (.int .i64 y.x.o) ∧ w'.cell? ⟨g, p * 7 + 2, none⟩ = some (.int .i64 y.x.q) ∧ w'.cell? ⟨g, p * 7 + 3, none⟩ = some (.slice y.A y.x.r.length y.c) ∧ w'.cell? ⟨g, p * 7 + 4, none⟩ = some (.int .i64 y.x.c) ∧ w'.cell? ⟨g, p * 7 + 5, none⟩ = some (.int .i64 y.x.b) ∧ w'.cell? ⟨g, p * 7 + 6, none⟩ = some (.int .i64 y.x.e))) (by kernel_rfl) hSd (fun hHeld => ?_)
            generalize wr.drew = wd at hHeld ⊢
            have hHeld : (fun w' => Below wr.heap.size wr w' ∧ (w'.cell? ⟨g, (p + 1) * 7, none⟩ = some (.int .i64 x.x.p) ∧ w'.cell? ⟨g, (p + 1) * 7 + 1, none⟩ = some (.int .i64 x.x.o) ∧ w'.cell? ⟨g, (p + 1) * 7 + 2, none⟩ = some (.int .i64 x.x.q) ∧ w'.cell? ⟨g, (p + 1) * 7 + 3, none⟩ = some (.slice x.A x.x.r.length x.c) ∧ w'.cell? ⟨g, (p + 1) * 7 + 4, none⟩ = some (.int .i64 x.x.c) ∧ w'.cell? ⟨g, (p + 1) * 7 + 5, none⟩ = some (.int .i64 x.x.b) ∧ w'.cell? ⟨g, (p + 1) * 7 + 6, none⟩ = some (.int .i64 x.x.e)) ∧ (w'.cell? ⟨g, p * 7, none⟩ = some (.int .i64 y.x.p) ∧ w'.cell? ⟨g, p * 7 + 1, none⟩ = some (.int .i64 y.x.o) ∧ w'.cell? ⟨g, p * 7 + 2, none⟩ = some (.int .i64 y.x.q) ∧ w'.cell? ⟨g, p * 7 + 3, none⟩ = some (.slice y.A y.x.r.length y.c) ∧ w'.cell? ⟨g, p * 7 + 4, none⟩ = some (.int .i64 y.x.c) ∧ w'.cell? ⟨g, p * 7 + 5, none⟩ = some (.int .i64 y.x.b) ∧ w'.cell? ⟨g, p * 7 + 6, none⟩ = some (.int .i64 y.x.e))) wd := hHeld
            refine wpAnyH_take (i := 0) (oi := ?_) (v := ?_) ?_ (by kernel_rfl) (by kernel_rfl) (by kernel_rfl) ?_ (Or.inl ⟨?_, ?_⟩) (by assumption) ?_
            rotate_left 2
            · (simp only [List.getElem?_toArray, List.getElem?_cons_zero]; rfl)
            · first | exact fun _ _ _ h => h | exact fun _ _ _ h => by cases h.1
            · rfl
            · ((intro wq hSq; (try dsimp only at hSq); go_simp); (try with_reducible rfl))
            try simp only [Act.put, List.setIfInBounds_toArray, List.set_cons_zero, List.set_cons_succ]
            refine wpAnyH_take (i := 1) (oi := ?_) (v := ?_) ?_ (by kernel_rfl) (by kernel_rfl) (by kernel_rfl) ?_ (Or.inl ⟨?_, ?_⟩) (by assumption) ?_
            rotate_left 2
            · (simp only [List.getElem?_toArray, List.getElem?_cons_succ, List.getElem?_cons_zero]; rfl)
            · first | exact fun _ _ _ h => h | exact fun _ _ _ h => by cases h.1
            · rfl
            · ((intro wq hSq; (try dsimp only at hSq); go_simp); (try with_reducible rfl))
            try simp only [Act.put, List.setIfInBounds_toArray, List.set_cons_zero, List.set_cons_succ]
            refine wpAnyH_take (i := 2) (oi := ?_) (v := ?_) ?_ (by kernel_rfl) (by kernel_rfl) (by kernel_rfl) ?_ (Or.inl ⟨?_, ?_⟩) (by assumption) ?_
            rotate_left 2
            · (simp only [List.getElem?_toArray, List.getElem?_cons_succ, List.getElem?_cons_zero]; rfl)
            · first | exact fun _ _ _ h => h | exact fun _ _ _ h => by cases h.1
            · rfl
            · ((intro wq hSq; (try dsimp only at hSq); go_simp); (try with_reducible rfl))
            try simp only [Act.put, List.setIfInBounds_toArray, List.set_cons_zero, List.set_cons_succ]
            refine wpAnyH_take (i := 3) (oi := ?_) (v := ?_) ?_ (by kernel_rfl) (by kernel_rfl) (by kernel_rfl) ?_ (Or.inl ⟨?_, ?_⟩) (by assumption) ?_
            rotate_left 2
            · (simp only [List.getElem?_toArray, List.getElem?_cons_succ, List.getElem?_cons_zero]; rfl)
            · first | exact fun _ _ _ h => h | exact fun _ _ _ h => by cases h.1
            · rfl
            · ((intro wq hSq; (try dsimp only at hSq); go_simp); (try with_reducible rfl))
            try simp only [Act.put, List.setIfInBounds_toArray, List.set_cons_zero, List.set_cons_succ]
            refine wpAnyH_take (i := 4) (oi := ?_) (v := ?_) ?_ (by kernel_rfl) (by kernel_rfl) (by kernel_rfl) ?_ (Or.inl ⟨?_, ?_⟩) (by assumption) ?_
            rotate_left 2
            · (simp only [List.getElem?_toArray, List.getElem?_cons_succ, List.getElem?_cons_zero]; rfl)
            · first | exact fun _ _ _ h => h | exact fun _ _ _ h => by cases h.1
            · rfl
            · ((intro wq hSq; (try dsimp only at hSq); go_simp); (try with_reducible rfl))
            try simp only [Act.put, List.setIfInBounds_toArray, List.set_cons_zero, List.set_cons_succ]
            refine wpAnyH_take (i := 5) (oi := ?_) (v := ?_) ?_ (by kernel_rfl) (by kernel_rfl) (by kernel_rfl) ?_ (Or.inl ⟨?_, ?_⟩) (by assumption) ?_
            rotate_left 2
            · (simp only [List.getElem?_toArray, List.getElem?_cons_succ, List.getElem?_cons_zero]; rfl)
            · first | exact fun _ _ _ h => h | exact fun _ _ _ h => by cases h.1
            · rfl
            · ((intro wq hSq; (try dsimp only at hSq); go_simp); (try with_reducible rfl))
            try simp only [Act.put, List.setIfInBounds_toArray, List.set_cons_zero, List.set_cons_succ]
            refine wpAnyH_take (i := 6) (oi := ?_) (v := ?_) ?_ (by kernel_rfl) (by kernel_rfl) (by kernel_rfl) ?_ (Or.inl ⟨?_, ?_⟩) (by assumption) ?_
            rotate_left 2
            · (simp only [List.getElem?_toArray, List.getElem?_cons_succ, List.getElem?_cons_zero]; rfl)
            · first | exact fun _ _ _ h => h | exact fun _ _ _ h => by cases h.1
            · rfl
            · ((intro wq hSq; (try dsimp only at hSq); go_simp); (try with_reducible rfl))
            try simp only [Act.put, List.setIfInBounds_toArray, List.set_cons_zero, List.set_cons_succ]
            refine wpAnyH_take (i := 7) (oi := ?_) (v := ?_) ?_ (by kernel_rfl) (by kernel_rfl) (by kernel_rfl) ?_ (Or.inl ⟨?_, ?_⟩) (by assumption) ?_
            rotate_left 2
            · (simp only [List.getElem?_toArray, List.getElem?_cons_succ, List.getElem?_cons_zero]; rfl)
            · first | exact fun _ _ _ h => h | exact fun _ _ _ h => by cases h.1
            · rfl
            · ((intro wq hSq; (try dsimp only at hSq); go_simp); (try with_reducible rfl))
            try simp only [Act.put, List.setIfInBounds_toArray, List.set_cons_zero, List.set_cons_succ]
            refine wpAnyH_take (i := 8) (oi := ?_) (v := ?_) ?_ (by kernel_rfl) (by kernel_rfl) (by kernel_rfl) ?_ (Or.inl ⟨?_, ?_⟩) (by assumption) ?_
            rotate_left 2
            · (simp only [List.getElem?_toArray, List.getElem?_cons_succ, List.getElem?_cons_zero]; rfl)
            · first | exact fun _ _ _ h => h | exact fun _ _ _ h => by cases h.1
            · rfl
            · ((intro wq hSq; (try dsimp only at hSq); go_simp); (try with_reducible rfl))
            try simp only [Act.put, List.setIfInBounds_toArray, List.set_cons_zero, List.set_cons_succ]
            refine wpAnyH_take (i := 9) (oi := ?_) (v := ?_) ?_ (by kernel_rfl) (by kernel_rfl) (by kernel_rfl) ?_ (Or.inl ⟨?_, ?_⟩) (by assumption) ?_
            rotate_left 2
            · (simp only [List.getElem?_toArray, List.getElem?_cons_succ, List.getElem?_cons_zero]; rfl)
            · first | exact fun _ _ _ h => h | exact fun _ _ _ h => by cases h.1
            · rfl
            · ((intro wq hSq; (try dsimp only at hSq); go_simp); (try with_reducible rfl))
            try simp only [Act.put, List.setIfInBounds_toArray, List.set_cons_zero, List.set_cons_succ]
            refine wpAnyH_take (i := 10) (oi := ?_) (v := ?_) ?_ (by kernel_rfl) (by kernel_rfl) (by kernel_rfl) ?_ (Or.inl ⟨?_, ?_⟩) (by assumption) ?_
            rotate_left 2
            · (simp only [List.getElem?_toArray, List.getElem?_cons_succ, List.getElem?_cons_zero]; rfl)
            · first | exact fun _ _ _ h => h | exact fun _ _ _ h => by cases h.1
            · rfl
            · ((intro wq hSq; (try dsimp only at hSq); go_simp); (try with_reducible rfl))
            try simp only [Act.put, List.setIfInBounds_toArray, List.set_cons_zero, List.set_cons_succ]
            refine wpAnyH_take (i := 11) (oi := ?_) (v := ?_) ?_ (by kernel_rfl) (by kernel_rfl) (by kernel_rfl) ?_ (Or.inl ⟨?_, ?_⟩) (by assumption) ?_
            rotate_left 2
            · (simp only [List.getElem?_toArray, List.getElem?_cons_succ, List.getElem?_cons_zero]; rfl)
            · first | exact fun _ _ _ h => h | exact fun _ _ _ h => by cases h.1
            · rfl
            · ((intro wq hSq; (try dsimp only at hSq); go_simp); (try with_reducible rfl))
            try simp only [Act.put, List.setIfInBounds_toArray, List.set_cons_zero, List.set_cons_succ]
            refine wpAnyH_take (i := 12) (oi := ?_) (v := ?_) ?_ (by kernel_rfl) (by kernel_rfl) (by kernel_rfl) ?_ (Or.inl ⟨?_, ?_⟩) (by assumption) ?_
            rotate_left 2
            · (simp only [List.getElem?_toArray, List.getElem?_cons_succ, List.getElem?_cons_zero]; rfl)
            · first | exact fun _ _ _ h => h | exact fun _ _ _ h => by cases h.1
            · rfl
            · ((intro wq hSq; (try dsimp only at hSq); go_simp); (try with_reducible rfl))
            try simp only [Act.put, List.setIfInBounds_toArray, List.set_cons_zero, List.set_cons_succ]
            refine wpAnyH_take (i := 13) (oi := ?_) (v := ?_) ?_ (by kernel_rfl) (by kernel_rfl) (by kernel_rfl) ?_ (Or.inl ⟨?_, ?_⟩) (by assumption) ?_
            rotate_left 2
            · (simp only [List.getElem?_toArray, List.getElem?_cons_succ, List.getElem?_cons_zero]; rfl)
            · first | exact fun _ _ _ h => h | exact fun _ _ _ h => by cases h.1
            · rfl
            · ((intro wq hSq; (try dsimp only at hSq); go_simp); (try with_reducible rfl))
            try simp only [Act.put, List.setIfInBounds_toArray, List.set_cons_zero, List.set_cons_succ]
            refine wpAnyH_ready (rs := [14]) (by kernel_rfl) (by simp) ?_
            refine AllReadyH.cons (o := ?_) ?_ (fun K hK => ?_) AllReadyH.nil
            rotate_left
            · (simp only [List.getElem?_toArray, List.getElem?_cons_succ, List.getElem?_cons_zero]; rfl)
            go_simp
            go_at_call 56
            refine (HCM.out _).mono ?_
            rintro ex wx ⟨rfl, hbx⟩
            have hSx : (fun w' => Below wr.heap.size wr w' ∧ (w'.cell? ⟨g, (p + 1) * 7, none⟩ = some (.int .i64 x.x.p) ∧ w'.cell? ⟨g, (p + 1) * 7 + 1, none⟩ = some (.int .i64 x.x.o) ∧ w'.cell? ⟨g, (p + 1) * 7 + 2, none⟩ = some (.int .i64 x.x.q) ∧ w'.cell? ⟨g, (p + 1) * 7 + 3, none⟩ = some (.slice x.A x.x.r.length x.c) ∧ w'.cell? ⟨g, (p + 1) * 7 + 4, none⟩ = some (.int .i64 x.x.c) ∧ w'.cell? ⟨g, (p + 1) * 7 + 5, none⟩ = some (.int .i64 x.x.b) ∧ w'.cell? ⟨g, (p + 1) * 7 + 6, none⟩ = some (.int .i64 x.x.e)) ∧ (w'.cell? ⟨g, p * 7, none⟩ = some (.int .i64 y.x.p) ∧ w'.cell? ⟨g, p * 7 + 1, none⟩ = some (.int .i64 y.x.o) ∧ w'.cell? ⟨g, p * 7 + 2, none⟩ = some (.int .i64 y.x.q) ∧ w'.cell? ⟨g, p * 7 + 3, none⟩ = some (.slice y.A y.x.r.length y.c) ∧ w'.cell? ⟨g, p * 7 + 4, none⟩ = some (.int .i64 y.x.c) ∧ w'.cell? ⟨g, p * 7 + 5, none⟩ = some (.int .i64 y.x.b) ∧ w'.cell? ⟨g, p * 7 + 6, none⟩ = some (.int .i64 y.x.e))) wx := by
              obtain ⟨h0, ⟨u0, u1, u2, u3, u4, u5, u6⟩, v0, v1, v2, v3, v4, v5, v6⟩ := hHeld
              have hk : ∀ {i : Nat} {u : Value}, _ → wx.cell? ⟨g, i, none⟩ = some u := fun {i u} hc => (hbx.cell (p := ⟨g, i, none⟩) (cell_lt hc)).trans hc
              exact ⟨h0.trans (hbx.mono h0.size), ⟨hk u0, hk u1, hk u2, hk u3, hk u4, hk u5, hk u6⟩, hk v0, hk v1, hk v2, hk v3, hk v4, hk v5, hk v6⟩
            refine hK.out _ _ hSx (fun hHeld => ?_)
            clear hK K
            try simp only [Act.put, List.setIfInBounds_toArray, List.set_cons_zero, List.set_cons_succ]
            refine wpAnyH_take (i := 15) (oi := ?_) (v := ?_) ?_ (by kernel_rfl) (by kernel_rfl) (by kernel_rfl) ?_ (Or.inl ⟨?_, ?_⟩) (by assumption) ?_
            rotate_left 2
            · (simp only [List.getElem?_toArray, List.getElem?_cons_succ, List.getElem?_cons_zero]; rfl)
            · first | exact fun _ _ _ h => h | exact fun _ _ _ h => by cases h.1
            · rfl
            · ((intro wq hSq; (try dsimp only at hSq); go_simp); (try with_reducible rfl))
            try simp only [Act.put, List.setIfInBounds_toArray, List.set_cons_zero, List.set_cons_succ]
            refine wpAnyH_take (i := 16) (oi := ?_) (v := ?_) ?_ (by kernel_rfl) (by kernel_rfl) (by kernel_rfl) ?_ (Or.inl ⟨?_, ?_⟩) (by assumption) ?_
            rotate_left 2
            · (simp only [List.getElem?_toArray, List.getElem?_cons_succ, List.getElem?_cons_zero]; rfl)
            · first | exact fun _ _ _ h => h | exact fun _ _ _ h => by cases h.1
            · rfl
            · ((intro wq hSq; (try dsimp only at hSq); go_simp); (try with_reducible rfl))
            try simp only [Act.put, List.setIfInBounds_toArray, List.set_cons_zero, List.set_cons_succ]
            refine wpAnyH_done (by kernel_rfl) ?_ _
            have hb := hHeld.1
            have hr' := HQ.out.kept hb
            have hk' := HK.out.trans (KpG.of hb)
            have hnlt : ¬ q < 0 := of_decide_eq_false hneg
            go_wp2_with fail
            go_roundw
            case rel =>
              refine ⟨k + 1, by omega, .inl (by omega), val_int (by have := HI.out; omega), ⟨S1' ++ [y] ++ x :: S2, ?_, ?_, ?_⟩, hk'⟩
              · rw [take_snoc HX.out]
                have h1 := HP.out
                rw [HSE.out] at h1
                exact (List.perm_middle.trans ((List.perm_cons x).2 h1)).trans (List.perm_append_singleton x _).symm
              · have h1 := HS.out
                rw [HSE.out] at h1
                have htg : y.t < x.t := by
                  have hy : y ∈ S0.take k := HP.out.subset (by rw [HSE.out]; simp)
                  have hsp : S0 = S0.take k ++ x :: S0.drop (k + 1) := by
                    have h2 := (List.take_append_drop (k + 1) S0).symm
                    rw [take_snoc HX.out] at h2
                    simpa using h2
                  have h3 := HT.out
                  rw [hsp] at h3
                  exact (List.pairwise_append.1 h3).2.2 y hy x (by simp)
                have hyx : ltE y x := ltE_else htg (by rw [HCQ.out]; exact hnlt)
                refine Srt.app h1.left (List.pairwise_cons.2 ⟨HL.out, h1.right⟩) (fun u hu v hv => ?_)
                have hux : ltE u x := by
                  rcases List.mem_append.1 hu with hu | hu
                  · exact ltE_tr _ _ _ (h1.left.across u hu y (by simp)) hyx
                  · rw [List.mem_singleton.1 hu]; exact hyx
                rcases List.mem_cons.1 hv with rfl | hv
                · exact hux
                · exact ltE_tr _ _ _ hux (HL.out v hv)
              · rw [HR2.out]
                have e : P ++ (S1' ++ [y] ++ x :: S2) ++ R2 = P ++ (S1' ++ [y]) ++ x :: S2 ++ R2 := by simp
                rw [e]
                exact hr'
            case measure => simp [intOf]; omega
          · go_wp2_with fail
            refine wp_region_held_drew (S := fun w' => Below wr.heap.size wr w' ∧ (w'.cell? ⟨g, (p + 1) * 7, none⟩ = some (.int .i64 x.x.p) ∧ w'.cell? ⟨g, (p + 1) * 7 + 1, none⟩ = some (.int .i64 x.x.o) ∧ w'.cell? ⟨g, (p + 1) * 7 + 2, none⟩ = some (.int .i64 x.x.q) ∧ w'.cell? ⟨g, (p + 1) * 7 + 3, none⟩ = some (.slice x.A x.x.r.length x.c) ∧ w'.cell? ⟨g, (p + 1) * 7 + 4, none⟩ = some (.int .i64 x.x.c) ∧ w'.cell? ⟨g, (p + 1) * 7 + 5, none⟩ = some (.int .i64 x.x.b) ∧ w'.cell? ⟨g, (p + 1) * 7 + 6, none⟩ = some (.int .i64 x.x.e)) ∧ (w'.cell? ⟨g, p * 7, none⟩ = some (.int .i64 y.x.p) ∧ w'.cell? ⟨g, p * 7 + 1, none⟩ = some (.int .i64 y.x.o) ∧ w'.cell? ⟨g, p * 7 + 2, none⟩ = some (.int .i64 y.x.q) ∧ w'.cell? ⟨g, p * 7 + 3, none⟩ = some (.slice y.A y.x.r.length y.c) ∧ w'.cell? ⟨g, p * 7 + 4, none⟩ = some (.int .i64 y.x.c) ∧ w'.cell? ⟨g, p * 7 + 5, none⟩ = some (.int .i64 y.x.b) ∧ w'.cell? ⟨g, p * 7 + 6, none⟩ = some (.int .i64 y.x.e))) (by kernel_rfl) hSd (fun hHeld => ?_)
            generalize wr.drew = wd at hHeld ⊢
            have hHeld : (fun w' => Below wr.heap.size wr w' ∧ (w'.cell? ⟨g, (p + 1) * 7, none⟩ = some (.int .i64 x.x.p) ∧ w'.cell? ⟨g, (p + 1) * 7 + 1, none⟩ = some (.int .i64 x.x.o) ∧ w'.cell? ⟨g, (p + 1) * 7 + 2, none⟩ = some (.int .i64 x.x.q) ∧ w'.cell? ⟨g, (p + 1) * 7 + 3, none⟩ = some (.slice x.A x.x.r.length x.c) ∧ w'.cell? ⟨g, (p + 1) * 7 + 4, none⟩ = some (.int .i64 x.x.c) ∧ w'.cell? ⟨g, (p + 1) * 7 + 5, none⟩ = some (.int .i64 x.x.b) ∧ w'.cell? ⟨g, (p + 1) * 7 + 6, none⟩ = some (.int .i64 x.x.e)) ∧ (w'.cell? ⟨g, p * 7, none⟩ = some (.int .i64 y.x.p) ∧ w'.cell? ⟨g, p * 7 + 1, none⟩ = some (.int .i64 y.x.o) ∧ w'.cell? ⟨g, p * 7 + 2, none⟩ = some (.int .i64 y.x.q) ∧ w'.cell? ⟨g, p * 7 + 3, none⟩ = some (.slice y.A y.x.r.length y.c) ∧ w'.cell? ⟨g, p * 7 + 4, none⟩ = some (.int .i64 y.x.c) ∧ w'.cell? ⟨g, p * 7 + 5, none⟩ = some (.int .i64 y.x.b) ∧ w'.cell? ⟨g, p * 7 + 6, none⟩ = some (.int .i64 y.x.e))) wd := hHeld
            refine wpAnyH_take (i := 0) (oi := ?_) (v := ?_) ?_ (by kernel_rfl) (by kernel_rfl) (by kernel_rfl) ?_ (Or.inl ⟨?_, ?_⟩) (by assumption) ?_
            rotate_left 2
            · (simp only [List.getElem?_toArray, List.getElem?_cons_zero]; rfl)
            · first | exact fun _ _ _ h => h | exact fun _ _ _ h => by cases h.1
            · rfl
            · ((intro wq hSq; (try dsimp only at hSq); go_simp); (try with_reducible rfl))
            try simp only [Act.put, List.setIfInBounds_toArray, List.set_cons_zero, List.set_cons_succ]
            refine wpAnyH_take (i := 1) (oi := ?_) (v := ?_) ?_ (by kernel_rfl) (by kernel_rfl) (by kernel_rfl) ?_ (Or.inl ⟨?_, ?_⟩) (by assumption) ?_
            rotate_left 2
            · (simp only [List.getElem?_toArray, List.getElem?_cons_succ, List.getElem?_cons_zero]; rfl)
            · first | exact fun _ _ _ h => h | exact fun _ _ _ h => by cases h.1
            · rfl
            · ((intro wq hSq; (try dsimp only at hSq); go_simp); (try with_reducible rfl))
            try simp only [Act.put, List.setIfInBounds_toArray, List.set_cons_zero, List.set_cons_succ]
            refine wpAnyH_take (i := 2) (oi := ?_) (v := ?_) ?_ (by kernel_rfl) (by kernel_rfl) (by kernel_rfl) ?_ (Or.inl ⟨?_, ?_⟩) (by assumption) ?_
            rotate_left 2
            · (simp only [List.getElem?_toArray, List.getElem?_cons_succ, List.getElem?_cons_zero]; rfl)
            · first | exact fun _ _ _ h => h | exact fun _ _ _ h => by cases h.1
            · rfl
            · ((intro wq hSq; (try dsimp only at hSq); go_simp); (try with_reducible rfl))
            try simp only [Act.put, List.setIfInBounds_toArray, List.set_cons_zero, List.set_cons_succ]
            refine wpAnyH_take (i := 3) (oi := ?_) (v := ?_) ?_ (by kernel_rfl) (by kernel_rfl) (by kernel_rfl) ?_ (Or.inl ⟨?_, ?_⟩) (by assumption) ?_
            rotate_left 2
            · (simp only [List.getElem?_toArray, List.getElem?_cons_succ, List.getElem?_cons_zero]; rfl)
            · first | exact fun _ _ _ h => h | exact fun _ _ _ h => by cases h.1
            · rfl
            · ((intro wq hSq; (try dsimp only at hSq); go_simp); (try with_reducible rfl))
            try simp only [Act.put, List.setIfInBounds_toArray, List.set_cons_zero, List.set_cons_succ]
            refine wpAnyH_take (i := 4) (oi := ?_) (v := ?_) ?_ (by kernel_rfl) (by kernel_rfl) (by kernel_rfl) ?_ (Or.inl ⟨?_, ?_⟩) (by assumption) ?_
            rotate_left 2
            · (simp only [List.getElem?_toArray, List.getElem?_cons_succ, List.getElem?_cons_zero]; rfl)
            · first | exact fun _ _ _ h => h | exact fun _ _ _ h => by cases h.1
            · rfl
            · ((intro wq hSq; (try dsimp only at hSq); go_simp); (try with_reducible rfl))
            try simp only [Act.put, List.setIfInBounds_toArray, List.set_cons_zero, List.set_cons_succ]
            refine wpAnyH_take (i := 5) (oi := ?_) (v := ?_) ?_ (by kernel_rfl) (by kernel_rfl) (by kernel_rfl) ?_ (Or.inl ⟨?_, ?_⟩) (by assumption) ?_
            rotate_left 2
            · (simp only [List.getElem?_toArray, List.getElem?_cons_succ, List.getElem?_cons_zero]; rfl)
            · first | exact fun _ _ _ h => h | exact fun _ _ _ h => by cases h.1
            · rfl
            · ((intro wq hSq; (try dsimp only at hSq); go_simp); (try with_reducible rfl))
            try simp only [Act.put, List.setIfInBounds_toArray, List.set_cons_zero, List.set_cons_succ]
            refine wpAnyH_take (i := 6) (oi := ?_) (v := ?_) ?_ (by kernel_rfl) (by kernel_rfl) (by kernel_rfl) ?_ (Or.inl ⟨?_, ?_⟩) (by assumption) ?_
            rotate_left 2
            · (simp only [List.getElem?_toArray, List.getElem?_cons_succ, List.getElem?_cons_zero]; rfl)
            · first | exact fun _ _ _ h => h | exact fun _ _ _ h => by cases h.1
            · rfl
            · ((intro wq hSq; (try dsimp only at hSq); go_simp); (try with_reducible rfl))
            try simp only [Act.put, List.setIfInBounds_toArray, List.set_cons_zero, List.set_cons_succ]
            refine wpAnyH_take (i := 7) (oi := ?_) (v := ?_) ?_ (by kernel_rfl) (by kernel_rfl) (by kernel_rfl) ?_ (Or.inl ⟨?_, ?_⟩) (by assumption) ?_
            rotate_left 2
            · (simp only [List.getElem?_toArray, List.getElem?_cons_succ, List.getElem?_cons_zero]; rfl)
            · first | exact fun _ _ _ h => h | exact fun _ _ _ h => by cases h.1
            · rfl
            · ((intro wq hSq; (try dsimp only at hSq); go_simp); (try with_reducible rfl))
            try simp only [Act.put, List.setIfInBounds_toArray, List.set_cons_zero, List.set_cons_succ]
            refine wpAnyH_take (i := 8) (oi := ?_) (v := ?_) ?_ (by kernel_rfl) (by kernel_rfl) (by kernel_rfl) ?_ (Or.inl ⟨?_, ?_⟩) (by assumption) ?_
            rotate_left 2
            · (simp only [List.getElem?_toArray, List.getElem?_cons_succ, List.getElem?_cons_zero]; rfl)
            · first | exact fun _ _ _ h => h | exact fun _ _ _ h => by cases h.1
            · rfl
            · ((intro wq hSq; (try dsimp only at hSq); go_simp); (try with_reducible rfl))
            try simp only [Act.put, List.setIfInBounds_toArray, List.set_cons_zero, List.set_cons_succ]
            refine wpAnyH_take (i := 9) (oi := ?_) (v := ?_) ?_ (by kernel_rfl) (by kernel_rfl) (by kernel_rfl) ?_ (Or.inl ⟨?_, ?_⟩) (by assumption) ?_
            rotate_left 2
            · (simp only [List.getElem?_toArray, List.getElem?_cons_succ, List.getElem?_cons_zero]; rfl)
            · first | exact fun _ _ _ h => h | exact fun _ _ _ h => by cases h.1
            · rfl
            · ((intro wq hSq; (try dsimp only at hSq); go_simp); (try with_reducible rfl))
            try simp only [Act.put, List.setIfInBounds_toArray, List.set_cons_zero, List.set_cons_succ]
            refine wpAnyH_take (i := 10) (oi := ?_) (v := ?_) ?_ (by kernel_rfl) (by kernel_rfl) (by kernel_rfl) ?_ (Or.inl ⟨?_, ?_⟩) (by assumption) ?_
            rotate_left 2
            · (simp only [List.getElem?_toArray, List.getElem?_cons_succ, List.getElem?_cons_zero]; rfl)
            · first | exact fun _ _ _ h => h | exact fun _ _ _ h => by cases h.1
            · rfl
            · ((intro wq hSq; (try dsimp only at hSq); go_simp); (try with_reducible rfl))
            try simp only [Act.put, List.setIfInBounds_toArray, List.set_cons_zero, List.set_cons_succ]
            refine wpAnyH_take (i := 11) (oi := ?_) (v := ?_) ?_ (by kernel_rfl) (by kernel_rfl) (by kernel_rfl) ?_ (Or.inl ⟨?_, ?_⟩) (by assumption) ?_
            rotate_left 2
            · (simp only [List.getElem?_toArray, List.getElem?_cons_succ, List.getElem?_cons_zero]; rfl)
            · first | exact fun _ _ _ h => h | exact fun _ _ _ h => by cases h.1
            · rfl
            · ((intro wq hSq; (try dsimp only at hSq); go_simp); (try with_reducible rfl))
            try simp only [Act.put, List.setIfInBounds_toArray, List.set_cons_zero, List.set_cons_succ]
            refine wpAnyH_take (i := 12) (oi := ?_) (v := ?_) ?_ (by kernel_rfl) (by kernel_rfl) (by kernel_rfl) ?_ (Or.inl ⟨?_, ?_⟩) (by assumption) ?_
            rotate_left 2
            · (simp only [List.getElem?_toArray, List.getElem?_cons_succ, List.getElem?_cons_zero]; rfl)
            · first | exact fun _ _ _ h => h | exact fun _ _ _ h => by cases h.1
            · rfl
            · ((intro wq hSq; (try dsimp only at hSq); go_simp); (try with_reducible rfl))
            try simp only [Act.put, List.setIfInBounds_toArray, List.set_cons_zero, List.set_cons_succ]
            refine wpAnyH_take (i := 13) (oi := ?_) (v := ?_) ?_ (by kernel_rfl) (by kernel_rfl) (by kernel_rfl) ?_ (Or.inl ⟨?_, ?_⟩) (by assumption) ?_
            rotate_left 2
            · (simp only [List.getElem?_toArray, List.getElem?_cons_succ, List.getElem?_cons_zero]; rfl)
            · first | exact fun _ _ _ h => h | exact fun _ _ _ h => by cases h.1
            · rfl
            · ((intro wq hSq; (try dsimp only at hSq); go_simp); (try with_reducible rfl))
            try simp only [Act.put, List.setIfInBounds_toArray, List.set_cons_zero, List.set_cons_succ]
            refine wpAnyH_ready (rs := [14]) (by kernel_rfl) (by simp) ?_
            refine AllReadyH.cons (o := ?_) ?_ (fun K hK => ?_) AllReadyH.nil
            rotate_left
            · (simp only [List.getElem?_toArray, List.getElem?_cons_succ, List.getElem?_cons_zero]; rfl)
            go_simp
            go_at_call 56
            refine (HCM.out _).mono ?_
            rintro ex wx ⟨rfl, hbx⟩
            have hSx : (fun w' => Below wr.heap.size wr w' ∧ (w'.cell? ⟨g, (p + 1) * 7, none⟩ = some (.int .i64 x.x.p) ∧ w'.cell? ⟨g, (p + 1) * 7 + 1, none⟩ = some (.int .i64 x.x.o) ∧ w'.cell? ⟨g, (p + 1) * 7 + 2, none⟩ = some (.int .i64 x.x.q) ∧ w'.cell? ⟨g, (p + 1) * 7 + 3, none⟩ = some (.slice x.A x.x.r.length x.c) ∧ w'.cell? ⟨g, (p + 1) * 7 + 4, none⟩ = some (.int .i64 x.x.c) ∧ w'.cell? ⟨g, (p + 1) * 7 + 5, none⟩ = some (.int .i64 x.x.b) ∧ w'.cell? ⟨g, (p + 1) * 7 + 6, none⟩ = some (.int .i64 x.x.e)) ∧ (w'.cell? ⟨g, p * 7, none⟩ = some (.int .i64 y.x.p) ∧ w'.cell? ⟨g, p * 7 + 1, none⟩ = some (.int .i64 y.x.o) ∧ w'.cell? ⟨g, p * 7 + 2, none⟩ = some (.int .i64 y.x.q) ∧ w'.cell? ⟨g, p * 7 + 3, none⟩ = some (.slice y.A y.x.r.length y.c) ∧ w'.cell? ⟨g, p * 7 + 4, none⟩ = some (.int .i64 y.x.c) ∧ w'.cell? ⟨g, p * 7 + 5, none⟩ = some (.int .i64 y.x.b) ∧ w'.cell? ⟨g, p * 7 + 6, none⟩ = some (.int .i64 y.x.e))) wx := by
              obtain ⟨h0, ⟨u0, u1, u2, u3, u4, u5, u6⟩, v0, v1, v2, v3, v4, v5, v6⟩ := hHeld
              have hk : ∀ {i : Nat} {u : Value}, _ → wx.cell? ⟨g, i, none⟩ = some u := fun {i u} hc => (hbx.cell (p := ⟨g, i, none⟩) (cell_lt hc)).trans hc
              exact ⟨h0.trans (hbx.mono h0.size), ⟨hk u0, hk u1, hk u2, hk u3, hk u4, hk u5, hk u6⟩, hk v0, hk v1, hk v2, hk v3, hk v4, hk v5, hk v6⟩
            refine hK.out _ _ hSx (fun hHeld => ?_)
            clear hK K
            try simp only [Act.put, List.setIfInBounds_toArray, List.set_cons_zero, List.set_cons_succ]
            refine wpAnyH_take (i := 15) (oi := ?_) (v := ?_) ?_ (by kernel_rfl) (by kernel_rfl) (by kernel_rfl) ?_ (Or.inl ⟨?_, ?_⟩) (by assumption) ?_
            rotate_left 2
            · (simp only [List.getElem?_toArray, List.getElem?_cons_succ, List.getElem?_cons_zero]; rfl)
            · first | exact fun _ _ _ h => h | exact fun _ _ _ h => by cases h.1
            · rfl
            · ((intro wq hSq; (try dsimp only at hSq); go_simp); (try with_reducible rfl))
            try simp only [Act.put, List.setIfInBounds_toArray, List.set_cons_zero, List.set_cons_succ]
            refine wpAnyH_take (i := 16) (oi := ?_) (v := ?_) ?_ (by kernel_rfl) (by kernel_rfl) (by kernel_rfl) ?_ (Or.inl ⟨?_, ?_⟩) (by assumption) ?_
            rotate_left 2
            · (simp only [List.getElem?_toArray, List.getElem?_cons_succ, List.getElem?_cons_zero]; rfl)
            · first | exact fun _ _ _ h => h | exact fun _ _ _ h => by cases h.1
            · rfl
            · ((intro wq hSq; (try dsimp only at hSq); go_simp); (try with_reducible rfl))
            try simp only [Act.put, List.setIfInBounds_toArray, List.set_cons_zero, List.set_cons_succ]
            refine wpAnyH_done (by kernel_rfl) ?_ _
            have hb := hHeld.1
            have hr' := HQ.out.kept hb
            have hk' := HK.out.trans (KpG.of hb)
            clear hSd hHeld hSx
            go_wp2_with fail
            have hSd : (fun _ : World => True) wx.drew := trivial
            refine wp_region_held_drew (S := fun _ => True) (by kernel_rfl) hSd (fun hHeld => ?_)
            have hr2 := hr'.kept (Below.refl _ wx).drew
            have hk2 := hk'.trans (KpG.of (Below.refl _ wx).drew)
            generalize wx.drew = we at hHeld hr2 hk2 ⊢
            obtain ⟨x0, x1, x2, x3, x4, x5, x6⟩ := hr2.cells HLX.out
            obtain ⟨y0, y1, y2, y3, y4, y5, y6⟩ := hr2.cells HLY.out
            refine wpAnyH_take (i := 0) (oi := ?_) (v := ?_) ?_ (by kernel_rfl) (by kernel_rfl) (by kernel_rfl) ?_ (Or.inl ⟨?_, ?_⟩) (by assumption) ?_
            rotate_left 2
            · (simp only [List.getElem?_toArray, List.getElem?_cons_zero]; rfl)
            · first | exact fun _ _ _ h => h | exact fun _ _ _ h => by cases h.1
            · rfl
            · ((intro wq hSq; (try dsimp only at hSq); go_simp); (try with_reducible rfl))
            try simp only [Act.put, List.setIfInBounds_toArray, List.set_cons_zero, List.set_cons_succ]
            refine wpAnyH_take (i := 1) (oi := ?_) (v := ?_) ?_ (by kernel_rfl) (by kernel_rfl) (by kernel_rfl) ?_ (Or.inl ⟨?_, ?_⟩) (by assumption) ?_
            rotate_left 2
            · (simp only [List.getElem?_toArray, List.getElem?_cons_succ, List.getElem?_cons_zero]; rfl)
            · first | exact fun _ _ _ h => h | exact fun _ _ _ h => by cases h.1
            · rfl
            · ((intro wq hSq; (try dsimp only at hSq); go_simp); (try with_reducible rfl))
            try simp only [Act.put, List.setIfInBounds_toArray, List.set_cons_zero, List.set_cons_succ]
            refine wpAnyH_take (i := 2) (oi := ?_) (v := ?_) ?_ (by kernel_rfl) (by kernel_rfl) (by kernel_rfl) ?_ (Or.inl ⟨?_, ?_⟩) (by assumption) ?_
            rotate_left 2
            · (simp only [List.getElem?_toArray, List.getElem?_cons_succ, List.getElem?_cons_zero]; rfl)
            · first | exact fun _ _ _ h => h | exact fun _ _ _ h => by cases h.1
            · rfl
            · ((intro wq hSq; (try dsimp only at hSq); go_simp); (try with_reducible rfl))
            try simp only [Act.put, List.setIfInBounds_toArray, List.set_cons_zero, List.set_cons_succ]
            refine wpAnyH_take (i := 3) (oi := ?_) (v := ?_) ?_ (by kernel_rfl) (by kernel_rfl) (by kernel_rfl) ?_ (Or.inl ⟨?_, ?_⟩) (by assumption) ?_
            rotate_left 2
            · (simp only [List.getElem?_toArray, List.getElem?_cons_succ, List.getElem?_cons_zero]; rfl)
            · first | exact fun _ _ _ h => h | exact fun _ _ _ h => by cases h.1
            · rfl
            · ((intro wq hSq; (try dsimp only at hSq); go_simp); (try with_reducible rfl))
            try simp only [Act.put, List.setIfInBounds_toArray, List.set_cons_zero, List.set_cons_succ]
            refine wpAnyH_take (i := 4) (oi := ?_) (v := ?_) ?_ (by kernel_rfl) (by kernel_rfl) (by kernel_rfl) ?_ (Or.inl ⟨?_, ?_⟩) (by assumption) ?_
            rotate_left 2
            · (simp only [List.getElem?_toArray, List.getElem?_cons_succ, List.getElem?_cons_zero]; rfl)
            · first | exact fun _ _ _ h => h | exact fun _ _ _ h => by cases h.1
            · rfl
            · ((intro wq hSq; (try dsimp only at hSq); go_simp); (try with_reducible rfl))
            try simp only [Act.put, List.setIfInBounds_toArray, List.set_cons_zero, List.set_cons_succ]
            refine wpAnyH_take (i := 5) (oi := ?_) (v := ?_) ?_ (by kernel_rfl) (by kernel_rfl) (by kernel_rfl) ?_ (Or.inl ⟨?_, ?_⟩) (by assumption) ?_
            rotate_left 2
            · (simp only [List.getElem?_toArray, List.getElem?_cons_succ, List.getElem?_cons_zero]; rfl)
            · first | exact fun _ _ _ h => h | exact fun _ _ _ h => by cases h.1
            · rfl
            · ((intro wq hSq; (try dsimp only at hSq); go_simp); (try with_reducible rfl))
            try simp only [Act.put, List.setIfInBounds_toArray, List.set_cons_zero, List.set_cons_succ]
            refine wpAnyH_take (i := 6) (oi := ?_) (v := ?_) ?_ (by kernel_rfl) (by kernel_rfl) (by kernel_rfl) ?_ (Or.inl ⟨?_, ?_⟩) (by assumption) ?_
            rotate_left 2
            · (simp only [List.getElem?_toArray, List.getElem?_cons_succ, List.getElem?_cons_zero]; rfl)
            · first | exact fun _ _ _ h => h | exact fun _ _ _ h => by cases h.1
            · rfl
            · ((intro wq hSq; (try dsimp only at hSq); go_simp); (try with_reducible rfl))
            try simp only [Act.put, List.setIfInBounds_toArray, List.set_cons_zero, List.set_cons_succ]
            refine wpAnyH_take (i := 7) (oi := ?_) (v := ?_) ?_ (by kernel_rfl) (by kernel_rfl) (by kernel_rfl) ?_ (Or.inl ⟨?_, ?_⟩) (by assumption) ?_
            rotate_left 2
            · (simp only [List.getElem?_toArray, List.getElem?_cons_succ, List.getElem?_cons_zero]; rfl)
            · first | exact fun _ _ _ h => h | exact fun _ _ _ h => by cases h.1
            · rfl
            · ((intro wq hSq; (try dsimp only at hSq); go_simp); (try with_reducible rfl))
            try simp only [Act.put, List.setIfInBounds_toArray, List.set_cons_zero, List.set_cons_succ]
            refine wpAnyH_take (i := 8) (oi := ?_) (v := ?_) ?_ (by kernel_rfl) (by kernel_rfl) (by kernel_rfl) ?_ (Or.inl ⟨?_, ?_⟩) (by assumption) ?_
            rotate_left 2
            · (simp only [List.getElem?_toArray, List.getElem?_cons_succ, List.getElem?_cons_zero]; rfl)
            · first | exact fun _ _ _ h => h | exact fun _ _ _ h => by cases h.1
            · rfl
            · ((intro wq hSq; (try dsimp only at hSq); go_simp); (try with_reducible rfl))
            try simp only [Act.put, List.setIfInBounds_toArray, List.set_cons_zero, List.set_cons_succ]
            refine wpAnyH_take (i := 10) (oi := ?_) (v := ?_) ?_ (by kernel_rfl) (by kernel_rfl) (by kernel_rfl) ?_ (Or.inl ⟨?_, ?_⟩) (by assumption) ?_
            rotate_left 2
            · (simp only [List.getElem?_toArray, List.getElem?_cons_succ, List.getElem?_cons_zero]; rfl)
            · first | exact fun _ _ _ h => h | exact fun _ _ _ h => by cases h.1
            · rfl
            · ((intro wq hSq; (try dsimp only at hSq); go_simp); (try with_reducible rfl))
            try simp only [Act.put, List.setIfInBounds_toArray, List.set_cons_zero, List.set_cons_succ]
            refine wpAnyH_take (i := 11) (oi := ?_) (v := ?_) ?_ (by kernel_rfl) (by kernel_rfl) (by kernel_rfl) ?_ (Or.inl ⟨?_, ?_⟩) (by assumption) ?_
            rotate_left 2
            · (simp only [List.getElem?_toArray, List.getElem?_cons_succ, List.getElem?_cons_zero]; rfl)
            · first | exact fun _ _ _ h => h | exact fun _ _ _ h => by cases h.1
            · rfl
            · ((intro wq hSq; (try dsimp only at hSq); go_simp); (try with_reducible rfl))
            try simp only [Act.put, List.setIfInBounds_toArray, List.set_cons_zero, List.set_cons_succ]
            refine wpAnyH_take (i := 12) (oi := ?_) (v := ?_) ?_ (by kernel_rfl) (by kernel_rfl) (by kernel_rfl) ?_ (Or.inl ⟨?_, ?_⟩) (by assumption) ?_
            rotate_left 2
            · (simp only [List.getElem?_toArray, List.getElem?_cons_succ, List.getElem?_cons_zero]; rfl)
            · first | exact fun _ _ _ h => h | exact fun _ _ _ h => by cases h.1
            · rfl
            · ((intro wq hSq; (try dsimp only at hSq); go_simp); (try with_reducible rfl))
            try simp only [Act.put, List.setIfInBounds_toArray, List.set_cons_zero, List.set_cons_succ]
            refine wpAnyH_ready (rs := [9, 13]) (by kernel_rfl) (by simp) ?_
            refine AllReadyH.cons (o := ?_) ?_ (fun K hK => ?_) ?_
            rotate_left
            · (simp only [List.getElem?_toArray, List.getElem?_cons_succ, List.getElem?_cons_zero]; rfl)
            · go_simp
              refine hK.out _ _ trivial (fun hHeld => ?_)
              clear hK K
              try simp only [Act.put, List.setIfInBounds_toArray, List.set_cons_zero, List.set_cons_succ]
              refine wpAnyH_ready (rs := [13]) (by kernel_rfl) (by simp) ?_
              refine AllReadyH.cons (o := ?_) ?_ (fun K hK => ?_) AllReadyH.nil
              rotate_left
              · (simp only [List.getElem?_toArray, List.getElem?_cons_succ, List.getElem?_cons_zero]; rfl)
              go_simp
              refine hK.out _ _ trivial (fun hHeld => ?_)
              clear hK K
              try simp only [Act.put, List.setIfInBounds_toArray, List.set_cons_zero, List.set_cons_succ]
              refine wpAnyH_take (i := 14) (oi := ?_) (v := ?_) ?_ (by kernel_rfl) (by kernel_rfl) (by kernel_rfl) ?_ (Or.inl ⟨?_, ?_⟩) (by assumption) ?_
              rotate_left 2
              · (simp only [List.getElem?_toArray, List.getElem?_cons_succ, List.getElem?_cons_zero]; rfl)
              · first | exact fun _ _ _ h => h | exact fun _ _ _ h => by cases h.1
              · rfl
              · ((intro wq hSq; (try dsimp only at hSq); go_simp); (try with_reducible rfl))
              try simp only [Act.put, List.setIfInBounds_toArray, List.set_cons_zero, List.set_cons_succ]
              obtain ⟨ar1, hs1, hg1⟩ := hr2.store (p + 1) y (by rw [HLEN.out]; exact hpN)
              refine wpAnyH_ready (rs := [15]) (by kernel_rfl) (by simp) ?_
              refine AllReadyH.cons (o := ?_) ?_ (fun K hK => ?_) AllReadyH.nil
              rotate_left
              · (simp only [List.getElem?_toArray, List.getElem?_cons_succ, List.getElem?_cons_zero]; rfl)
              refine step_store_at rfl 45 (.tmp 51) (.tmp 46) rfl ⟨g, (p + 1) * 7, none⟩ _ rfl rfl hs1 ?_
              refine hK.out _ _ trivial (fun hHeld => ?_)
              clear hK K
              try simp only [Act.put, List.setIfInBounds_toArray, List.set_cons_zero, List.set_cons_succ]
              refine wpAnyH_take (i := 16) (oi := ?_) (v := ?_) ?_ (by kernel_rfl) (by kernel_rfl) (by kernel_rfl) ?_ (Or.inl ⟨?_, ?_⟩) (by assumption) ?_
              rotate_left 2
              · (simp only [List.getElem?_toArray, List.getElem?_cons_succ, List.getElem?_cons_zero]; rfl)
              · first | exact fun _ _ _ h => h | exact fun _ _ _ h => by cases h.1
              · rfl
              · ((intro wq hSq; (try dsimp only at hSq); go_simp); (try with_reducible rfl))
              try simp only [Act.put, List.setIfInBounds_toArray, List.set_cons_zero, List.set_cons_succ]
              obtain ⟨ar2, hs2, hg2⟩ := hg1.store p x (by rw [List.length_set, HLEN.out]; exact j6)
              refine wpAnyH_ready (rs := [17]) (by kernel_rfl) (by simp) ?_
              refine AllReadyH.cons (o := ?_) ?_ (fun K hK => ?_) AllReadyH.nil
              rotate_left
              · (simp only [List.getElem?_toArray, List.getElem?_cons_succ, List.getElem?_cons_zero]; rfl)
              refine step_store_at rfl 45 (.tmp 52) (.tmp 50) rfl ⟨g, p * 7, none⟩ _ rfl rfl hs2 ?_
              refine hK.out _ _ trivial (fun hHeld => ?_)
              clear hK K
              try simp only [Act.put, List.setIfInBounds_toArray, List.set_cons_zero, List.set_cons_succ]
              have hsw := swap_set (S1 := S1') (S2 := S2) (y := y) (x := x) P R2
              rw [HPP.out] at hsw
              rw [hsw] at hg2
              have hk3 := (hk2.row ar1).row ar2
              generalize (we.setRow g ar1).setRow g ar2 = wz at hg2 hk3 ⊢
              have HG2 := Lib.hid hg2
              have HK3 := Lib.hid hk3
              clear hg2 hk3 hk2 hr2 hg1 hsw hs1 hs2 x0 x1 x2 x3 x4 x5 x6 y0 y1 y2 y3 y4 y5 y6
              refine wpAnyH_done (by kernel_rfl) ?_ _
              go_wp2_with fail
              go_roundw
              case rel =>
                have htg : y.t < x.t := by
                  have hy : y ∈ S0.take k := HP.out.subset (by rw [HSE.out]; simp)
                  have hsp : S0 = S0.take k ++ x :: S0.drop (k + 1) := by
                    have h2 := (List.take_append_drop (k + 1) S0).symm
                    rw [take_snoc HX.out] at h2
                    simpa using h2
                  have h3 := HT.out
                  rw [hsp] at h3
                  exact (List.pairwise_append.1 h3).2.2 y hy x (by simp)
                have hxy : ltE x y := (ltE_later htg).2 (by rw [HCQ.out]; exact of_decide_eq_true hneg)
                refine ⟨S1', y :: S2, by rw [HSE.out]; simp, val_int (by have := HP2.out; omega), HG2.out, fun z hz => ?_, HK3.out⟩
                rcases List.mem_cons.1 hz with rfl | hz
                · exact hxy
                · exact HL.out z hz
              case measure => simp [intOf]
            · refine AllReadyH.cons (o := ?_) ?_ (fun K hK => ?_) AllReadyH.nil
              rotate_left
              · (simp only [List.getElem?_toArray, List.getElem?_cons_succ, List.getElem?_cons_zero]; rfl)
              go_simp
              refine hK.out _ _ trivial (fun hHeld => ?_)
              clear hK K
              try simp only [Act.put, List.setIfInBounds_toArray, List.set_cons_zero, List.set_cons_succ]
              refine wpAnyH_ready (rs := [9]) (by kernel_rfl) (by simp) ?_
              refine AllReadyH.cons (o := ?_) ?_ (fun K hK => ?_) AllReadyH.nil
              rotate_left
              · (simp only [List.getElem?_toArray, List.getElem?_cons_succ, List.getElem?_cons_zero]; rfl)
              go_simp
              refine hK.out _ _ trivial (fun hHeld => ?_)
              clear hK K
              try simp only [Act.put, List.setIfInBounds_toArray, List.set_cons_zero, List.set_cons_succ]
              refine wpAnyH_take (i := 14) (oi := ?_) (v := ?_) ?_ (by kernel_rfl) (by kernel_rfl) (by kernel_rfl) ?_ (Or.inl ⟨?_, ?_⟩) (by assumption) ?_
              rotate_left 2
              · (simp only [List.getElem?_toArray, List.getElem?_cons_succ, List.getElem?_cons_zero]; rfl)
              · first | exact fun _ _ _ h => h | exact fun _ _ _ h => by cases h.1
              · rfl
              · ((intro wq hSq; (try dsimp only at hSq); go_simp); (try with_reducible rfl))
              try simp only [Act.put, List.setIfInBounds_toArray, List.set_cons_zero, List.set_cons_succ]
              obtain ⟨ar1, hs1, hg1⟩ := hr2.store (p + 1) y (by rw [HLEN.out]; exact hpN)
              refine wpAnyH_ready (rs := [15]) (by kernel_rfl) (by simp) ?_
              refine AllReadyH.cons (o := ?_) ?_ (fun K hK => ?_) AllReadyH.nil
              rotate_left
              · (simp only [List.getElem?_toArray, List.getElem?_cons_succ, List.getElem?_cons_zero]; rfl)
              refine step_store_at rfl 45 (.tmp 51) (.tmp 46) rfl ⟨g, (p + 1) * 7, none⟩ _ rfl rfl hs1 ?_
              refine hK.out _ _ trivial (fun hHeld => ?_)
              clear hK K
              try simp only [Act.put, List.setIfInBounds_toArray, List.set_cons_zero, List.set_cons_succ]
              refine wpAnyH_take (i := 16) (oi := ?_) (v := ?_) ?_ (by kernel_rfl) (by kernel_rfl) (by kernel_rfl) ?_ (Or.inl ⟨?_, ?_⟩) (by assumption) ?_
              rotate_left 2
              · (simp only [List.getElem?_toArray, List.getElem?_cons_succ, List.getElem?_cons_zero]; rfl)
              · first | exact fun _ _ _ h => h | exact fun _ _ _ h => by cases h.1
              · rfl
              · ((intro wq hSq; (try dsimp only at hSq); go_simp); (try with_reducible rfl))
              try simp only [Act.put, List.setIfInBounds_toArray, List.set_cons_zero, List.set_cons_succ]
              obtain ⟨ar2, hs2, hg2⟩ := hg1.store p x (by rw [List.length_set, HLEN.out]; exact j6)
              refine wpAnyH_ready (rs := [17]) (by kernel_rfl) (by simp) ?_
              refine AllReadyH.cons (o := ?_) ?_ (fun K hK => ?_) AllReadyH.nil
              rotate_left
              · (simp only [List.getElem?_toArray, List.getElem?_cons_succ, List.getElem?_cons_zero]; rfl)
              refine step_store_at rfl 45 (.tmp 52) (.tmp 50) rfl ⟨g, p * 7, none⟩ _ rfl rfl hs2 ?_
              refine hK.out _ _ trivial (fun hHeld => ?_)
              clear hK K
              try simp only [Act.put, List.setIfInBounds_toArray, List.set_cons_zero, List.set_cons_succ]
              have hsw := swap_set (S1 := S1') (S2 := S2) (y := y) (x := x) P R2
              rw [HPP.out] at hsw
              rw [hsw] at hg2
              have hk3 := (hk2.row ar1).row ar2
              generalize (we.setRow g ar1).setRow g ar2 = wz at hg2 hk3 ⊢
              have HG2 := Lib.hid hg2
              have HK3 := Lib.hid hk3
              clear hg2 hk3 hk2 hr2 hg1 hsw hs1 hs2 x0 x1 x2 x3 x4 x5 x6 y0 y1 y2 y3 y4 y5 y6
              refine wpAnyH_done (by kernel_rfl) ?_ _
              go_wp2_with fail
              go_roundw
              case rel =>
                have htg : y.t < x.t := by
                  have hy : y ∈ S0.take k := HP.out.subset (by rw [HSE.out]; simp)
                  have hsp : S0 = S0.take k ++ x :: S0.drop (k + 1) := by
                    have h2 := (List.take_append_drop (k + 1) S0).symm
                    rw [take_snoc HX.out] at h2
                    simpa using h2
                  have h3 := HT.out
                  rw [hsp] at h3
                  exact (List.pairwise_append.1 h3).2.2 y hy x (by simp)
                have hxy : ltE x y := (ltE_later htg).2 (by rw [HCQ.out]; exact of_decide_eq_true hneg)
                refine ⟨S1', y :: S2, by rw [HSE.out]; simp, val_int (by have := HP2.out; omega), HG2.out, fun z hz => ?_, HK3.out⟩
                rcases List.mem_cons.1 hz with rfl | hz
                · exact hxy
                · exact HL.out z hz
              case measure => simp [intOf]
    · have hkn' : S0.take k = S0 := List.take_of_length_le (by rw [HNN.out]; omega)
      have hdr : S0.drop k = [] := List.drop_eq_nil_of_le (by rw [HNN.out]; omega)
      rw [hkn'] at hp
      rw [hdr, List.nil_append] at hr
      have him : ¬ a + k < m := by have := HM.out; omega
      obtain ⟨i, hi⟩ : ∃ i, a + k = i := ⟨_, rfl⟩
      rw [hi] at him ⊢
      have him2 : ¬ (i : Int) < (m : Int) := by omega
      have him3 : decide ((i : Int) < (m : Int)) = false := decide_eq_false him2
      have HF := Lib.hid (And.intro hr (And.intro hp (And.intro hs hkp)))
      clear hr hp hs hkp hi hk1 hkn hkn' hdr
      go_wp2_with fail
      (try simp only [Exit.inBlock, Exit.then])
      refine bodyPost_end (results_none rfl _ _ _) rfl ?_
      exact ⟨rfl, S, by first | exact HF.out.1 | (rw [← List.append_assoc]; exact HF.out.1), HF.out.2.1, HF.out.2.2.1, HF.out.2.2.2⟩

end Go.Proofs.YtkcdmonmgnmojaaDoor
