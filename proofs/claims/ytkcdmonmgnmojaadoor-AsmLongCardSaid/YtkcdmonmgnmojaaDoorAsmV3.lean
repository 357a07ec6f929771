/- The reference's Line, kind for kind. -/
import Derived.Test.YtkcdmonmgnmojaaDoorAsmV
namespace Go.Proofs.YtkcdmonmgnmojaaDoor
open Go.RowKit

set_option maxRecDepth 100000 in
set_option maxHeartbeats 4000000 in
theorem rline_8 (a b c m : Int) (w : World) (ha : 0 ≤ a ∧ a < 256) (hb : 0 ≤ b ∧ b < 256) (hc : 0 ≤ c ∧ c < 256) (hm : 0 ≤ m ∧ m < 4294967296) :
    Calls Tryd.prog 11 #[.agg #[.int .i64 8, .int .i64 a, .int .i64 b, .int .i64 c, .int .u32 m]] w fun r w' => r = .returned (.string (rlineS ⟨8, a, b, c, m⟩)) ∧ Below w.heap.size w w' := by
  have hew : IntKind.i64.wrap m = m := by simp [IntKind.wrap, IntKind.signed, IntKind.bits]; omega
  have hs1 := partR_size (l := [114]) (z := a) (by simp) (by omega)
  have hs2 := partR_size (l := [114]) (z := b) (by simp) (by omega)
  have hs3 := partR_size (l := [114]) (z := c) (by simp) (by omega)
  have heq : rlineS ⟨8, a, b, c, m⟩ = ((((⟨#[120, 111, 114]⟩ : ByteArray) ++ partR [114] a) ++ partR [114] b) ++ partR [114] c) := by
    refine ByteArray.ext ?_
    simp [rlineS, shOf, shs, opsL, partR, partL]
  rw [heq]
  clear heq
  have q1 : ¬ 9223372036854775807 < 3 + (partR [114] a).size := by omega
  have q2 : ¬ 9223372036854775807 < 3 + (partR [114] a).size + (partR [114] b).size := by omega
  have q3 : ¬ 9223372036854775807 < 3 + (partR [114] a).size + (partR [114] b).size + (partR [114] c).size := by omega
  have hbx := InBox.new w ⟨8, a, b, c, m⟩
  simp only at hbx
  have hB1 := (Below.refl _ w).alloc (Nat.le_refl _) (.cells #[.int .i64 8, .int .i64 a, .int .i64 b, .int .i64 c, .int .u32 m] 24)
  have hbx' := Lib.hid hbx
  have hB1' := Lib.hid hB1
  clear hbx hB1
  go_enter Tryd.func11, Tryd.ntmps11
  go_wp2_with fail
  have hbx := hbx'.out
  have hB1 := hB1'.out
  obtain ⟨w1, hw1⟩ : ∃ x, w.alloc (.cells #[.int .i64 8, .int .i64 a, .int .i64 b, .int .i64 c, .int .u32 m] 24) = x := ⟨_, rfl⟩
  obtain ⟨n, hn⟩ : ∃ n, w.heap.size = n := ⟨_, rfl⟩
  rw [hw1] at hbx hB1 ⊢
  rw [hn] at hbx
  simp only [hn]
  clear hw1 hbx' hB1'
  obtain ⟨c0, c1, c2, c3, c4⟩ := hbx.cells
  refine region_to (fun bw => { tmps := #[.agg #[.int .i64 8, .int .i64 a, .int .i64 b, .int .i64 c, .int .u32 m], .pointer (some ⟨n, 0, none⟩), .string ⟨#[]⟩, .string ⟨#[120, 111, 114]⟩, undef, .slice (some ⟨bw, 0, none⟩) 22 22, .pointer (some ⟨n, 0, none⟩), .int .i64 8, .pointer (some ⟨bw, 8, none⟩), .string ⟨#[120, 111, 114]⟩, undef, undef, undef, undef, undef, undef, undef, undef, undef, undef, undef, undef, undef, undef, undef, undef, undef, undef, undef, undef, undef, undef, undef, undef, undef, undef, undef, undef, undef, undef, undef, undef, undef, undef, undef, undef, undef, undef, undef, undef, undef, undef, undef, undef, undef, undef, undef, undef, undef, undef, undef, undef, undef, undef, undef, undef, undef, undef, undef, undef, undef, undef, undef, undef, undef, undef, undef, undef, undef, undef, undef, undef, undef, undef, undef, undef, undef, undef, undef, undef, undef, undef, undef, undef, undef, undef, undef, undef, undef, undef, undef, undef, undef, undef, undef, undef, undef, undef, undef, undef, undef, undef, undef, undef, undef, undef, undef, undef, undef, undef, undef, undef, undef, undef, undef, undef], defers := [] }) (fun bw w' => Below w1.heap.size w1 w' ∧ InBox w' n ⟨8, a, b, c, m⟩) ?reg ?cont
  case reg =>
    refine wp_region_held_drew (S := fun w' => Below w1.heap.size w1 w' ∧ InBox w' n ⟨8, a, b, c, m⟩ ∧ w'.cell? ⟨n, 0, none⟩ = some (.int .i64 8)) (by kernel_rfl) (⟨(Below.refl _ w1).drew, hbx, c0⟩ : RgSt w1 n ⟨8, a, b, c, m⟩ w1.drew) (fun hHeld => ?_)
    generalize w1.drew = wd at hHeld ⊢
    refine wpAnyH_take (i := 1) (oi := ?_) (v := ?_) ?_ (by kernel_rfl) (by kernel_rfl) (by kernel_rfl) ?_ (Or.inl ⟨?_, ?_⟩) (by assumption) ?_
    rotate_left 2
    · (simp only [List.getElem?_toArray, List.getElem?_cons_succ, List.getElem?_cons_zero]; rfl)
    · first | exact fun _ _ _ h => h | exact fun _ _ _ h => by cases h.1
    · rfl
    · ((intro wq hSq; (try dsimp only at hSq); go_simp); (try with_reducible rfl))
    try simp only [Act.put, List.setIfInBounds_toArray, List.set_cons_zero, List.set_cons_succ]
    refine wpAnyH_take (i := 2) (oi := ?_) (v := ?_) ?_ (by kernel_rfl) (by kernel_rfl) (by kernel_rfl) ?_ (Or.inl ⟨?_, ?_⟩) (by assumption) ?_
    rotate_left 2
    · (simp only [List.getElem?_toArray, List.getElem?_cons_succ, List.getElem?_cons_zero]; rfl)
    · first | exact fun _ _ _ h => h | exact fun _ _ _ h => by cases h.1
    · rfl
    · ((intro wq hSq; (try dsimp only at hSq); go_simp); (try with_reducible rfl))
    try simp only [Act.put, List.setIfInBounds_toArray, List.set_cons_zero, List.set_cons_succ]
    refine wpAnyH_ready (rs := [0]) (by kernel_rfl) (by simp) ?_
    refine AllReadyH.cons (o := ?_) ?_ (fun K hK => ?_) AllReadyH.nil
    rotate_left
    · (simp only [List.getElem?_toArray, List.getElem?_cons_zero]; rfl)
    go_simp
    go_at_call 35
    refine (rwords_any _).mono ?_
    rintro e wx ⟨bw, rfl, hcw, hlw, hbw⟩
    have hSx := RgSt.below (w1 := w1) (n := n) (e := ⟨8, a, b, c, m⟩) hHeld hbw
    have hcw0 := hcw 8 ⟨#[120, 111, 114]⟩ rfl
    refine hK.out _ _ hSx (fun hHeld => ?_)
    clear hK K
    try simp only [Act.put, List.setIfInBounds_toArray, List.set_cons_zero, List.set_cons_succ]
    have hSy : (RgSt w1 n ⟨8, a, b, c, m⟩ _) ∧ _ := ⟨hHeld, hcw0⟩
    refine wpAnyH_strong (S' := fun w' => (Below w1.heap.size w1 w' ∧ InBox w' n ⟨8, a, b, c, m⟩ ∧ w'.cell? ⟨n, 0, none⟩ = some (.int .i64 8)) ∧ w'.cell? ⟨bw, 8, none⟩ = some (.string ⟨#[120, 111, 114]⟩)) (fun w h => h.1) _ _ _ _ ?_
    refine wpAnyH_take (i := 3) (oi := ?_) (v := ?_) ?_ (by kernel_rfl) (by kernel_rfl) (by kernel_rfl) ?_ (Or.inl ⟨?_, ?_⟩) (by assumption) ?_
    rotate_left 2
    · (simp only [List.getElem?_toArray, List.getElem?_cons_succ, List.getElem?_cons_zero]; rfl)
    · first | exact fun _ _ _ h => h | exact fun _ _ _ h => by cases h.1
    · rfl
    · ((intro wq hSq; (try dsimp only at hSq); go_simp); (try with_reducible rfl))
    try simp only [Act.put, List.setIfInBounds_toArray, List.set_cons_zero, List.set_cons_succ]
    refine wpAnyH_take (i := 4) (oi := ?_) (v := ?_) ?_ (by kernel_rfl) (by kernel_rfl) (by kernel_rfl) ?_ (Or.inl ⟨?_, ?_⟩) (by assumption) ?_
    rotate_left 2
    · (simp only [List.getElem?_toArray, List.getElem?_cons_succ, List.getElem?_cons_zero]; rfl)
    · first | exact fun _ _ _ h => h | exact fun _ _ _ h => by cases h.1
    · rfl
    · ((intro wq hSq; (try dsimp only at hSq); go_simp); (try with_reducible rfl))
    try simp only [Act.put, List.setIfInBounds_toArray, List.set_cons_zero, List.set_cons_succ]
    refine wpAnyH_take (i := 5) (oi := ?_) (v := ?_) ?_ (by kernel_rfl) (by kernel_rfl) (by kernel_rfl) ?_ (Or.inl ⟨?_, ?_⟩) (by assumption) ?_
    rotate_left 2
    · (simp only [List.getElem?_toArray, List.getElem?_cons_succ, List.getElem?_cons_zero]; rfl)
    · first | exact fun _ _ _ h => h | exact fun _ _ _ h => by cases h.1
    · rfl
    · ((intro wq hSq; (try dsimp only at hSq); go_simp); (try with_reducible rfl))
    try simp only [Act.put, List.setIfInBounds_toArray, List.set_cons_zero, List.set_cons_succ]
    refine wpAnyH_done (by kernel_rfl) ?_ _
    exact ⟨rfl, bw, rfl, hHeld.1, hHeld.2.1⟩
  rintro bw w2 ⟨hb2, hbx2⟩
  dsimp only
  clear c0 c1 c2 c3 c4
  obtain ⟨c0, c1, c2, c3, c4⟩ := hbx2.cells
  have hBf : Below n w w2 := by rw [← hn]; exact hB1.trans (hb2.mono hB1.size)
  have hBf' := Lib.hid hBf
  clear hB1 hb2 hbx hbx2 hBf
  go_wp2_with fail
  have hSd : RlSt w2 n a b c m w2.drew := RlSt.drew ⟨Below.refl _ _, c1, c2, c3, c4⟩
  go_region_held3 (fun w' => Below w2.heap.size w2 w' ∧ w'.cell? ⟨n, 1, none⟩ = some (.int .i64 a) ∧ w'.cell? ⟨n, 2, none⟩ = some (.int .i64 b) ∧ w'.cell? ⟨n, 3, none⟩ = some (.int .i64 c) ∧ w'.cell? ⟨n, 4, none⟩ = some (.int .u32 m))
    (first | exact hSd | assumption)
    (first
      | (go_at_call 36; refine (rpart_any _ _ _ (by simp) (by omega)).mono ?_; rintro e wx ⟨rfl, hbx⟩; have hSx := RlSt.below (w2 := w2) (n := n) (a := a) (b := b) (c := c) (m := m) (by assumption) hbx))
  all_goals
    go_wp2_with fail
    go_ret
    exact ⟨rfl, by first | exact hBf'.out.trans (hSx.1.mono (by have := hBf'.out.size; omega)) | (rw [hn]; exact hBf'.out.trans (hSx.1.mono (by have := hBf'.out.size; omega)))⟩

set_option maxRecDepth 100000 in
set_option maxHeartbeats 4000000 in
theorem rline_9 (a b c m : Int) (w : World) (ha : 0 ≤ a ∧ a < 256) (hb : 0 ≤ b ∧ b < 256) (hc : 0 ≤ c ∧ c < 256) (hm : 0 ≤ m ∧ m < 4294967296) :
    Calls Tryd.prog 11 #[.agg #[.int .i64 9, .int .i64 a, .int .i64 b, .int .i64 c, .int .u32 m]] w fun r w' => r = .returned (.string (rlineS ⟨9, a, b, c, m⟩)) ∧ Below w.heap.size w w' := by
  have hew : IntKind.i64.wrap m = m := by simp [IntKind.wrap, IntKind.signed, IntKind.bits]; omega
  have hs1 := partR_size (l := [114]) (z := a) (by simp) (by omega)
  have hs2 := partR_size (l := [114]) (z := b) (by simp) (by omega)
  have hs3 := partR_size (l := [114]) (z := c) (by simp) (by omega)
  have heq : rlineS ⟨9, a, b, c, m⟩ = ((((⟨#[108, 101, 115, 115]⟩ : ByteArray) ++ partR [114] a) ++ partR [114] b) ++ partR [114] c) := by
    refine ByteArray.ext ?_
    simp [rlineS, shOf, shs, opsL, partR, partL]
  rw [heq]
  clear heq
  have q1 : ¬ 9223372036854775807 < 4 + (partR [114] a).size := by omega
  have q2 : ¬ 9223372036854775807 < 4 + (partR [114] a).size + (partR [114] b).size := by omega
  have q3 : ¬ 9223372036854775807 < 4 + (partR [114] a).size + (partR [114] b).size + (partR [114] c).size := by omega
  have hbx := InBox.new w ⟨9, a, b, c, m⟩
  simp only at hbx
  have hB1 := (Below.refl _ w).alloc (Nat.le_refl _) (.cells #[.int .i64 9, .int .i64 a, .int .i64 b, .int .i64 c, .int .u32 m] 24)
  have hbx' := Lib.hid hbx
  have hB1' := Lib.hid hB1
  clear hbx hB1
  go_enter Tryd.func11, Tryd.ntmps11
  go_wp2_with fail
  have hbx := hbx'.out
  have hB1 := hB1'.out
  obtain ⟨w1, hw1⟩ : ∃ x, w.alloc (.cells #[.int .i64 9, .int .i64 a, .int .i64 b, .int .i64 c, .int .u32 m] 24) = x := ⟨_, rfl⟩
  obtain ⟨n, hn⟩ : ∃ n, w.heap.size = n := ⟨_, rfl⟩
  rw [hw1] at hbx hB1 ⊢
  rw [hn] at hbx
  simp only [hn]
  clear hw1 hbx' hB1'
  obtain ⟨c0, c1, c2, c3, c4⟩ := hbx.cells
  refine region_to (fun bw => { tmps := #[.agg #[.int .i64 9, .int .i64 a, .int .i64 b, .int .i64 c, .int .u32 m], .pointer (some ⟨n, 0, none⟩), .string ⟨#[]⟩, .string ⟨#[108, 101, 115, 115]⟩, undef, .slice (some ⟨bw, 0, none⟩) 22 22, .pointer (some ⟨n, 0, none⟩), .int .i64 9, .pointer (some ⟨bw, 9, none⟩), .string ⟨#[108, 101, 115, 115]⟩, undef, undef, undef, undef, undef, undef, undef, undef, undef, undef, undef, undef, undef, undef, undef, undef, undef, undef, undef, undef, undef, undef, undef, undef, undef, undef, undef, undef, undef, undef, undef, undef, undef, undef, undef, undef, undef, undef, undef, undef, undef, undef, undef, undef, undef, undef, undef, undef, undef, undef, undef, undef, undef, undef, undef, undef, undef, undef, undef, undef, undef, undef, undef, undef, undef, undef, undef, undef, undef, undef, undef, undef, undef, undef, undef, undef, undef, undef, undef, undef, undef, undef, undef, undef, undef, undef, undef, undef, undef, undef, undef, undef, undef, undef, undef, undef, undef, undef, undef, undef, undef, undef, undef, undef, undef, undef, undef, undef, undef, undef, undef, undef, undef, undef, undef, undef], defers := [] }) (fun bw w' => Below w1.heap.size w1 w' ∧ InBox w' n ⟨9, a, b, c, m⟩) ?reg ?cont
  case reg =>
    refine wp_region_held_drew (S := fun w' => Below w1.heap.size w1 w' ∧ InBox w' n ⟨9, a, b, c, m⟩ ∧ w'.cell? ⟨n, 0, none⟩ = some (.int .i64 9)) (by kernel_rfl) (⟨(Below.refl _ w1).drew, hbx, c0⟩ : RgSt w1 n ⟨9, a, b, c, m⟩ w1.drew) (fun hHeld => ?_)
    generalize w1.drew = wd at hHeld ⊢
    refine wpAnyH_take (i := 1) (oi := ?_) (v := ?_) ?_ (by kernel_rfl) (by kernel_rfl) (by kernel_rfl) ?_ (Or.inl ⟨?_, ?_⟩) (by assumption) ?_
    rotate_left 2
    · (simp only [List.getElem?_toArray, List.getElem?_cons_succ, List.getElem?_cons_zero]; rfl)
    · first | exact fun _ _ _ h => h | exact fun _ _ _ h => by cases h.1
    · rfl
    · ((intro wq hSq; (try dsimp only at hSq); go_simp); (try with_reducible rfl))
    try simp only [Act.put, List.setIfInBounds_toArray, List.set_cons_zero, List.set_cons_succ]
    refine wpAnyH_take (i := 2) (oi := ?_) (v := ?_) ?_ (by kernel_rfl) (by kernel_rfl) (by kernel_rfl) ?_ (Or.inl ⟨?_, ?_⟩) (by assumption) ?_
    rotate_left 2
    · (simp only [List.getElem?_toArray, List.getElem?_cons_succ, List.getElem?_cons_zero]; rfl)
    · first | exact fun _ _ _ h => h | exact fun _ _ _ h => by cases h.1
    · rfl
    · ((intro wq hSq; (try dsimp only at hSq); go_simp); (try with_reducible rfl))
    try simp only [Act.put, List.setIfInBounds_toArray, List.set_cons_zero, List.set_cons_succ]
    refine wpAnyH_ready (rs := [0]) (by kernel_rfl) (by simp) ?_
    refine AllReadyH.cons (o := ?_) ?_ (fun K hK => ?_) AllReadyH.nil
    rotate_left
    · (simp only [List.getElem?_toArray, List.getElem?_cons_zero]; rfl)
    go_simp
    go_at_call 35
    refine (rwords_any _).mono ?_
    rintro e wx ⟨bw, rfl, hcw, hlw, hbw⟩
    have hSx := RgSt.below (w1 := w1) (n := n) (e := ⟨9, a, b, c, m⟩) hHeld hbw
    have hcw0 := hcw 9 ⟨#[108, 101, 115, 115]⟩ rfl
    refine hK.out _ _ hSx (fun hHeld => ?_)
    clear hK K
    try simp only [Act.put, List.setIfInBounds_toArray, List.set_cons_zero, List.set_cons_succ]
    have hSy : (RgSt w1 n ⟨9, a, b, c, m⟩ _) ∧ _ := ⟨hHeld, hcw0⟩
    refine wpAnyH_strong (S' := fun w' => (Below w1.heap.size w1 w' ∧ InBox w' n ⟨9, a, b, c, m⟩ ∧ w'.cell? ⟨n, 0, none⟩ = some (.int .i64 9)) ∧ w'.cell? ⟨bw, 9, none⟩ = some (.string ⟨#[108, 101, 115, 115]⟩)) (fun w h => h.1) _ _ _ _ ?_
    refine wpAnyH_take (i := 3) (oi := ?_) (v := ?_) ?_ (by kernel_rfl) (by kernel_rfl) (by kernel_rfl) ?_ (Or.inl ⟨?_, ?_⟩) (by assumption) ?_
    rotate_left 2
    · (simp only [List.getElem?_toArray, List.getElem?_cons_succ, List.getElem?_cons_zero]; rfl)
    · first | exact fun _ _ _ h => h | exact fun _ _ _ h => by cases h.1
    · rfl
    · ((intro wq hSq; (try dsimp only at hSq); go_simp); (try with_reducible rfl))
    try simp only [Act.put, List.setIfInBounds_toArray, List.set_cons_zero, List.set_cons_succ]
    refine wpAnyH_take (i := 4) (oi := ?_) (v := ?_) ?_ (by kernel_rfl) (by kernel_rfl) (by kernel_rfl) ?_ (Or.inl ⟨?_, ?_⟩) (by assumption) ?_
    rotate_left 2
    · (simp only [List.getElem?_toArray, List.getElem?_cons_succ, List.getElem?_cons_zero]; rfl)
    · first | exact fun _ _ _ h => h | exact fun _ _ _ h => by cases h.1
    · rfl
    · ((intro wq hSq; (try dsimp only at hSq); go_simp); (try with_reducible rfl))
    try simp only [Act.put, List.setIfInBounds_toArray, List.set_cons_zero, List.set_cons_succ]
    refine wpAnyH_take (i := 5) (oi := ?_) (v := ?_) ?_ (by kernel_rfl) (by kernel_rfl) (by kernel_rfl) ?_ (Or.inl ⟨?_, ?_⟩) (by assumption) ?_
    rotate_left 2
    · (simp only [List.getElem?_toArray, List.getElem?_cons_succ, List.getElem?_cons_zero]; rfl)
    · first | exact fun _ _ _ h => h | exact fun _ _ _ h => by cases h.1
    · rfl
    · ((intro wq hSq; (try dsimp only at hSq); go_simp); (try with_reducible rfl))
    try simp only [Act.put, List.setIfInBounds_toArray, List.set_cons_zero, List.set_cons_succ]
    refine wpAnyH_done (by kernel_rfl) ?_ _
    exact ⟨rfl, bw, rfl, hHeld.1, hHeld.2.1⟩
  rintro bw w2 ⟨hb2, hbx2⟩
  dsimp only
  clear c0 c1 c2 c3 c4
  obtain ⟨c0, c1, c2, c3, c4⟩ := hbx2.cells
  have hBf : Below n w w2 := by rw [← hn]; exact hB1.trans (hb2.mono hB1.size)
  have hBf' := Lib.hid hBf
  clear hB1 hb2 hbx hbx2 hBf
  go_wp2_with fail
  have hSd : RlSt w2 n a b c m w2.drew := RlSt.drew ⟨Below.refl _ _, c1, c2, c3, c4⟩
  go_region_held3 (fun w' => Below w2.heap.size w2 w' ∧ w'.cell? ⟨n, 1, none⟩ = some (.int .i64 a) ∧ w'.cell? ⟨n, 2, none⟩ = some (.int .i64 b) ∧ w'.cell? ⟨n, 3, none⟩ = some (.int .i64 c) ∧ w'.cell? ⟨n, 4, none⟩ = some (.int .u32 m))
    (first | exact hSd | assumption)
    (first
      | (go_at_call 36; refine (rpart_any _ _ _ (by simp) (by omega)).mono ?_; rintro e wx ⟨rfl, hbx⟩; have hSx := RlSt.below (w2 := w2) (n := n) (a := a) (b := b) (c := c) (m := m) (by assumption) hbx))
  all_goals
    go_wp2_with fail
    go_ret
    exact ⟨rfl, by first | exact hBf'.out.trans (hSx.1.mono (by have := hBf'.out.size; omega)) | (rw [hn]; exact hBf'.out.trans (hSx.1.mono (by have := hBf'.out.size; omega)))⟩

set_option maxRecDepth 100000 in
set_option maxHeartbeats 4000000 in
theorem rline_10 (a b c m : Int) (w : World) (ha : 0 ≤ a ∧ a < 256) (hb : 0 ≤ b ∧ b < 256) (hc : 0 ≤ c ∧ c < 256) (hm : 0 ≤ m ∧ m < 4294967296) :
    Calls Tryd.prog 11 #[.agg #[.int .i64 10, .int .i64 a, .int .i64 b, .int .i64 c, .int .u32 m]] w fun r w' => r = .returned (.string (rlineS ⟨10, a, b, c, m⟩)) ∧ Below w.heap.size w w' := by
  have hew : IntKind.i64.wrap m = m := by simp [IntKind.wrap, IntKind.signed, IntKind.bits]; omega
  have hs1 := partR_size (l := [114]) (z := a) (by simp) (by omega)
  have hs2 := partR_size (l := [114]) (z := b) (by simp) (by omega)
  have hs3 := partR_size (l := [114]) (z := c) (by simp) (by omega)
  have heq : rlineS ⟨10, a, b, c, m⟩ = ((((⟨#[101, 113, 117, 97, 108]⟩ : ByteArray) ++ partR [114] a) ++ partR [114] b) ++ partR [114] c) := by
    refine ByteArray.ext ?_
    simp [rlineS, shOf, shs, opsL, partR, partL]
  rw [heq]
  clear heq
  have q1 : ¬ 9223372036854775807 < 5 + (partR [114] a).size := by omega
  have q2 : ¬ 9223372036854775807 < 5 + (partR [114] a).size + (partR [114] b).size := by omega
  have q3 : ¬ 9223372036854775807 < 5 + (partR [114] a).size + (partR [114] b).size + (partR [114] c).size := by omega
  have hbx := InBox.new w ⟨10, a, b, c, m⟩
  simp only at hbx
  have hB1 := (Below.refl _ w).alloc (Nat.le_refl _) (.cells #[.int .i64 10, .int .i64 a, .int .i64 b, .int .i64 c, .int .u32 m] 24)
  have hbx' := Lib.hid hbx
  have hB1' := Lib.hid hB1
  clear hbx hB1
  go_enter Tryd.func11, Tryd.ntmps11
  go_wp2_with fail
  have hbx := hbx'.out
  have hB1 := hB1'.out
  obtain ⟨w1, hw1⟩ : ∃ x, w.alloc (.cells #[.int .i64 10, .int .i64 a, .int .i64 b, .int .i64 c, .int .u32 m] 24) = x := ⟨_, rfl⟩
  obtain ⟨n, hn⟩ : ∃ n, w.heap.size = n := ⟨_, rfl⟩
  rw [hw1] at hbx hB1 ⊢
  rw [hn] at hbx
  simp only [hn]
  clear hw1 hbx' hB1'
  obtain ⟨c0, c1, c2, c3, c4⟩ := hbx.cells
  refine region_to (fun bw => { tmps := #[.agg #[.int .i64 10, .int .i64 a, .int .i64 b, .int .i64 c, .int .u32 m], .pointer (some ⟨n, 0, none⟩), .string ⟨#[]⟩, .string ⟨#[101, 113, 117, 97, 108]⟩, undef, .slice (some ⟨bw, 0, none⟩) 22 22, .pointer (some ⟨n, 0, none⟩), .int .i64 10, .pointer (some ⟨bw, 10, none⟩), .string ⟨#[101, 113, 117, 97, 108]⟩, undef, undef, undef, undef, undef, undef, undef, undef, undef, undef, undef, undef, undef, undef, undef, undef, undef, undef, undef, undef, undef, undef, undef, undef, undef, undef, undef, undef, undef, undef, undef, undef, undef, undef, undef, undef, undef, undef, undef, undef, undef, undef, undef, undef, undef, undef, undef, undef, undef, undef, undef, undef, undef, undef, undef, undef, undef, undef, undef, undef, undef, undef, undef, undef, undef, undef, undef, undef, undef, undef, undef, undef, undef, undef, undef, undef, undef, undef, undef, undef, undef, undef, undef, undef, undef, undef, undef, undef, undef, undef, undef, undef, undef, undef, undef, undef, undef, undef, undef, undef, undef, undef, undef, undef, undef, undef, undef, undef, undef, undef, undef, undef, undef, undef, undef, undef], defers := [] }) (fun bw w' => Below w1.heap.size w1 w' ∧ InBox w' n ⟨10, a, b, c, m⟩) ?reg ?cont
  case reg =>
    refine wp_region_held_drew (S := fun w' => Below w1.heap.size w1 w' ∧ InBox w' n ⟨10, a, b, c, m⟩ ∧ w'.cell? ⟨n, 0, none⟩ = some (.int .i64 10)) (by kernel_rfl) (⟨(Below.refl _ w1).drew, hbx, c0⟩ : RgSt w1 n ⟨10, a, b, c, m⟩ w1.drew) (fun hHeld => ?_)
    generalize w1.drew = wd at hHeld ⊢
    refine wpAnyH_take (i := 1) (oi := ?_) (v := ?_) ?_ (by kernel_rfl) (by kernel_rfl) (by kernel_rfl) ?_ (Or.inl ⟨?_, ?_⟩) (by assumption) ?_
    rotate_left 2
    · (simp only [List.getElem?_toArray, List.getElem?_cons_succ, List.getElem?_cons_zero]; rfl)
    · first | exact fun _ _ _ h => h | exact fun _ _ _ h => by cases h.1
    · rfl
    · ((intro wq hSq; (try dsimp only at hSq); go_simp); (try with_reducible rfl))
    try simp only [Act.put, List.setIfInBounds_toArray, List.set_cons_zero, List.set_cons_succ]
    refine wpAnyH_take (i := 2) (oi := ?_) (v := ?_) ?_ (by kernel_rfl) (by kernel_rfl) (by kernel_rfl) ?_ (Or.inl ⟨?_, ?_⟩) (by assumption) ?_
    rotate_left 2
    · (simp only [List.getElem?_toArray, List.getElem?_cons_succ, List.getElem?_cons_zero]; rfl)
    · first | exact fun _ _ _ h => h | exact fun _ _ _ h => by cases h.1
    · rfl
    · ((intro wq hSq; (try dsimp only at hSq); go_simp); (try with_reducible rfl))
    try simp only [Act.put, List.setIfInBounds_toArray, List.set_cons_zero, List.set_cons_succ]
    refine wpAnyH_ready (rs := [0]) (by kernel_rfl) (by simp) ?_
    refine AllReadyH.cons (o := ?_) ?_ (fun K hK => ?_) AllReadyH.nil
    rotate_left
    · (simp only [List.getElem?_toArray, List.getElem?_cons_zero]; rfl)
    go_simp
    go_at_call 35
    refine (rwords_any _).mono ?_
    rintro e wx ⟨bw, rfl, hcw, hlw, hbw⟩
    have hSx := RgSt.below (w1 := w1) (n := n) (e := ⟨10, a, b, c, m⟩) hHeld hbw
    have hcw0 := hcw 10 ⟨#[101, 113, 117, 97, 108]⟩ rfl
    refine hK.out _ _ hSx (fun hHeld => ?_)
    clear hK K
    try simp only [Act.put, List.setIfInBounds_toArray, List.set_cons_zero, List.set_cons_succ]
    have hSy : (RgSt w1 n ⟨10, a, b, c, m⟩ _) ∧ _ := ⟨hHeld, hcw0⟩
    refine wpAnyH_strong (S' := fun w' => (Below w1.heap.size w1 w' ∧ InBox w' n ⟨10, a, b, c, m⟩ ∧ w'.cell? ⟨n, 0, none⟩ = some (.int .i64 10)) ∧ w'.cell? ⟨bw, 10, none⟩ = some (.string ⟨#[101, 113, 117, 97, 108]⟩)) (fun w h => h.1) _ _ _ _ ?_
    refine wpAnyH_take (i := 3) (oi := ?_) (v := ?_) ?_ (by kernel_rfl) (by kernel_rfl) (by kernel_rfl) ?_ (Or.inl ⟨?_, ?_⟩) (by assumption) ?_
    rotate_left 2
    · (simp only [List.getElem?_toArray, List.getElem?_cons_succ, List.getElem?_cons_zero]; rfl)
    · first | exact fun _ _ _ h => h | exact fun _ _ _ h => by cases h.1
    · rfl
    · ((intro wq hSq; (try dsimp only at hSq); go_simp); (try with_reducible rfl))
    try simp only [Act.put, List.setIfInBounds_toArray, List.set_cons_zero, List.set_cons_succ]
    refine wpAnyH_take (i := 4) (oi := ?_) (v := ?_) ?_ (by kernel_rfl) (by kernel_rfl) (by kernel_rfl) ?_ (Or.inl ⟨?_, ?_⟩) (by assumption) ?_
    rotate_left 2
    · (simp only [List.getElem?_toArray, List.getElem?_cons_succ, List.getElem?_cons_zero]; rfl)
    · first | exact fun _ _ _ h => h | exact fun _ _ _ h => by cases h.1
    · rfl
    · ((intro wq hSq; (try dsimp only at hSq); go_simp); (try with_reducible rfl))
    try simp only [Act.put, List.setIfInBounds_toArray, List.set_cons_zero, List.set_cons_succ]
    refine wpAnyH_take (i := 5) (oi := ?_) (v := ?_) ?_ (by kernel_rfl) (by kernel_rfl) (by kernel_rfl) ?_ (Or.inl ⟨?_, ?_⟩) (by assumption) ?_
    rotate_left 2
    · (simp only [List.getElem?_toArray, List.getElem?_cons_succ, List.getElem?_cons_zero]; rfl)
    · first | exact fun _ _ _ h => h | exact fun _ _ _ h => by cases h.1
    · rfl
    · ((intro wq hSq; (try dsimp only at hSq); go_simp); (try with_reducible rfl))
    try simp only [Act.put, List.setIfInBounds_toArray, List.set_cons_zero, List.set_cons_succ]
    refine wpAnyH_done (by kernel_rfl) ?_ _
    exact ⟨rfl, bw, rfl, hHeld.1, hHeld.2.1⟩
  rintro bw w2 ⟨hb2, hbx2⟩
  dsimp only
  clear c0 c1 c2 c3 c4
  obtain ⟨c0, c1, c2, c3, c4⟩ := hbx2.cells
  have hBf : Below n w w2 := by rw [← hn]; exact hB1.trans (hb2.mono hB1.size)
  have hBf' := Lib.hid hBf
  clear hB1 hb2 hbx hbx2 hBf
  go_wp2_with fail
  have hSd : RlSt w2 n a b c m w2.drew := RlSt.drew ⟨Below.refl _ _, c1, c2, c3, c4⟩
  go_region_held3 (fun w' => Below w2.heap.size w2 w' ∧ w'.cell? ⟨n, 1, none⟩ = some (.int .i64 a) ∧ w'.cell? ⟨n, 2, none⟩ = some (.int .i64 b) ∧ w'.cell? ⟨n, 3, none⟩ = some (.int .i64 c) ∧ w'.cell? ⟨n, 4, none⟩ = some (.int .u32 m))
    (first | exact hSd | assumption)
    (first
      | (go_at_call 36; refine (rpart_any _ _ _ (by simp) (by omega)).mono ?_; rintro e wx ⟨rfl, hbx⟩; have hSx := RlSt.below (w2 := w2) (n := n) (a := a) (b := b) (c := c) (m := m) (by assumption) hbx))
  all_goals
    go_wp2_with fail
    go_ret
    exact ⟨rfl, by first | exact hBf'.out.trans (hSx.1.mono (by have := hBf'.out.size; omega)) | (rw [hn]; exact hBf'.out.trans (hSx.1.mono (by have := hBf'.out.size; omega)))⟩

set_option maxRecDepth 100000 in
set_option maxHeartbeats 4000000 in
theorem rline_11 (a b c m : Int) (w : World) (ha : 0 ≤ a ∧ a < 256) (hb : 0 ≤ b ∧ b < 256) (_hc : 0 ≤ c ∧ c < 256) (hm : 0 ≤ m ∧ m < 4294967296) :
    Calls Tryd.prog 11 #[.agg #[.int .i64 11, .int .i64 a, .int .i64 b, .int .i64 c, .int .u32 m]] w fun r w' => r = .returned (.string (rlineS ⟨11, a, b, c, m⟩)) ∧ Below w.heap.size w w' := by
  have hew : IntKind.i64.wrap m = m := by simp [IntKind.wrap, IntKind.signed, IntKind.bits]; omega
  have hs1 := partR_size (l := [114]) (z := a) (by simp) (by omega)
  have hs2 := partR_size (l := [114]) (z := b) (by simp) (by omega)
  have hs3 := partR_size (l := []) (z := m) (by simp) (by omega)
  have heq : rlineS ⟨11, a, b, c, m⟩ = ((((⟨#[108, 111, 97, 100]⟩ : ByteArray) ++ partR [114] a) ++ partR [114] b) ++ partR [] m) := by
    refine ByteArray.ext ?_
    simp [rlineS, shOf, shs, opsL, partR, partL]
  rw [heq]
  clear heq
  have q1 : ¬ 9223372036854775807 < 4 + (partR [114] a).size := by omega
  have q2 : ¬ 9223372036854775807 < 4 + (partR [114] a).size + (partR [114] b).size := by omega
  have q3 : ¬ 9223372036854775807 < 4 + (partR [114] a).size + (partR [114] b).size + (partR [] m).size := by omega
  have hbx := InBox.new w ⟨11, a, b, c, m⟩
  simp only at hbx
  have hB1 := (Below.refl _ w).alloc (Nat.le_refl _) (.cells #[.int .i64 11, .int .i64 a, .int .i64 b, .int .i64 c, .int .u32 m] 24)
  have hbx' := Lib.hid hbx
  have hB1' := Lib.hid hB1
  clear hbx hB1
  go_enter Tryd.func11, Tryd.ntmps11
  go_wp2_with fail
  have hbx := hbx'.out
  have hB1 := hB1'.out
  obtain ⟨w1, hw1⟩ : ∃ x, w.alloc (.cells #[.int .i64 11, .int .i64 a, .int .i64 b, .int .i64 c, .int .u32 m] 24) = x := ⟨_, rfl⟩
  obtain ⟨n, hn⟩ : ∃ n, w.heap.size = n := ⟨_, rfl⟩
  rw [hw1] at hbx hB1 ⊢
  rw [hn] at hbx
  simp only [hn]
  clear hw1 hbx' hB1'
  obtain ⟨c0, c1, c2, c3, c4⟩ := hbx.cells
  refine region_to (fun bw => { tmps := #[.agg #[.int .i64 11, .int .i64 a, .int .i64 b, .int .i64 c, .int .u32 m], .pointer (some ⟨n, 0, none⟩), .string ⟨#[]⟩, .string ⟨#[108, 111, 97, 100]⟩, undef, .slice (some ⟨bw, 0, none⟩) 22 22, .pointer (some ⟨n, 0, none⟩), .int .i64 11, .pointer (some ⟨bw, 11, none⟩), .string ⟨#[108, 111, 97, 100]⟩, undef, undef, undef, undef, undef, undef, undef, undef, undef, undef, undef, undef, undef, undef, undef, undef, undef, undef, undef, undef, undef, undef, undef, undef, undef, undef, undef, undef, undef, undef, undef, undef, undef, undef, undef, undef, undef, undef, undef, undef, undef, undef, undef, undef, undef, undef, undef, undef, undef, undef, undef, undef, undef, undef, undef, undef, undef, undef, undef, undef, undef, undef, undef, undef, undef, undef, undef, undef, undef, undef, undef, undef, undef, undef, undef, undef, undef, undef, undef, undef, undef, undef, undef, undef, undef, undef, undef, undef, undef, undef, undef, undef, undef, undef, undef, undef, undef, undef, undef, undef, undef, undef, undef, undef, undef, undef, undef, undef, undef, undef, undef, undef, undef, undef, undef, undef], defers := [] }) (fun bw w' => Below w1.heap.size w1 w' ∧ InBox w' n ⟨11, a, b, c, m⟩) ?reg ?cont
  case reg =>
    refine wp_region_held_drew (S := fun w' => Below w1.heap.size w1 w' ∧ InBox w' n ⟨11, a, b, c, m⟩ ∧ w'.cell? ⟨n, 0, none⟩ = some (.int .i64 11)) (by kernel_rfl) (⟨(Below.refl _ w1).drew, hbx, c0⟩ : RgSt w1 n ⟨11, a, b, c, m⟩ w1.drew) (fun hHeld => ?_)
    generalize w1.drew = wd at hHeld ⊢
    refine wpAnyH_take (i := 1) (oi := ?_) (v := ?_) ?_ (by kernel_rfl) (by kernel_rfl) (by kernel_rfl) ?_ (Or.inl ⟨?_, ?_⟩) (by assumption) ?_
    rotate_left 2
    · (simp only [List.getElem?_toArray, List.getElem?_cons_succ, List.getElem?_cons_zero]; rfl)
    · first | exact fun _ _ _ h => h | exact fun _ _ _ h => by cases h.1
    · rfl
    · ((intro wq hSq; (try dsimp only at hSq); go_simp); (try with_reducible rfl))
    try simp only [Act.put, List.setIfInBounds_toArray, List.set_cons_zero, List.set_cons_succ]
    refine wpAnyH_take (i := 2) (oi := ?_) (v := ?_) ?_ (by kernel_rfl) (by kernel_rfl) (by kernel_rfl) ?_ (Or.inl ⟨?_, ?_⟩) (by assumption) ?_
    rotate_left 2
    · (simp only [List.getElem?_toArray, List.getElem?_cons_succ, List.getElem?_cons_zero]; rfl)
    · first | exact fun _ _ _ h => h | exact fun _ _ _ h => by cases h.1
    · rfl
    · ((intro wq hSq; (try dsimp only at hSq); go_simp); (try with_reducible rfl))
    try simp only [Act.put, List.setIfInBounds_toArray, List.set_cons_zero, List.set_cons_succ]
    refine wpAnyH_ready (rs := [0]) (by kernel_rfl) (by simp) ?_
    refine AllReadyH.cons (o := ?_) ?_ (fun K hK => ?_) AllReadyH.nil
    rotate_left
    · (simp only [List.getElem?_toArray, List.getElem?_cons_zero]; rfl)
    go_simp
    go_at_call 35
    refine (rwords_any _).mono ?_
    rintro e wx ⟨bw, rfl, hcw, hlw, hbw⟩
    have hSx := RgSt.below (w1 := w1) (n := n) (e := ⟨11, a, b, c, m⟩) hHeld hbw
    have hcw0 := hcw 11 ⟨#[108, 111, 97, 100]⟩ rfl
    refine hK.out _ _ hSx (fun hHeld => ?_)
    clear hK K
    try simp only [Act.put, List.setIfInBounds_toArray, List.set_cons_zero, List.set_cons_succ]
    have hSy : (RgSt w1 n ⟨11, a, b, c, m⟩ _) ∧ _ := ⟨hHeld, hcw0⟩
    refine wpAnyH_strong (S' := fun w' => (Below w1.heap.size w1 w' ∧ InBox w' n ⟨11, a, b, c, m⟩ ∧ w'.cell? ⟨n, 0, none⟩ = some (.int .i64 11)) ∧ w'.cell? ⟨bw, 11, none⟩ = some (.string ⟨#[108, 111, 97, 100]⟩)) (fun w h => h.1) _ _ _ _ ?_
    refine wpAnyH_take (i := 3) (oi := ?_) (v := ?_) ?_ (by kernel_rfl) (by kernel_rfl) (by kernel_rfl) ?_ (Or.inl ⟨?_, ?_⟩) (by assumption) ?_
    rotate_left 2
    · (simp only [List.getElem?_toArray, List.getElem?_cons_succ, List.getElem?_cons_zero]; rfl)
    · first | exact fun _ _ _ h => h | exact fun _ _ _ h => by cases h.1
    · rfl
    · ((intro wq hSq; (try dsimp only at hSq); go_simp); (try with_reducible rfl))
    try simp only [Act.put, List.setIfInBounds_toArray, List.set_cons_zero, List.set_cons_succ]
    refine wpAnyH_take (i := 4) (oi := ?_) (v := ?_) ?_ (by kernel_rfl) (by kernel_rfl) (by kernel_rfl) ?_ (Or.inl ⟨?_, ?_⟩) (by assumption) ?_
    rotate_left 2
    · (simp only [List.getElem?_toArray, List.getElem?_cons_succ, List.getElem?_cons_zero]; rfl)
    · first | exact fun _ _ _ h => h | exact fun _ _ _ h => by cases h.1
    · rfl
    · ((intro wq hSq; (try dsimp only at hSq); go_simp); (try with_reducible rfl))
    try simp only [Act.put, List.setIfInBounds_toArray, List.set_cons_zero, List.set_cons_succ]
    refine wpAnyH_take (i := 5) (oi := ?_) (v := ?_) ?_ (by kernel_rfl) (by kernel_rfl) (by kernel_rfl) ?_ (Or.inl ⟨?_, ?_⟩) (by assumption) ?_
    rotate_left 2
    · (simp only [List.getElem?_toArray, List.getElem?_cons_succ, List.getElem?_cons_zero]; rfl)
    · first | exact fun _ _ _ h => h | exact fun _ _ _ h => by cases h.1
    · rfl
    · ((intro wq hSq; (try dsimp only at hSq); go_simp); (try with_reducible rfl))
    try simp only [Act.put, List.setIfInBounds_toArray, List.set_cons_zero, List.set_cons_succ]
    refine wpAnyH_done (by kernel_rfl) ?_ _
    exact ⟨rfl, bw, rfl, hHeld.1, hHeld.2.1⟩
  rintro bw w2 ⟨hb2, hbx2⟩
  dsimp only
  clear c0 c1 c2 c3 c4
  obtain ⟨c0, c1, c2, c3, c4⟩ := hbx2.cells
  have hBf : Below n w w2 := by rw [← hn]; exact hB1.trans (hb2.mono hB1.size)
  have hBf' := Lib.hid hBf
  clear hB1 hb2 hbx hbx2 hBf
  go_wp2_with fail
  have hSd : RlSt w2 n a b c m w2.drew := RlSt.drew ⟨Below.refl _ _, c1, c2, c3, c4⟩
  go_region_held3 (fun w' => Below w2.heap.size w2 w' ∧ w'.cell? ⟨n, 1, none⟩ = some (.int .i64 a) ∧ w'.cell? ⟨n, 2, none⟩ = some (.int .i64 b) ∧ w'.cell? ⟨n, 3, none⟩ = some (.int .i64 c) ∧ w'.cell? ⟨n, 4, none⟩ = some (.int .u32 m))
    (first | exact hSd | assumption)
    (first
      | (go_at_call 36; refine (rpart_any _ _ _ (by simp) (by omega)).mono ?_; rintro e wx ⟨rfl, hbx⟩; have hSx := RlSt.below (w2 := w2) (n := n) (a := a) (b := b) (c := c) (m := m) (by assumption) hbx))
  all_goals
    go_wp2_with fail
    go_ret
    exact ⟨rfl, by first | exact hBf'.out.trans (hSx.1.mono (by have := hBf'.out.size; omega)) | (rw [hn]; exact hBf'.out.trans (hSx.1.mono (by have := hBf'.out.size; omega)))⟩

set_option maxRecDepth 100000 in
set_option maxHeartbeats 4000000 in
theorem rline_12 (a b c m : Int) (w : World) (ha : 0 ≤ a ∧ a < 256) (hb : 0 ≤ b ∧ b < 256) (_hc : 0 ≤ c ∧ c < 256) (hm : 0 ≤ m ∧ m < 4294967296) :
    Calls Tryd.prog 11 #[.agg #[.int .i64 12, .int .i64 a, .int .i64 b, .int .i64 c, .int .u32 m]] w fun r w' => r = .returned (.string (rlineS ⟨12, a, b, c, m⟩)) ∧ Below w.heap.size w w' := by
  have hew : IntKind.i64.wrap m = m := by simp [IntKind.wrap, IntKind.signed, IntKind.bits]; omega
  have hs1 := partR_size (l := [114]) (z := a) (by simp) (by omega)
  have hs2 := partR_size (l := [114]) (z := b) (by simp) (by omega)
  have hs3 := partR_size (l := []) (z := m) (by simp) (by omega)
  have heq : rlineS ⟨12, a, b, c, m⟩ = ((((⟨#[115, 116, 111, 114, 101]⟩ : ByteArray) ++ partR [114] a) ++ partR [114] b) ++ partR [] m) := by
    refine ByteArray.ext ?_
    simp [rlineS, shOf, shs, opsL, partR, partL]
  rw [heq]
  clear heq
  have q1 : ¬ 9223372036854775807 < 5 + (partR [114] a).size := by omega
  have q2 : ¬ 9223372036854775807 < 5 + (partR [114] a).size + (partR [114] b).size := by omega
  have q3 : ¬ 9223372036854775807 < 5 + (partR [114] a).size + (partR [114] b).size + (partR [] m).size := by omega
  have hbx := InBox.new w ⟨12, a, b, c, m⟩
  simp only at hbx
  have hB1 := (Below.refl _ w).alloc (Nat.le_refl _) (.cells #[.int .i64 12, .int .i64 a, .int .i64 b, .int .i64 c, .int .u32 m] 24)
  have hbx' := Lib.hid hbx
  have hB1' := Lib.hid hB1
  clear hbx hB1
  go_enter Tryd.func11, Tryd.ntmps11
  go_wp2_with fail
  have hbx := hbx'.out
  have hB1 := hB1'.out
  obtain ⟨w1, hw1⟩ : ∃ x, w.alloc (.cells #[.int .i64 12, .int .i64 a, .int .i64 b, .int .i64 c, .int .u32 m] 24) = x := ⟨_, rfl⟩
  obtain ⟨n, hn⟩ : ∃ n, w.heap.size = n := ⟨_, rfl⟩
  rw [hw1] at hbx hB1 ⊢
  rw [hn] at hbx
  simp only [hn]
  clear hw1 hbx' hB1'
  obtain ⟨c0, c1, c2, c3, c4⟩ := hbx.cells
  refine region_to (fun bw => { tmps := #[.agg #[.int .i64 12, .int .i64 a, .int .i64 b, .int .i64 c, .int .u32 m], .pointer (some ⟨n, 0, none⟩), .string ⟨#[]⟩, .string ⟨#[115, 116, 111, 114, 101]⟩, undef, .slice (some ⟨bw, 0, none⟩) 22 22, .pointer (some ⟨n, 0, none⟩), .int .i64 12, .pointer (some ⟨bw, 12, none⟩), .string ⟨#[115, 116, 111, 114, 101]⟩, undef, undef, undef, undef, undef, undef, undef, undef, undef, undef, undef, undef, undef, undef, undef, undef, undef, undef, undef, undef, undef, undef, undef, undef, undef, undef, undef, undef, undef, undef, undef, undef, undef, undef, undef, undef, undef, undef, undef, undef, undef, undef, undef, undef, undef, undef, undef, undef, undef, undef, undef, undef, undef, undef, undef, undef, undef, undef, undef, undef, undef, undef, undef, undef, undef, undef, undef, undef, undef, undef, undef, undef, undef, undef, undef, undef, undef, undef, undef, undef, undef, undef, undef, undef, undef, undef, undef, undef, undef, undef, undef, undef, undef, undef, undef, undef, undef, undef, undef, undef, undef, undef, undef, undef, undef, undef, undef, undef, undef, undef, undef, undef, undef, undef, undef, undef], defers := [] }) (fun bw w' => Below w1.heap.size w1 w' ∧ InBox w' n ⟨12, a, b, c, m⟩) ?reg ?cont
  case reg =>
    refine wp_region_held_drew (S := fun w' => Below w1.heap.size w1 w' ∧ InBox w' n ⟨12, a, b, c, m⟩ ∧ w'.cell? ⟨n, 0, none⟩ = some (.int .i64 12)) (by kernel_rfl) (⟨(Below.refl _ w1).drew, hbx, c0⟩ : RgSt w1 n ⟨12, a, b, c, m⟩ w1.drew) (fun hHeld => ?_)
    generalize w1.drew = wd at hHeld ⊢
    refine wpAnyH_take (i := 1) (oi := ?_) (v := ?_) ?_ (by kernel_rfl) (by kernel_rfl) (by kernel_rfl) ?_ (Or.inl ⟨?_, ?_⟩) (by assumption) ?_
    rotate_left 2
    · (simp only [List.getElem?_toArray, List.getElem?_cons_succ, List.getElem?_cons_zero]; rfl)
    · first | exact fun _ _ _ h => h | exact fun _ _ _ h => by cases h.1
    · rfl
    · ((intro wq hSq; (try dsimp only at hSq); go_simp); (try with_reducible rfl))
    try simp only [Act.put, List.setIfInBounds_toArray, List.set_cons_zero, List.set_cons_succ]
    refine wpAnyH_take (i := 2) (oi := ?_) (v := ?_) ?_ (by kernel_rfl) (by kernel_rfl) (by kernel_rfl) ?_ (Or.inl ⟨?_, ?_⟩) (by assumption) ?_
    rotate_left 2
    · (simp only [List.getElem?_toArray, List.getElem?_cons_succ, List.getElem?_cons_zero]; rfl)
    · first | exact fun _ _ _ h => h | exact fun _ _ _ h => by cases h.1
    · rfl
    · ((intro wq hSq; (try dsimp only at hSq); go_simp); (try with_reducible rfl))
    try simp only [Act.put, List.setIfInBounds_toArray, List.set_cons_zero, List.set_cons_succ]
    refine wpAnyH_ready (rs := [0]) (by kernel_rfl) (by simp) ?_
    refine AllReadyH.cons (o := ?_) ?_ (fun K hK => ?_) AllReadyH.nil
    rotate_left
    · (simp only [List.getElem?_toArray, List.getElem?_cons_zero]; rfl)
    go_simp
    go_at_call 35
    refine (rwords_any _).mono ?_
    rintro e wx ⟨bw, rfl, hcw, hlw, hbw⟩
    have hSx := RgSt.below (w1 := w1) (n := n) (e := ⟨12, a, b, c, m⟩) hHeld hbw
    have hcw0 := hcw 12 ⟨#[115, 116, 111, 114, 101]⟩ rfl
    refine hK.out _ _ hSx (fun hHeld => ?_)
    clear hK K
    try simp only [Act.put, List.setIfInBounds_toArray, List.set_cons_zero, List.set_cons_succ]
    have hSy : (RgSt w1 n ⟨12, a, b, c, m⟩ _) ∧ _ := ⟨hHeld, hcw0⟩
    refine wpAnyH_strong (S' := fun w' => (Below w1.heap.size w1 w' ∧ InBox w' n ⟨12, a, b, c, m⟩ ∧ w'.cell? ⟨n, 0, none⟩ = some (.int .i64 12)) ∧ w'.cell? ⟨bw, 12, none⟩ = some (.string ⟨#[115, 116, 111, 114, 101]⟩)) (fun w h => h.1) _ _ _ _ ?_
    refine wpAnyH_take (i := 3) (oi := ?_) (v := ?_) ?_ (by kernel_rfl) (by kernel_rfl) (by kernel_rfl) ?_ (Or.inl ⟨?_, ?_⟩) (by assumption) ?_
    rotate_left 2
    · (simp only [List.getElem?_toArray, List.getElem?_cons_succ, List.getElem?_cons_zero]; rfl)
    · first | exact fun _ _ _ h => h | exact fun _ _ _ h => by cases h.1
    · rfl
    · ((intro wq hSq; (try dsimp only at hSq); go_simp); (try with_reducible rfl))
    try simp only [Act.put, List.setIfInBounds_toArray, List.set_cons_zero, List.set_cons_succ]
    refine wpAnyH_take (i := 4) (oi := ?_) (v := ?_) ?_ (by kernel_rfl) (by kernel_rfl) (by kernel_rfl) ?_ (Or.inl ⟨?_, ?_⟩) (by assumption) ?_
    rotate_left 2
    · (simp only [List.getElem?_toArray, List.getElem?_cons_succ, List.getElem?_cons_zero]; rfl)
    · first | exact fun _ _ _ h => h | exact fun _ _ _ h => by cases h.1
    · rfl
    · ((intro wq hSq; (try dsimp only at hSq); go_simp); (try with_reducible rfl))
    try simp only [Act.put, List.setIfInBounds_toArray, List.set_cons_zero, List.set_cons_succ]
    refine wpAnyH_take (i := 5) (oi := ?_) (v := ?_) ?_ (by kernel_rfl) (by kernel_rfl) (by kernel_rfl) ?_ (Or.inl ⟨?_, ?_⟩) (by assumption) ?_
    rotate_left 2
    · (simp only [List.getElem?_toArray, List.getElem?_cons_succ, List.getElem?_cons_zero]; rfl)
    · first | exact fun _ _ _ h => h | exact fun _ _ _ h => by cases h.1
    · rfl
    · ((intro wq hSq; (try dsimp only at hSq); go_simp); (try with_reducible rfl))
    try simp only [Act.put, List.setIfInBounds_toArray, List.set_cons_zero, List.set_cons_succ]
    refine wpAnyH_done (by kernel_rfl) ?_ _
    exact ⟨rfl, bw, rfl, hHeld.1, hHeld.2.1⟩
  rintro bw w2 ⟨hb2, hbx2⟩
  dsimp only
  clear c0 c1 c2 c3 c4
  obtain ⟨c0, c1, c2, c3, c4⟩ := hbx2.cells
  have hBf : Below n w w2 := by rw [← hn]; exact hB1.trans (hb2.mono hB1.size)
  have hBf' := Lib.hid hBf
  clear hB1 hb2 hbx hbx2 hBf
  go_wp2_with fail
  have hSd : RlSt w2 n a b c m w2.drew := RlSt.drew ⟨Below.refl _ _, c1, c2, c3, c4⟩
  go_region_held3 (fun w' => Below w2.heap.size w2 w' ∧ w'.cell? ⟨n, 1, none⟩ = some (.int .i64 a) ∧ w'.cell? ⟨n, 2, none⟩ = some (.int .i64 b) ∧ w'.cell? ⟨n, 3, none⟩ = some (.int .i64 c) ∧ w'.cell? ⟨n, 4, none⟩ = some (.int .u32 m))
    (first | exact hSd | assumption)
    (first
      | (go_at_call 36; refine (rpart_any _ _ _ (by simp) (by omega)).mono ?_; rintro e wx ⟨rfl, hbx⟩; have hSx := RlSt.below (w2 := w2) (n := n) (a := a) (b := b) (c := c) (m := m) (by assumption) hbx))
  all_goals
    go_wp2_with fail
    go_ret
    exact ⟨rfl, by first | exact hBf'.out.trans (hSx.1.mono (by have := hBf'.out.size; omega)) | (rw [hn]; exact hBf'.out.trans (hSx.1.mono (by have := hBf'.out.size; omega)))⟩

set_option maxRecDepth 100000 in
set_option maxHeartbeats 4000000 in
theorem rline_13 (a b c m : Int) (w : World) (ha : 0 ≤ a ∧ a < 256) (hb : 0 ≤ b ∧ b < 256) (hc : 0 ≤ c ∧ c < 256) (hm : 0 ≤ m ∧ m < 4294967296) :
    Calls Tryd.prog 11 #[.agg #[.int .i64 13, .int .i64 a, .int .i64 b, .int .i64 c, .int .u32 m]] w fun r w' => r = .returned (.string (rlineS ⟨13, a, b, c, m⟩)) ∧ Below w.heap.size w w' := by
  have hew : IntKind.i64.wrap m = m := by simp [IntKind.wrap, IntKind.signed, IntKind.bits]; omega
  have hs1 := partR_size (l := [114]) (z := a) (by simp) (by omega)
  have hs2 := partR_size (l := [114]) (z := b) (by simp) (by omega)
  have hs3 := partR_size (l := [114]) (z := c) (by simp) (by omega)
  have hs4 := partR_size (l := []) (z := m) (by simp) (by omega)
  have heq : rlineS ⟨13, a, b, c, m⟩ = (((((⟨#[99, 97, 115]⟩ : ByteArray) ++ partR [114] a) ++ partR [114] b) ++ partR [114] c) ++ partR [] m) := by
    refine ByteArray.ext ?_
    simp [rlineS, shOf, shs, opsL, partR, partL]
  rw [heq]
  clear heq
  have q1 : ¬ 9223372036854775807 < 3 + (partR [114] a).size := by omega
  have q2 : ¬ 9223372036854775807 < 3 + (partR [114] a).size + (partR [114] b).size := by omega
  have q3 : ¬ 9223372036854775807 < 3 + (partR [114] a).size + (partR [114] b).size + (partR [114] c).size := by omega
  have q4 : ¬ 9223372036854775807 < 3 + (partR [114] a).size + (partR [114] b).size + (partR [114] c).size + (partR [] m).size := by omega
  have hbx := InBox.new w ⟨13, a, b, c, m⟩
  simp only at hbx
  have hB1 := (Below.refl _ w).alloc (Nat.le_refl _) (.cells #[.int .i64 13, .int .i64 a, .int .i64 b, .int .i64 c, .int .u32 m] 24)
  have hbx' := Lib.hid hbx
  have hB1' := Lib.hid hB1
  clear hbx hB1
  go_enter Tryd.func11, Tryd.ntmps11
  go_wp2_with fail
  have hbx := hbx'.out
  have hB1 := hB1'.out
  obtain ⟨w1, hw1⟩ : ∃ x, w.alloc (.cells #[.int .i64 13, .int .i64 a, .int .i64 b, .int .i64 c, .int .u32 m] 24) = x := ⟨_, rfl⟩
  obtain ⟨n, hn⟩ : ∃ n, w.heap.size = n := ⟨_, rfl⟩
  rw [hw1] at hbx hB1 ⊢
  rw [hn] at hbx
  simp only [hn]
  clear hw1 hbx' hB1'
  obtain ⟨c0, c1, c2, c3, c4⟩ := hbx.cells
  refine region_to (fun bw => { tmps := #[.agg #[.int .i64 13, .int .i64 a, .int .i64 b, .int .i64 c, .int .u32 m], .pointer (some ⟨n, 0, none⟩), .string ⟨#[]⟩, .string ⟨#[99, 97, 115]⟩, undef, .slice (some ⟨bw, 0, none⟩) 22 22, .pointer (some ⟨n, 0, none⟩), .int .i64 13, .pointer (some ⟨bw, 13, none⟩), .string ⟨#[99, 97, 115]⟩, undef, undef, undef, undef, undef, undef, undef, undef, undef, undef, undef, undef, undef, undef, undef, undef, undef, undef, undef, undef, undef, undef, undef, undef, undef, undef, undef, undef, undef, undef, undef, undef, undef, undef, undef, undef, undef, undef, undef, undef, undef, undef, undef, undef, undef, undef, undef, undef, undef, undef, undef, undef, undef, undef, undef, undef, undef, undef, undef, undef, undef, undef, undef, undef, undef, undef, undef, undef, undef, undef, undef, undef, undef, undef, undef, undef, undef, undef, undef, undef, undef, undef, undef, undef, undef, undef, undef, undef, undef, undef, undef, undef, undef, undef, undef, undef, undef, undef, undef, undef, undef, undef, undef, undef, undef, undef, undef, undef, undef, undef, undef, undef, undef, undef, undef, undef], defers := [] }) (fun bw w' => Below w1.heap.size w1 w' ∧ InBox w' n ⟨13, a, b, c, m⟩) ?reg ?cont
  case reg =>
    refine wp_region_held_drew (S := fun w' => Below w1.heap.size w1 w' ∧ InBox w' n ⟨13, a, b, c, m⟩ ∧ w'.cell? ⟨n, 0, none⟩ = some (.int .i64 13)) (by kernel_rfl) (⟨(Below.refl _ w1).drew, hbx, c0⟩ : RgSt w1 n ⟨13, a, b, c, m⟩ w1.drew) (fun hHeld => ?_)
    generalize w1.drew = wd at hHeld ⊢
    refine wpAnyH_take (i := 1) (oi := ?_) (v := ?_) ?_ (by kernel_rfl) (by kernel_rfl) (by kernel_rfl) ?_ (Or.inl ⟨?_, ?_⟩) (by assumption) ?_
    rotate_left 2
    · (simp only [List.getElem?_toArray, List.getElem?_cons_succ, List.getElem?_cons_zero]; rfl)
    · first | exact fun _ _ _ h => h | exact fun _ _ _ h => by cases h.1
    · rfl
    · ((intro wq hSq; (try dsimp only at hSq); go_simp); (try with_reducible rfl))
    try simp only [Act.put, List.setIfInBounds_toArray, List.set_cons_zero, List.set_cons_succ]
    refine wpAnyH_take (i := 2) (oi := ?_) (v := ?_) ?_ (by kernel_rfl) (by kernel_rfl) (by kernel_rfl) ?_ (Or.inl ⟨?_, ?_⟩) (by assumption) ?_
    rotate_left 2
    · (simp only [List.getElem?_toArray, List.getElem?_cons_succ, List.getElem?_cons_zero]; rfl)
    · first | exact fun _ _ _ h => h | exact fun _ _ _ h => by cases h.1
    · rfl
    · ((intro wq hSq; (try dsimp only at hSq); go_simp); (try with_reducible rfl))
    try simp only [Act.put, List.setIfInBounds_toArray, List.set_cons_zero, List.set_cons_succ]
    refine wpAnyH_ready (rs := [0]) (by kernel_rfl) (by simp) ?_
    refine AllReadyH.cons (o := ?_) ?_ (fun K hK => ?_) AllReadyH.nil
    rotate_left
    · (simp only [List.getElem?_toArray, List.getElem?_cons_zero]; rfl)
    go_simp
    go_at_call 35
    refine (rwords_any _).mono ?_
    rintro e wx ⟨bw, rfl, hcw, hlw, hbw⟩
    have hSx := RgSt.below (w1 := w1) (n := n) (e := ⟨13, a, b, c, m⟩) hHeld hbw
    have hcw0 := hcw 13 ⟨#[99, 97, 115]⟩ rfl
    refine hK.out _ _ hSx (fun hHeld => ?_)
    clear hK K
    try simp only [Act.put, List.setIfInBounds_toArray, List.set_cons_zero, List.set_cons_succ]
    have hSy : (RgSt w1 n ⟨13, a, b, c, m⟩ _) ∧ _ := ⟨hHeld, hcw0⟩
    refine wpAnyH_strong (S' := fun w' => (Below w1.heap.size w1 w' ∧ InBox w' n ⟨13, a, b, c, m⟩ ∧ w'.cell? ⟨n, 0, none⟩ = some (.int .i64 13)) ∧ w'.cell? ⟨bw, 13, none⟩ = some (.string ⟨#[99, 97, 115]⟩)) (fun w h => h.1) _ _ _ _ ?_
    refine wpAnyH_take (i := 3) (oi := ?_) (v := ?_) ?_ (by kernel_rfl) (by kernel_rfl) (by kernel_rfl) ?_ (Or.inl ⟨?_, ?_⟩) (by assumption) ?_
    rotate_left 2
    · (simp only [List.getElem?_toArray, List.getElem?_cons_succ, List.getElem?_cons_zero]; rfl)
    · first | exact fun _ _ _ h => h | exact fun _ _ _ h => by cases h.1
    · rfl
    · ((intro wq hSq; (try dsimp only at hSq); go_simp); (try with_reducible rfl))
    try simp only [Act.put, List.setIfInBounds_toArray, List.set_cons_zero, List.set_cons_succ]
    refine wpAnyH_take (i := 4) (oi := ?_) (v := ?_) ?_ (by kernel_rfl) (by kernel_rfl) (by kernel_rfl) ?_ (Or.inl ⟨?_, ?_⟩) (by assumption) ?_
    rotate_left 2
    · (simp only [List.getElem?_toArray, List.getElem?_cons_succ, List.getElem?_cons_zero]; rfl)
    · first | exact fun _ _ _ h => h | exact fun _ _ _ h => by cases h.1
    · rfl
    · ((intro wq hSq; (try dsimp only at hSq); go_simp); (try with_reducible rfl))
    try simp only [Act.put, List.setIfInBounds_toArray, List.set_cons_zero, List.set_cons_succ]
    refine wpAnyH_take (i := 5) (oi := ?_) (v := ?_) ?_ (by kernel_rfl) (by kernel_rfl) (by kernel_rfl) ?_ (Or.inl ⟨?_, ?_⟩) (by assumption) ?_
    rotate_left 2
    · (simp only [List.getElem?_toArray, List.getElem?_cons_succ, List.getElem?_cons_zero]; rfl)
    · first | exact fun _ _ _ h => h | exact fun _ _ _ h => by cases h.1
    · rfl
    · ((intro wq hSq; (try dsimp only at hSq); go_simp); (try with_reducible rfl))
    try simp only [Act.put, List.setIfInBounds_toArray, List.set_cons_zero, List.set_cons_succ]
    refine wpAnyH_done (by kernel_rfl) ?_ _
    exact ⟨rfl, bw, rfl, hHeld.1, hHeld.2.1⟩
  rintro bw w2 ⟨hb2, hbx2⟩
  dsimp only
  clear c0 c1 c2 c3 c4
  obtain ⟨c0, c1, c2, c3, c4⟩ := hbx2.cells
  have hBf : Below n w w2 := by rw [← hn]; exact hB1.trans (hb2.mono hB1.size)
  have hBf' := Lib.hid hBf
  clear hB1 hb2 hbx hbx2 hBf
  go_wp2_with fail
  have hSd : RlSt w2 n a b c m w2.drew := RlSt.drew ⟨Below.refl _ _, c1, c2, c3, c4⟩
  go_region_held3 (fun w' => Below w2.heap.size w2 w' ∧ w'.cell? ⟨n, 1, none⟩ = some (.int .i64 a) ∧ w'.cell? ⟨n, 2, none⟩ = some (.int .i64 b) ∧ w'.cell? ⟨n, 3, none⟩ = some (.int .i64 c) ∧ w'.cell? ⟨n, 4, none⟩ = some (.int .u32 m))
    (first | exact hSd | assumption)
    (first
      | (go_at_call 36; refine (rpart_any _ _ _ (by simp) (by omega)).mono ?_; rintro e wx ⟨rfl, hbx⟩; have hSx := RlSt.below (w2 := w2) (n := n) (a := a) (b := b) (c := c) (m := m) (by assumption) hbx))
  all_goals
    go_wp2_with fail
    go_ret
    exact ⟨rfl, by first | exact hBf'.out.trans (hSx.1.mono (by have := hBf'.out.size; omega)) | (rw [hn]; exact hBf'.out.trans (hSx.1.mono (by have := hBf'.out.size; omega)))⟩

end Go.Proofs.YtkcdmonmgnmojaaDoor
