/- The reference's Line, kind for kind. -/
import Derived.Test.YtkcdmonmgnmojaaDoorAsmV
namespace Go.Proofs.YtkcdmonmgnmojaaDoor
open Go.RowKit

set_option maxRecDepth 100000 in
set_option maxHeartbeats 4000000 in
theorem rline_0 (a b c m : Int) (w : World) (_ha : 0 ≤ a ∧ a < 256) (_hb : 0 ≤ b ∧ b < 256) (_hc : 0 ≤ c ∧ c < 256) (hm : 0 ≤ m ∧ m < 4294967296) :
    Calls Tryd.prog 11 #[.agg #[.int .i64 0, .int .i64 a, .int .i64 b, .int .i64 c, .int .u32 m]] w fun r w' => r = .returned (.string (rlineS ⟨0, a, b, c, m⟩)) ∧ Below w.heap.size w w' := by
  have hew : IntKind.i64.wrap m = m := by simp [IntKind.wrap, IntKind.signed, IntKind.bits]; omega
  have heq : rlineS ⟨0, a, b, c, m⟩ = (⟨#[110, 111, 112]⟩ : ByteArray) := by
    refine ByteArray.ext ?_
    simp [rlineS, shOf, shs, opsL]
  rw [heq]
  clear heq
  have hbx := InBox.new w ⟨0, a, b, c, m⟩
  simp only at hbx
  have hB1 := (Below.refl _ w).alloc (Nat.le_refl _) (.cells #[.int .i64 0, .int .i64 a, .int .i64 b, .int .i64 c, .int .u32 m] 24)
  have hbx' := Lib.hid hbx
  have hB1' := Lib.hid hB1
  clear hbx hB1
  go_enter Tryd.func11, Tryd.ntmps11
  go_wp2_with fail
  have hbx := hbx'.out
  have hB1 := hB1'.out
  obtain ⟨w1, hw1⟩ : ∃ x, w.alloc (.cells #[.int .i64 0, .int .i64 a, .int .i64 b, .int .i64 c, .int .u32 m] 24) = x := ⟨_, rfl⟩
  obtain ⟨n, hn⟩ : ∃ n, w.heap.size = n := ⟨_, rfl⟩
  rw [hw1] at hbx hB1 ⊢
  rw [hn] at hbx
  simp only [hn]
  clear hw1 hbx' hB1'
  obtain ⟨c0, c1, c2, c3, c4⟩ := hbx.cells
  refine region_to (fun bw => { tmps := #[.agg #[.int .i64 0, .int .i64 a, .int .i64 b, .int .i64 c, .int .u32 m], .pointer (some ⟨n, 0, none⟩), .string ⟨#[]⟩, .string ⟨#[110, 111, 112]⟩, undef, .slice (some ⟨bw, 0, none⟩) 22 22, .pointer (some ⟨n, 0, none⟩), .int .i64 0, .pointer (some ⟨bw, 0, none⟩), .string ⟨#[110, 111, 112]⟩, undef, undef, undef, undef, undef, undef, undef, undef, undef, undef, undef, undef, undef, undef, undef, undef, undef, undef, undef, undef, undef, undef, undef, undef, undef, undef, undef, undef, undef, undef, undef, undef, undef, undef, undef, undef, undef, undef, undef, undef, undef, undef, undef, undef, undef, undef, undef, undef, undef, undef, undef, undef, undef, undef, undef, undef, undef, undef, undef, undef, undef, undef, undef, undef, undef, undef, undef, undef, undef, undef, undef, undef, undef, undef, undef, undef, undef, undef, undef, undef, undef, undef, undef, undef, undef, undef, undef, undef, undef, undef, undef, undef, undef, undef, undef, undef, undef, undef, undef, undef, undef, undef, undef, undef, undef, undef, undef, undef, undef, undef, undef, undef, undef, undef, undef, undef], defers := [] }) (fun bw w' => Below w1.heap.size w1 w' ∧ InBox w' n ⟨0, a, b, c, m⟩) ?reg ?cont
  case reg =>
    refine wp_region_held_drew (S := fun w' => Below w1.heap.size w1 w' ∧ InBox w' n ⟨0, a, b, c, m⟩ ∧ w'.cell? ⟨n, 0, none⟩ = some (.int .i64 0)) (by kernel_rfl) (⟨(Below.refl _ w1).drew, hbx, c0⟩ : RgSt w1 n ⟨0, a, b, c, m⟩ w1.drew) (fun hHeld => ?_)
    generalize w1.drew = wd at hHeld ⊢
    refine wpAnyH_take (i := 1) (oi := ?_) (v := ?_) ?_ (by kernel_rfl) (by kernel_rfl) (by kernel_rfl) ?_ (Or.inl ⟨?_, ?_⟩) (by assumption) ?_
    rotate_left 2
    · (simp only [List.getElem?_toArray, List.getElem?_cons_succ, List.getElem?_cons_zero]; rfl)
    · first | exact fun _ _ _ h => h | exact fun _ _ _ h => by cases h.1
    · rfl
    · ((intro wq hSq; (try dsimp only at hSq); go_simp); (try with_reducible rfl))
    try simp only [Act.put, List.setIfInBounds_toArray, List.set_cons_zero, List.set_cons_succ]
    refine wpAnyH_take (i := 2) (oi := ?_) (v := ?_) ?_ (by kernel_rfl) (by kernel_rfl) (by kernel_rfl) ?_ (Or.inl ⟨?_, ?_⟩) (by assumption) ?_
    rotate_left 2
    · (simp only [List.getElem?_toArray, List.getElem?_cons_succ, List.getElem?_cons_zero]; rfl)
    · first | exact fun _ _ _ h => h | exact fun _ _ _ h => by cases h.1
    · rfl
    · ((intro wq hSq; (try dsimp only at hSq); go_simp); (try with_reducible rfl))
    try simp only [Act.put, List.setIfInBounds_toArray, List.set_cons_zero, List.set_cons_succ]
    refine wpAnyH_ready (rs := [0]) (by kernel_rfl) (by simp) ?_
    refine AllReadyH.cons (o := ?_) ?_ (fun K hK => ?_) AllReadyH.nil
    rotate_left
    · (simp only [List.getElem?_toArray, List.getElem?_cons_zero]; rfl)
    go_simp
    go_at_call 35
    refine (rwords_any _).mono ?_
    rintro e wx ⟨bw, rfl, hcw, hlw, hbw⟩
    have hSx := RgSt.below (w1 := w1) (n := n) (e := ⟨0, a, b, c, m⟩) hHeld hbw
    have hcw0 := hcw 0 ⟨#[110, 111, 112]⟩ rfl
    refine hK.out _ _ hSx (fun hHeld => ?_)
    clear hK K
    try simp only [Act.put, List.setIfInBounds_toArray, List.set_cons_zero, List.set_cons_succ]
    have hSy : (RgSt w1 n ⟨0, a, b, c, m⟩ _) ∧ _ := ⟨hHeld, hcw0⟩
    refine wpAnyH_strong (S' := fun w' => (Below w1.heap.size w1 w' ∧ InBox w' n ⟨0, a, b, c, m⟩ ∧ w'.cell? ⟨n, 0, none⟩ = some (.int .i64 0)) ∧ w'.cell? ⟨bw, 0, none⟩ = some (.string ⟨#[110, 111, 112]⟩)) (fun w h => h.1) _ _ _ _ ?_
    refine wpAnyH_take (i := 3) (oi := ?_) (v := ?_) ?_ (by kernel_rfl) (by kernel_rfl) (by kernel_rfl) ?_ (Or.inl ⟨?_, ?_⟩) (by assumption) ?_
    rotate_left 2
    · (simp only [List.getElem?_toArray, List.getElem?_cons_succ, List.getElem?_cons_zero]; rfl)
    · first | exact fun _ _ _ h => h | exact fun _ _ _ h => by cases h.1
    · rfl
    · ((intro wq hSq; (try dsimp only at hSq); go_simp); (try with_reducible rfl))
    try simp only [Act.put, List.setIfInBounds_toArray, List.set_cons_zero, List.set_cons_succ]
    refine wpAnyH_take (i := 4) (oi := ?_) (v := ?_) ?_ (by kernel_rfl) (by kernel_rfl) (by kernel_rfl) ?_ (Or.inl ⟨?_, ?_⟩) (by assumption) ?_
    rotate_left 2
    · (simp only [List.getElem?_toArray, List.getElem?_cons_succ, List.getElem?_cons_zero]; rfl)
    · first | exact fun _ _ _ h => h | exact fun _ _ _ h => by cases h.1
    · rfl
    · ((intro wq hSq; (try dsimp only at hSq); go_simp); (try with_reducible rfl))
    try simp only [Act.put, List.setIfInBounds_toArray, List.set_cons_zero, List.set_cons_succ]
    refine wpAnyH_take (i := 5) (oi := ?_) (v := ?_) ?_ (by kernel_rfl) (by kernel_rfl) (by kernel_rfl) ?_ (Or.inl ⟨?_, ?_⟩) (by assumption) ?_
    rotate_left 2
    · (simp only [List.getElem?_toArray, List.getElem?_cons_succ, List.getElem?_cons_zero]; rfl)
    · first | exact fun _ _ _ h => h | exact fun _ _ _ h => by cases h.1
    · rfl
    · ((intro wq hSq; (try dsimp only at hSq); go_simp); (try with_reducible rfl))
    try simp only [Act.put, List.setIfInBounds_toArray, List.set_cons_zero, List.set_cons_succ]
    refine wpAnyH_done (by kernel_rfl) ?_ _
    exact ⟨rfl, bw, rfl, hHeld.1, hHeld.2.1⟩
  rintro bw w2 ⟨hb2, hbx2⟩
  dsimp only
  clear c0 c1 c2 c3 c4
  obtain ⟨c0, c1, c2, c3, c4⟩ := hbx2.cells
  have hBf : Below n w w2 := by rw [← hn]; exact hB1.trans (hb2.mono hB1.size)
  have hBf' := Lib.hid hBf
  clear hB1 hb2 hbx hbx2 hBf
  go_wp2_with fail
  go_ret
  exact ⟨rfl, by first | exact hBf'.out | (rw [hn]; exact hBf'.out)⟩

set_option maxRecDepth 100000 in
set_option maxHeartbeats 4000000 in
theorem rline_21 (a b c m : Int) (w : World) (_ha : 0 ≤ a ∧ a < 256) (_hb : 0 ≤ b ∧ b < 256) (_hc : 0 ≤ c ∧ c < 256) (hm : 0 ≤ m ∧ m < 4294967296) :
    Calls Tryd.prog 11 #[.agg #[.int .i64 21, .int .i64 a, .int .i64 b, .int .i64 c, .int .u32 m]] w fun r w' => r = .returned (.string (rlineS ⟨21, a, b, c, m⟩)) ∧ Below w.heap.size w w' := by
  have hew : IntKind.i64.wrap m = m := by simp [IntKind.wrap, IntKind.signed, IntKind.bits]; omega
  have heq : rlineS ⟨21, a, b, c, m⟩ = (⟨#[100, 111, 110, 101]⟩ : ByteArray) := by
    refine ByteArray.ext ?_
    simp [rlineS, shOf, shs, opsL]
  rw [heq]
  clear heq
  have hbx := InBox.new w ⟨21, a, b, c, m⟩
  simp only at hbx
  have hB1 := (Below.refl _ w).alloc (Nat.le_refl _) (.cells #[.int .i64 21, .int .i64 a, .int .i64 b, .int .i64 c, .int .u32 m] 24)
  have hbx' := Lib.hid hbx
  have hB1' := Lib.hid hB1
  clear hbx hB1
  go_enter Tryd.func11, Tryd.ntmps11
  go_wp2_with fail
  have hbx := hbx'.out
  have hB1 := hB1'.out
  obtain ⟨w1, hw1⟩ : ∃ x, w.alloc (.cells #[.int .i64 21, .int .i64 a, .int .i64 b, .int .i64 c, .int .u32 m] 24) = x := ⟨_, rfl⟩
  obtain ⟨n, hn⟩ : ∃ n, w.heap.size = n := ⟨_, rfl⟩
  rw [hw1] at hbx hB1 ⊢
  rw [hn] at hbx
  simp only [hn]
  clear hw1 hbx' hB1'
  obtain ⟨c0, c1, c2, c3, c4⟩ := hbx.cells
  refine region_to (fun bw => { tmps := #[.agg #[.int .i64 21, .int .i64 a, .int .i64 b, .int .i64 c, .int .u32 m], .pointer (some ⟨n, 0, none⟩), .string ⟨#[]⟩, .string ⟨#[100, 111, 110, 101]⟩, undef, .slice (some ⟨bw, 0, none⟩) 22 22, .pointer (some ⟨n, 0, none⟩), .int .i64 21, .pointer (some ⟨bw, 21, none⟩), .string ⟨#[100, 111, 110, 101]⟩, undef, undef, undef, undef, undef, undef, undef, undef, undef, undef, undef, undef, undef, undef, undef, undef, undef, undef, undef, undef, undef, undef, undef, undef, undef, undef, undef, undef, undef, undef, undef, undef, undef, undef, undef, undef, undef, undef, undef, undef, undef, undef, undef, undef, undef, undef, undef, undef, undef, undef, undef, undef, undef, undef, undef, undef, undef, undef, undef, undef, undef, undef, undef, undef, undef, undef, undef, undef, undef, undef, undef, undef, undef, undef, undef, undef, undef, undef, undef, undef, undef, undef, undef, undef, undef, undef, undef, undef, undef, undef, undef, undef, undef, undef, undef, undef, undef, undef, undef, undef, undef, undef, undef, undef, undef, undef, undef, undef, undef, undef, undef, undef, undef, undef, undef, undef], defers := [] }) (fun bw w' => Below w1.heap.size w1 w' ∧ InBox w' n ⟨21, a, b, c, m⟩) ?reg ?cont
  case reg =>
    refine wp_region_held_drew (S := fun w' => Below w1.heap.size w1 w' ∧ InBox w' n ⟨21, a, b, c, m⟩ ∧ w'.cell? ⟨n, 0, none⟩ = some (.int .i64 21)) (by kernel_rfl) (⟨(Below.refl _ w1).drew, hbx, c0⟩ : RgSt w1 n ⟨21, a, b, c, m⟩ w1.drew) (fun hHeld => ?_)
    generalize w1.drew = wd at hHeld ⊢
    refine wpAnyH_take (i := 1) (oi := ?_) (v := ?_) ?_ (by kernel_rfl) (by kernel_rfl) (by kernel_rfl) ?_ (Or.inl ⟨?_, ?_⟩) (by assumption) ?_
    rotate_left 2
    · (simp only [List.getElem?_toArray, List.getElem?_cons_succ, List.getElem?_cons_zero]; rfl)
    · first | exact fun _ _ _ h => h | exact fun _ _ _ h => by cases h.1
    · rfl
    · ((intro wq hSq; (try dsimp only at hSq); go_simp); (try with_reducible rfl))
    try simp only [Act.put, List.setIfInBounds_toArray, List.set_cons_zero, List.set_cons_succ]
    refine wpAnyH_take (i := 2) (oi := ?_) (v := ?_) ?_ (by kernel_rfl) (by kernel_rfl) (by kernel_rfl) ?_ (Or.inl ⟨?_, ?_⟩) (by assumption) ?_
    rotate_left 2
    · (simp only [List.getElem?_toArray, List.getElem?_cons_succ, List.getElem?_cons_zero]; rfl)
    · first | exact fun _ _ _ h => h | exact fun _ _ _ h => by cases h.1
    · rfl
    · ((intro wq hSq; (try dsimp only at hSq); go_simp); (try with_reducible rfl))
    try simp only [Act.put, List.setIfInBounds_toArray, List.set_cons_zero, List.set_cons_succ]
    refine wpAnyH_ready (rs := [0]) (by kernel_rfl) (by simp) ?_
    refine AllReadyH.cons (o := ?_) ?_ (fun K hK => ?_) AllReadyH.nil
    rotate_left
    · (simp only [List.getElem?_toArray, List.getElem?_cons_zero]; rfl)
    go_simp
    go_at_call 35
    refine (rwords_any _).mono ?_
    rintro e wx ⟨bw, rfl, hcw, hlw, hbw⟩
    have hSx := RgSt.below (w1 := w1) (n := n) (e := ⟨21, a, b, c, m⟩) hHeld hbw
    have hcw0 := hcw 21 ⟨#[100, 111, 110, 101]⟩ rfl
    refine hK.out _ _ hSx (fun hHeld => ?_)
    clear hK K
    try simp only [Act.put, List.setIfInBounds_toArray, List.set_cons_zero, List.set_cons_succ]
    have hSy : (RgSt w1 n ⟨21, a, b, c, m⟩ _) ∧ _ := ⟨hHeld, hcw0⟩
    refine wpAnyH_strong (S' := fun w' => (Below w1.heap.size w1 w' ∧ InBox w' n ⟨21, a, b, c, m⟩ ∧ w'.cell? ⟨n, 0, none⟩ = some (.int .i64 21)) ∧ w'.cell? ⟨bw, 21, none⟩ = some (.string ⟨#[100, 111, 110, 101]⟩)) (fun w h => h.1) _ _ _ _ ?_
    refine wpAnyH_take (i := 3) (oi := ?_) (v := ?_) ?_ (by kernel_rfl) (by kernel_rfl) (by kernel_rfl) ?_ (Or.inl ⟨?_, ?_⟩) (by assumption) ?_
    rotate_left 2
    · (simp only [List.getElem?_toArray, List.getElem?_cons_succ, List.getElem?_cons_zero]; rfl)
    · first | exact fun _ _ _ h => h | exact fun _ _ _ h => by cases h.1
    · rfl
    · ((intro wq hSq; (try dsimp only at hSq); go_simp); (try with_reducible rfl))
    try simp only [Act.put, List.setIfInBounds_toArray, List.set_cons_zero, List.set_cons_succ]
    refine wpAnyH_take (i := 4) (oi := ?_) (v := ?_) ?_ (by kernel_rfl) (by kernel_rfl) (by kernel_rfl) ?_ (Or.inl ⟨?_, ?_⟩) (by assumption) ?_
    rotate_left 2
    · (simp only [List.getElem?_toArray, List.getElem?_cons_succ, List.getElem?_cons_zero]; rfl)
    · first | exact fun _ _ _ h => h | exact fun _ _ _ h => by cases h.1
    · rfl
    · ((intro wq hSq; (try dsimp only at hSq); go_simp); (try with_reducible rfl))
    try simp only [Act.put, List.setIfInBounds_toArray, List.set_cons_zero, List.set_cons_succ]
    refine wpAnyH_take (i := 5) (oi := ?_) (v := ?_) ?_ (by kernel_rfl) (by kernel_rfl) (by kernel_rfl) ?_ (Or.inl ⟨?_, ?_⟩) (by assumption) ?_
    rotate_left 2
    · (simp only [List.getElem?_toArray, List.getElem?_cons_succ, List.getElem?_cons_zero]; rfl)
    · first | exact fun _ _ _ h => h | exact fun _ _ _ h => by cases h.1
    · rfl
    · ((intro wq hSq; (try dsimp only at hSq); go_simp); (try with_reducible rfl))
    try simp only [Act.put, List.setIfInBounds_toArray, List.set_cons_zero, List.set_cons_succ]
    refine wpAnyH_done (by kernel_rfl) ?_ _
    exact ⟨rfl, bw, rfl, hHeld.1, hHeld.2.1⟩
  rintro bw w2 ⟨hb2, hbx2⟩
  dsimp only
  clear c0 c1 c2 c3 c4
  obtain ⟨c0, c1, c2, c3, c4⟩ := hbx2.cells
  have hBf : Below n w w2 := by rw [← hn]; exact hB1.trans (hb2.mono hB1.size)
  have hBf' := Lib.hid hBf
  clear hB1 hb2 hbx hbx2 hBf
  go_wp2_with fail
  go_ret
  exact ⟨rfl, by first | exact hBf'.out | (rw [hn]; exact hBf'.out)⟩

set_option maxRecDepth 100000 in
set_option maxHeartbeats 4000000 in
theorem rline_14 (a b c m : Int) (w : World) (_ha : 0 ≤ a ∧ a < 256) (_hb : 0 ≤ b ∧ b < 256) (_hc : 0 ≤ c ∧ c < 256) (hm : 0 ≤ m ∧ m < 4294967296) :
    Calls Tryd.prog 11 #[.agg #[.int .i64 14, .int .i64 a, .int .i64 b, .int .i64 c, .int .u32 m]] w fun r w' => r = .returned (.string (rlineS ⟨14, a, b, c, m⟩)) ∧ Below w.heap.size w w' := by
  have hew : IntKind.i64.wrap m = m := by simp [IntKind.wrap, IntKind.signed, IntKind.bits]; omega
  have hs1 := partR_size (l := []) (z := m) (by simp) (by omega)
  have heq : rlineS ⟨14, a, b, c, m⟩ = ((⟨#[106, 117, 109, 112]⟩ : ByteArray) ++ partR [] m) := by
    refine ByteArray.ext ?_
    simp [rlineS, shOf, shs, opsL, partR, partL]
  rw [heq]
  clear heq
  have q1 : ¬ 9223372036854775807 < 4 + (partR [] m).size := by omega
  have hbx := InBox.new w ⟨14, a, b, c, m⟩
  simp only at hbx
  have hB1 := (Below.refl _ w).alloc (Nat.le_refl _) (.cells #[.int .i64 14, .int .i64 a, .int .i64 b, .int .i64 c, .int .u32 m] 24)
  have hbx' := Lib.hid hbx
  have hB1' := Lib.hid hB1
  clear hbx hB1
  go_enter Tryd.func11, Tryd.ntmps11
  go_wp2_with fail
  have hbx := hbx'.out
  have hB1 := hB1'.out
  obtain ⟨w1, hw1⟩ : ∃ x, w.alloc (.cells #[.int .i64 14, .int .i64 a, .int .i64 b, .int .i64 c, .int .u32 m] 24) = x := ⟨_, rfl⟩
  obtain ⟨n, hn⟩ : ∃ n, w.heap.size = n := ⟨_, rfl⟩
  rw [hw1] at hbx hB1 ⊢
  rw [hn] at hbx
  simp only [hn]
  clear hw1 hbx' hB1'
  obtain ⟨c0, c1, c2, c3, c4⟩ := hbx.cells
  refine region_to (fun bw => { tmps := #[.agg #[.int .i64 14, .int .i64 a, .int .i64 b, .int .i64 c, .int .u32 m], .pointer (some ⟨n, 0, none⟩), .string ⟨#[]⟩, .string ⟨#[106, 117, 109, 112]⟩, undef, .slice (some ⟨bw, 0, none⟩) 22 22, .pointer (some ⟨n, 0, none⟩), .int .i64 14, .pointer (some ⟨bw, 14, none⟩), .string ⟨#[106, 117, 109, 112]⟩, undef, undef, undef, undef, undef, undef, undef, undef, undef, undef, undef, undef, undef, undef, undef, undef, undef, undef, undef, undef, undef, undef, undef, undef, undef, undef, undef, undef, undef, undef, undef, undef, undef, undef, undef, undef, undef, undef, undef, undef, undef, undef, undef, undef, undef, undef, undef, undef, undef, undef, undef, undef, undef, undef, undef, undef, undef, undef, undef, undef, undef, undef, undef, undef, undef, undef, undef, undef, undef, undef, undef, undef, undef, undef, undef, undef, undef, undef, undef, undef, undef, undef, undef, undef, undef, undef, undef, undef, undef, undef, undef, undef, undef, undef, undef, undef, undef, undef, undef, undef, undef, undef, undef, undef, undef, undef, undef, undef, undef, undef, undef, undef, undef, undef, undef, undef], defers := [] }) (fun bw w' => Below w1.heap.size w1 w' ∧ InBox w' n ⟨14, a, b, c, m⟩) ?reg ?cont
  case reg =>
    refine wp_region_held_drew (S := fun w' => Below w1.heap.size w1 w' ∧ InBox w' n ⟨14, a, b, c, m⟩ ∧ w'.cell? ⟨n, 0, none⟩ = some (.int .i64 14)) (by kernel_rfl) (⟨(Below.refl _ w1).drew, hbx, c0⟩ : RgSt w1 n ⟨14, a, b, c, m⟩ w1.drew) (fun hHeld => ?_)
    generalize w1.drew = wd at hHeld ⊢
    refine wpAnyH_take (i := 1) (oi := ?_) (v := ?_) ?_ (by kernel_rfl) (by kernel_rfl) (by kernel_rfl) ?_ (Or.inl ⟨?_, ?_⟩) (by assumption) ?_
    rotate_left 2
    · (simp only [List.getElem?_toArray, List.getElem?_cons_succ, List.getElem?_cons_zero]; rfl)
    · first | exact fun _ _ _ h => h | exact fun _ _ _ h => by cases h.1
    · rfl
    · ((intro wq hSq; (try dsimp only at hSq); go_simp); (try with_reducible rfl))
    try simp only [Act.put, List.setIfInBounds_toArray, List.set_cons_zero, List.set_cons_succ]
    refine wpAnyH_take (i := 2) (oi := ?_) (v := ?_) ?_ (by kernel_rfl) (by kernel_rfl) (by kernel_rfl) ?_ (Or.inl ⟨?_, ?_⟩) (by assumption) ?_
    rotate_left 2
    · (simp only [List.getElem?_toArray, List.getElem?_cons_succ, List.getElem?_cons_zero]; rfl)
    · first | exact fun _ _ _ h => h | exact fun _ _ _ h => by cases h.1
    · rfl
    · ((intro wq hSq; (try dsimp only at hSq); go_simp); (try with_reducible rfl))
    try simp only [Act.put, List.setIfInBounds_toArray, List.set_cons_zero, List.set_cons_succ]
    refine wpAnyH_ready (rs := [0]) (by kernel_rfl) (by simp) ?_
    refine AllReadyH.cons (o := ?_) ?_ (fun K hK => ?_) AllReadyH.nil
    rotate_left
    · (simp only [List.getElem?_toArray, List.getElem?_cons_zero]; rfl)
    go_simp
    go_at_call 35
    refine (rwords_any _).mono ?_
    rintro e wx ⟨bw, rfl, hcw, hlw, hbw⟩
    have hSx := RgSt.below (w1 := w1) (n := n) (e := ⟨14, a, b, c, m⟩) hHeld hbw
    have hcw0 := hcw 14 ⟨#[106, 117, 109, 112]⟩ rfl
    refine hK.out _ _ hSx (fun hHeld => ?_)
    clear hK K
    try simp only [Act.put, List.setIfInBounds_toArray, List.set_cons_zero, List.set_cons_succ]
    have hSy : (RgSt w1 n ⟨14, a, b, c, m⟩ _) ∧ _ := ⟨hHeld, hcw0⟩
    refine wpAnyH_strong (S' := fun w' => (Below w1.heap.size w1 w' ∧ InBox w' n ⟨14, a, b, c, m⟩ ∧ w'.cell? ⟨n, 0, none⟩ = some (.int .i64 14)) ∧ w'.cell? ⟨bw, 14, none⟩ = some (.string ⟨#[106, 117, 109, 112]⟩)) (fun w h => h.1) _ _ _ _ ?_
    refine wpAnyH_take (i := 3) (oi := ?_) (v := ?_) ?_ (by kernel_rfl) (by kernel_rfl) (by kernel_rfl) ?_ (Or.inl ⟨?_, ?_⟩) (by assumption) ?_
    rotate_left 2
    · (simp only [List.getElem?_toArray, List.getElem?_cons_succ, List.getElem?_cons_zero]; rfl)
    · first | exact fun _ _ _ h => h | exact fun _ _ _ h => by cases h.1
    · rfl
    · ((intro wq hSq; (try dsimp only at hSq); go_simp); (try with_reducible rfl))
    try simp only [Act.put, List.setIfInBounds_toArray, List.set_cons_zero, List.set_cons_succ]
    refine wpAnyH_take (i := 4) (oi := ?_) (v := ?_) ?_ (by kernel_rfl) (by kernel_rfl) (by kernel_rfl) ?_ (Or.inl ⟨?_, ?_⟩) (by assumption) ?_
    rotate_left 2
    · (simp only [List.getElem?_toArray, List.getElem?_cons_succ, List.getElem?_cons_zero]; rfl)
    · first | exact fun _ _ _ h => h | exact fun _ _ _ h => by cases h.1
    · rfl
    · ((intro wq hSq; (try dsimp only at hSq); go_simp); (try with_reducible rfl))
    try simp only [Act.put, List.setIfInBounds_toArray, List.set_cons_zero, List.set_cons_succ]
    refine wpAnyH_take (i := 5) (oi := ?_) (v := ?_) ?_ (by kernel_rfl) (by kernel_rfl) (by kernel_rfl) ?_ (Or.inl ⟨?_, ?_⟩) (by assumption) ?_
    rotate_left 2
    · (simp only [List.getElem?_toArray, List.getElem?_cons_succ, List.getElem?_cons_zero]; rfl)
    · first | exact fun _ _ _ h => h | exact fun _ _ _ h => by cases h.1
    · rfl
    · ((intro wq hSq; (try dsimp only at hSq); go_simp); (try with_reducible rfl))
    try simp only [Act.put, List.setIfInBounds_toArray, List.set_cons_zero, List.set_cons_succ]
    refine wpAnyH_done (by kernel_rfl) ?_ _
    exact ⟨rfl, bw, rfl, hHeld.1, hHeld.2.1⟩
  rintro bw w2 ⟨hb2, hbx2⟩
  dsimp only
  clear c0 c1 c2 c3 c4
  obtain ⟨c0, c1, c2, c3, c4⟩ := hbx2.cells
  have hBf : Below n w w2 := by rw [← hn]; exact hB1.trans (hb2.mono hB1.size)
  have hBf' := Lib.hid hBf
  clear hB1 hb2 hbx hbx2 hBf
  go_wp2_with fail
  refine (rpart_any _ _ _ (by simp) (by omega)).mono ?_
  rintro e w3 ⟨rfl, hbx3⟩
  have hK3 : Below w2.heap.size w2 w3 := hbx3
  go_wp2_with fail
  go_ret
  exact ⟨rfl, by first | exact hBf'.out.trans (hK3.mono (by have := hBf'.out.size; omega)) | (rw [hn]; exact hBf'.out.trans (hK3.mono (by have := hBf'.out.size; omega)))⟩

set_option maxRecDepth 100000 in
set_option maxHeartbeats 4000000 in
theorem rline_1 (a b c m : Int) (w : World) (ha : 0 ≤ a ∧ a < 256) (_hb : 0 ≤ b ∧ b < 256) (_hc : 0 ≤ c ∧ c < 256) (hm : 0 ≤ m ∧ m < 4294967296) :
    Calls Tryd.prog 11 #[.agg #[.int .i64 1, .int .i64 a, .int .i64 b, .int .i64 c, .int .u32 m]] w fun r w' => r = .returned (.string (rlineS ⟨1, a, b, c, m⟩)) ∧ Below w.heap.size w w' := by
  have hew : IntKind.i64.wrap m = m := by simp [IntKind.wrap, IntKind.signed, IntKind.bits]; omega
  have hs1 := partR_size (l := [114]) (z := a) (by simp) (by omega)
  have hs2 := partR_size (l := []) (z := m) (by simp) (by omega)
  have heq : rlineS ⟨1, a, b, c, m⟩ = (((⟨#[115, 101, 116]⟩ : ByteArray) ++ partR [114] a) ++ partR [] m) := by
    refine ByteArray.ext ?_
    simp [rlineS, shOf, shs, opsL, partR, partL]
  rw [heq]
  clear heq
  have q1 : ¬ 9223372036854775807 < 3 + (partR [114] a).size := by omega
  have q2 : ¬ 9223372036854775807 < 3 + (partR [114] a).size + (partR [] m).size := by omega
  have hbx := InBox.new w ⟨1, a, b, c, m⟩
  simp only at hbx
  have hB1 := (Below.refl _ w).alloc (Nat.le_refl _) (.cells #[.int .i64 1, .int .i64 a, .int .i64 b, .int .i64 c, .int .u32 m] 24)
  have hbx' := Lib.hid hbx
  have hB1' := Lib.hid hB1
  clear hbx hB1
  go_enter Tryd.func11, Tryd.ntmps11
  go_wp2_with fail
  have hbx := hbx'.out
  have hB1 := hB1'.out
  obtain ⟨w1, hw1⟩ : ∃ x, w.alloc (.cells #[.int .i64 1, .int .i64 a, .int .i64 b, .int .i64 c, .int .u32 m] 24) = x := ⟨_, rfl⟩
  obtain ⟨n, hn⟩ : ∃ n, w.heap.size = n := ⟨_, rfl⟩
  rw [hw1] at hbx hB1 ⊢
  rw [hn] at hbx
  simp only [hn]
  clear hw1 hbx' hB1'
  obtain ⟨c0, c1, c2, c3, c4⟩ := hbx.cells
  refine region_to (fun bw => { tmps := #[.agg #[.int .i64 1, .int .i64 a, .int .i64 b, .int .i64 c, .int .u32 m], .pointer (some ⟨n, 0, none⟩), .string ⟨#[]⟩, .string ⟨#[115, 101, 116]⟩, undef, .slice (some ⟨bw, 0, none⟩) 22 22, .pointer (some ⟨n, 0, none⟩), .int .i64 1, .pointer (some ⟨bw, 1, none⟩), .string ⟨#[115, 101, 116]⟩, undef, undef, undef, undef, undef, undef, undef, undef, undef, undef, undef, undef, undef, undef, undef, undef, undef, undef, undef, undef, undef, undef, undef, undef, undef, undef, undef, undef, undef, undef, undef, undef, undef, undef, undef, undef, undef, undef, undef, undef, undef, undef, undef, undef, undef, undef, undef, undef, undef, undef, undef, undef, undef, undef, undef, undef, undef, undef, undef, undef, undef, undef, undef, undef, undef, undef, undef, undef, undef, undef, undef, undef, undef, undef, undef, undef, undef, undef, undef, undef, undef, undef, undef, undef, undef, undef, undef, undef, undef, undef, undef, undef, undef, undef, undef, undef, undef, undef, undef, undef, undef, undef, undef, undef, undef, undef, undef, undef, undef, undef, undef, undef, undef, undef, undef, undef], defers := [] }) (fun bw w' => Below w1.heap.size w1 w' ∧ InBox w' n ⟨1, a, b, c, m⟩) ?reg ?cont
  case reg =>
    refine wp_region_held_drew (S := fun w' => Below w1.heap.size w1 w' ∧ InBox w' n ⟨1, a, b, c, m⟩ ∧ w'.cell? ⟨n, 0, none⟩ = some (.int .i64 1)) (by kernel_rfl) (⟨(Below.refl _ w1).drew, hbx, c0⟩ : RgSt w1 n ⟨1, a, b, c, m⟩ w1.drew) (fun hHeld => ?_)
    generalize w1.drew = wd at hHeld ⊢
    refine wpAnyH_take (i := 1) (oi := ?_) (v := ?_) ?_ (by kernel_rfl) (by kernel_rfl) (by kernel_rfl) ?_ (Or.inl ⟨?_, ?_⟩) (by assumption) ?_
    rotate_left 2
    · (simp only [List.getElem?_toArray, List.getElem?_cons_succ, List.getElem?_cons_zero]; rfl)
    · first | exact fun _ _ _ h => h | exact fun _ _ _ h => by cases h.1
    · rfl
    · ((intro wq hSq; (try dsimp only at hSq); go_simp); (try with_reducible rfl))
    try simp only [Act.put, List.setIfInBounds_toArray, List.set_cons_zero, List.set_cons_succ]
    refine wpAnyH_take (i := 2) (oi := ?_) (v := ?_) ?_ (by kernel_rfl) (by kernel_rfl) (by kernel_rfl) ?_ (Or.inl ⟨?_, ?_⟩) (by assumption) ?_
    rotate_left 2
    · (simp only [List.getElem?_toArray, List.getElem?_cons_succ, List.getElem?_cons_zero]; rfl)
    · first | exact fun _ _ _ h => h | exact fun _ _ _ h => by cases h.1
    · rfl
    · ((intro wq hSq; (try dsimp only at hSq); go_simp); (try with_reducible rfl))
    try simp only [Act.put, List.setIfInBounds_toArray, List.set_cons_zero, List.set_cons_succ]
    refine wpAnyH_ready (rs := [0]) (by kernel_rfl) (by simp) ?_
    refine AllReadyH.cons (o := ?_) ?_ (fun K hK => ?_) AllReadyH.nil
    rotate_left
    · (simp only [List.getElem?_toArray, List.getElem?_cons_zero]; rfl)
    go_simp
    go_at_call 35
    refine (rwords_any _).mono ?_
    rintro e wx ⟨bw, rfl, hcw, hlw, hbw⟩
    have hSx := RgSt.below (w1 := w1) (n := n) (e := ⟨1, a, b, c, m⟩) hHeld hbw
    have hcw0 := hcw 1 ⟨#[115, 101, 116]⟩ rfl
    refine hK.out _ _ hSx (fun hHeld => ?_)
    clear hK K
    try simp only [Act.put, List.setIfInBounds_toArray, List.set_cons_zero, List.set_cons_succ]
    have hSy : (RgSt w1 n ⟨1, a, b, c, m⟩ _) ∧ _ := ⟨hHeld, hcw0⟩
    refine wpAnyH_strong (S' := fun w' => (Below w1.heap.size w1 w' ∧ InBox w' n ⟨1, a, b, c, m⟩ ∧ w'.cell? ⟨n, 0, none⟩ = some (.int .i64 1)) ∧ w'.cell? ⟨bw, 1, none⟩ = some (.string ⟨#[115, 101, 116]⟩)) (fun w h => h.1) _ _ _ _ ?_
    refine wpAnyH_take (i := 3) (oi := ?_) (v := ?_) ?_ (by kernel_rfl) (by kernel_rfl) (by kernel_rfl) ?_ (Or.inl ⟨?_, ?_⟩) (by assumption) ?_
    rotate_left 2
    · (simp only [List.getElem?_toArray, List.getElem?_cons_succ, List.getElem?_cons_zero]; rfl)
    · first | exact fun _ _ _ h => h | exact fun _ _ _ h => by cases h.1
    · rfl
    · ((intro wq hSq; (try dsimp only at hSq); go_simp); (try with_reducible rfl))
    try simp only [Act.put, List.setIfInBounds_toArray, List.set_cons_zero, List.set_cons_succ]
    refine wpAnyH_take (i := 4) (oi := ?_) (v := ?_) ?_ (by kernel_rfl) (by kernel_rfl) (by kernel_rfl) ?_ (Or.inl ⟨?_, ?_⟩) (by assumption) ?_
    rotate_left 2
    · (simp only [List.getElem?_toArray, List.getElem?_cons_succ, List.getElem?_cons_zero]; rfl)
    · first | exact fun _ _ _ h => h | exact fun _ _ _ h => by cases h.1
    · rfl
    · ((intro wq hSq; (try dsimp only at hSq); go_simp); (try with_reducible rfl))
    try simp only [Act.put, List.setIfInBounds_toArray, List.set_cons_zero, List.set_cons_succ]
    refine wpAnyH_take (i := 5) (oi := ?_) (v := ?_) ?_ (by kernel_rfl) (by kernel_rfl) (by kernel_rfl) ?_ (Or.inl ⟨?_, ?_⟩) (by assumption) ?_
    rotate_left 2
    · (simp only [List.getElem?_toArray, List.getElem?_cons_succ, List.getElem?_cons_zero]; rfl)
    · first | exact fun _ _ _ h => h | exact fun _ _ _ h => by cases h.1
    · rfl
    · ((intro wq hSq; (try dsimp only at hSq); go_simp); (try with_reducible rfl))
    try simp only [Act.put, List.setIfInBounds_toArray, List.set_cons_zero, List.set_cons_succ]
    refine wpAnyH_done (by kernel_rfl) ?_ _
    exact ⟨rfl, bw, rfl, hHeld.1, hHeld.2.1⟩
  rintro bw w2 ⟨hb2, hbx2⟩
  dsimp only
  clear c0 c1 c2 c3 c4
  obtain ⟨c0, c1, c2, c3, c4⟩ := hbx2.cells
  have hBf : Below n w w2 := by rw [← hn]; exact hB1.trans (hb2.mono hB1.size)
  have hBf' := Lib.hid hBf
  clear hB1 hb2 hbx hbx2 hBf
  go_wp2_with fail
  refine (rpart_any _ _ _ (by simp) (by omega)).mono ?_
  rintro e w3 ⟨rfl, hbx3⟩
  have hK3 : Below w2.heap.size w2 w3 := hbx3
  go_wp2_with fail
  refine (rpart_any _ _ _ (by simp) (by omega)).mono ?_
  rintro e w4 ⟨rfl, hbx4⟩
  have hK4 : Below w2.heap.size w2 w4 := hK3.trans (hbx4.mono hK3.size)
  go_wp2_with fail
  go_ret
  exact ⟨rfl, by first | exact hBf'.out.trans (hK4.mono (by have := hBf'.out.size; omega)) | (rw [hn]; exact hBf'.out.trans (hK4.mono (by have := hBf'.out.size; omega)))⟩

set_option maxRecDepth 100000 in
set_option maxHeartbeats 4000000 in
theorem rline_15 (a b c m : Int) (w : World) (ha : 0 ≤ a ∧ a < 256) (_hb : 0 ≤ b ∧ b < 256) (_hc : 0 ≤ c ∧ c < 256) (hm : 0 ≤ m ∧ m < 4294967296) :
    Calls Tryd.prog 11 #[.agg #[.int .i64 15, .int .i64 a, .int .i64 b, .int .i64 c, .int .u32 m]] w fun r w' => r = .returned (.string (rlineS ⟨15, a, b, c, m⟩)) ∧ Below w.heap.size w w' := by
  have hew : IntKind.i64.wrap m = m := by simp [IntKind.wrap, IntKind.signed, IntKind.bits]; omega
  have hs1 := partR_size (l := [114]) (z := a) (by simp) (by omega)
  have hs2 := partR_size (l := []) (z := m) (by simp) (by omega)
  have heq : rlineS ⟨15, a, b, c, m⟩ = (((⟨#[122, 101, 114, 111]⟩ : ByteArray) ++ partR [114] a) ++ partR [] m) := by
    refine ByteArray.ext ?_
    simp [rlineS, shOf, shs, opsL, partR, partL]
  rw [heq]
  clear heq
  have q1 : ¬ 9223372036854775807 < 4 + (partR [114] a).size := by omega
  have q2 : ¬ 9223372036854775807 < 4 + (partR [114] a).size + (partR [] m).size := by omega
  have hbx := InBox.new w ⟨15, a, b, c, m⟩
  simp only at hbx
  have hB1 := (Below.refl _ w).alloc (Nat.le_refl _) (.cells #[.int .i64 15, .int .i64 a, .int .i64 b, .int .i64 c, .int .u32 m] 24)
  have hbx' := Lib.hid hbx
  have hB1' := Lib.hid hB1
  clear hbx hB1
  go_enter Tryd.func11, Tryd.ntmps11
  go_wp2_with fail
  have hbx := hbx'.out
  have hB1 := hB1'.out
  obtain ⟨w1, hw1⟩ : ∃ x, w.alloc (.cells #[.int .i64 15, .int .i64 a, .int .i64 b, .int .i64 c, .int .u32 m] 24) = x := ⟨_, rfl⟩
  obtain ⟨n, hn⟩ : ∃ n, w.heap.size = n := ⟨_, rfl⟩
  rw [hw1] at hbx hB1 ⊢
  rw [hn] at hbx
  simp only [hn]
  clear hw1 hbx' hB1'
  obtain ⟨c0, c1, c2, c3, c4⟩ := hbx.cells
  refine region_to (fun bw => { tmps := #[.agg #[.int .i64 15, .int .i64 a, .int .i64 b, .int .i64 c, .int .u32 m], .pointer (some ⟨n, 0, none⟩), .string ⟨#[]⟩, .string ⟨#[122, 101, 114, 111]⟩, undef, .slice (some ⟨bw, 0, none⟩) 22 22, .pointer (some ⟨n, 0, none⟩), .int .i64 15, .pointer (some ⟨bw, 15, none⟩), .string ⟨#[122, 101, 114, 111]⟩, undef, undef, undef, undef, undef, undef, undef, undef, undef, undef, undef, undef, undef, undef, undef, undef, undef, undef, undef, undef, undef, undef, undef, undef, undef, undef, undef, undef, undef, undef, undef, undef, undef, undef, undef, undef, undef, undef, undef, undef, undef, undef, undef, undef, undef, undef, undef, undef, undef, undef, undef, undef, undef, undef, undef, undef, undef, undef, undef, undef, undef, undef, undef, undef, undef, undef, undef, undef, undef, undef, undef, undef, undef, undef, undef, undef, undef, undef, undef, undef, undef, undef, undef, undef, undef, undef, undef, undef, undef, undef, undef, undef, undef, undef, undef, undef, undef, undef, undef, undef, undef, undef, undef, undef, undef, undef, undef, undef, undef, undef, undef, undef, undef, undef, undef, undef], defers := [] }) (fun bw w' => Below w1.heap.size w1 w' ∧ InBox w' n ⟨15, a, b, c, m⟩) ?reg ?cont
  case reg =>
    refine wp_region_held_drew (S := fun w' => Below w1.heap.size w1 w' ∧ InBox w' n ⟨15, a, b, c, m⟩ ∧ w'.cell? ⟨n, 0, none⟩ = some (.int .i64 15)) (by kernel_rfl) (⟨(Below.refl _ w1).drew, hbx, c0⟩ : RgSt w1 n ⟨15, a, b, c, m⟩ w1.drew) (fun hHeld => ?_)
    generalize w1.drew = wd at hHeld ⊢
    refine wpAnyH_take (i := 1) (oi := ?_) (v := ?_) ?_ (by kernel_rfl) (by kernel_rfl) (by kernel_rfl) ?_ (Or.inl ⟨?_, ?_⟩) (by assumption) ?_
    rotate_left 2
    · (simp only [List.getElem?_toArray, List.getElem?_cons_succ, List.getElem?_cons_zero]; rfl)
    · first | exact fun _ _ _ h => h | exact fun _ _ _ h => by cases h.1
    · rfl
    · ((intro wq hSq; (try dsimp only at hSq); go_simp); (try with_reducible rfl))
    try simp only [Act.put, List.setIfInBounds_toArray, List.set_cons_zero, List.set_cons_succ]
    refine wpAnyH_take (i := 2) (oi := ?_) (v := ?_) ?_ (by kernel_rfl) (by kernel_rfl) (by kernel_rfl) ?_ (Or.inl ⟨?_, ?_⟩) (by assumption) ?_
    rotate_left 2
    · (simp only [List.getElem?_toArray, List.getElem?_cons_succ, List.getElem?_cons_zero]; rfl)
    · first | exact fun _ _ _ h => h | exact fun _ _ _ h => by cases h.1
    · rfl
    · ((intro wq hSq; (try dsimp only at hSq); go_simp); (try with_reducible rfl))
    try simp only [Act.put, List.setIfInBounds_toArray, List.set_cons_zero, List.set_cons_succ]
    refine wpAnyH_ready (rs := [0]) (by kernel_rfl) (by simp) ?_
    refine AllReadyH.cons (o := ?_) ?_ (fun K hK => ?_) AllReadyH.nil
    rotate_left
    · (simp only [List.getElem?_toArray, List.getElem?_cons_zero]; rfl)
    go_simp
    go_at_call 35
    refine (rwords_any _).mono ?_
    rintro e wx ⟨bw, rfl, hcw, hlw, hbw⟩
    have hSx := RgSt.below (w1 := w1) (n := n) (e := ⟨15, a, b, c, m⟩) hHeld hbw
    have hcw0 := hcw 15 ⟨#[122, 101, 114, 111]⟩ rfl
    refine hK.out _ _ hSx (fun hHeld => ?_)
    clear hK K
    try simp only [Act.put, List.setIfInBounds_toArray, List.set_cons_zero, List.set_cons_succ]
    have hSy : (RgSt w1 n ⟨15, a, b, c, m⟩ _) ∧ _ := ⟨hHeld, hcw0⟩
    refine wpAnyH_strong (S' := fun w' => (Below w1.heap.size w1 w' ∧ InBox w' n ⟨15, a, b, c, m⟩ ∧ w'.cell? ⟨n, 0, none⟩ = some (.int .i64 15)) ∧ w'.cell? ⟨bw, 15, none⟩ = some (.string ⟨#[122, 101, 114, 111]⟩)) (fun w h => h.1) _ _ _ _ ?_
    refine wpAnyH_take (i := 3) (oi := ?_) (v := ?_) ?_ (by kernel_rfl) (by kernel_rfl) (by kernel_rfl) ?_ (Or.inl ⟨?_, ?_⟩) (by assumption) ?_
    rotate_left 2
    · (simp only [List.getElem?_toArray, List.getElem?_cons_succ, List.getElem?_cons_zero]; rfl)
    · first | exact fun _ _ _ h => h | exact fun _ _ _ h => by cases h.1
    · rfl
    · ((intro wq hSq; (try dsimp only at hSq); go_simp); (try with_reducible rfl))
    try simp only [Act.put, List.setIfInBounds_toArray, List.set_cons_zero, List.set_cons_succ]
    refine wpAnyH_take (i := 4) (oi := ?_) (v := ?_) ?_ (by kernel_rfl) (by kernel_rfl) (by kernel_rfl) ?_ (Or.inl ⟨?_, ?_⟩) (by assumption) ?_
    rotate_left 2
    · (simp only [List.getElem?_toArray, List.getElem?_cons_succ, List.getElem?_cons_zero]; rfl)
    · first | exact fun _ _ _ h => h | exact fun _ _ _ h => by cases h.1
    · rfl
    · ((intro wq hSq; (try dsimp only at hSq); go_simp); (try with_reducible rfl))
    try simp only [Act.put, List.setIfInBounds_toArray, List.set_cons_zero, List.set_cons_succ]
    refine wpAnyH_take (i := 5) (oi := ?_) (v := ?_) ?_ (by kernel_rfl) (by kernel_rfl) (by kernel_rfl) ?_ (Or.inl ⟨?_, ?_⟩) (by assumption) ?_
    rotate_left 2
    · (simp only [List.getElem?_toArray, List.getElem?_cons_succ, List.getElem?_cons_zero]; rfl)
    · first | exact fun _ _ _ h => h | exact fun _ _ _ h => by cases h.1
    · rfl
    · ((intro wq hSq; (try dsimp only at hSq); go_simp); (try with_reducible rfl))
    try simp only [Act.put, List.setIfInBounds_toArray, List.set_cons_zero, List.set_cons_succ]
    refine wpAnyH_done (by kernel_rfl) ?_ _
    exact ⟨rfl, bw, rfl, hHeld.1, hHeld.2.1⟩
  rintro bw w2 ⟨hb2, hbx2⟩
  dsimp only
  clear c0 c1 c2 c3 c4
  obtain ⟨c0, c1, c2, c3, c4⟩ := hbx2.cells
  have hBf : Below n w w2 := by rw [← hn]; exact hB1.trans (hb2.mono hB1.size)
  have hBf' := Lib.hid hBf
  clear hB1 hb2 hbx hbx2 hBf
  go_wp2_with fail
  refine (rpart_any _ _ _ (by simp) (by omega)).mono ?_
  rintro e w3 ⟨rfl, hbx3⟩
  have hK3 : Below w2.heap.size w2 w3 := hbx3
  go_wp2_with fail
  refine (rpart_any _ _ _ (by simp) (by omega)).mono ?_
  rintro e w4 ⟨rfl, hbx4⟩
  have hK4 : Below w2.heap.size w2 w4 := hK3.trans (hbx4.mono hK3.size)
  go_wp2_with fail
  go_ret
  exact ⟨rfl, by first | exact hBf'.out.trans (hK4.mono (by have := hBf'.out.size; omega)) | (rw [hn]; exact hBf'.out.trans (hK4.mono (by have := hBf'.out.size; omega)))⟩

set_option maxRecDepth 100000 in
set_option maxHeartbeats 4000000 in
theorem rline_2 (a b c m : Int) (w : World) (ha : 0 ≤ a ∧ a < 256) (hb : 0 ≤ b ∧ b < 256) (_hc : 0 ≤ c ∧ c < 256) (hm : 0 ≤ m ∧ m < 4294967296) :
    Calls Tryd.prog 11 #[.agg #[.int .i64 2, .int .i64 a, .int .i64 b, .int .i64 c, .int .u32 m]] w fun r w' => r = .returned (.string (rlineS ⟨2, a, b, c, m⟩)) ∧ Below w.heap.size w w' := by
  have hew : IntKind.i64.wrap m = m := by simp [IntKind.wrap, IntKind.signed, IntKind.bits]; omega
  have hs1 := partR_size (l := [114]) (z := a) (by simp) (by omega)
  have hs2 := partR_size (l := [114]) (z := b) (by simp) (by omega)
  have heq : rlineS ⟨2, a, b, c, m⟩ = (((⟨#[109, 111, 118, 101]⟩ : ByteArray) ++ partR [114] a) ++ partR [114] b) := by
    refine ByteArray.ext ?_
    simp [rlineS, shOf, shs, opsL, partR, partL]
  rw [heq]
  clear heq
  have q1 : ¬ 9223372036854775807 < 4 + (partR [114] a).size := by omega
  have q2 : ¬ 9223372036854775807 < 4 + (partR [114] a).size + (partR [114] b).size := by omega
  have hbx := InBox.new w ⟨2, a, b, c, m⟩
  simp only at hbx
  have hB1 := (Below.refl _ w).alloc (Nat.le_refl _) (.cells #[.int .i64 2, .int .i64 a, .int .i64 b, .int .i64 c, .int .u32 m] 24)
  have hbx' := Lib.hid hbx
  have hB1' := Lib.hid hB1
  clear hbx hB1
  go_enter Tryd.func11, Tryd.ntmps11
  go_wp2_with fail
  have hbx := hbx'.out
  have hB1 := hB1'.out
  obtain ⟨w1, hw1⟩ : ∃ x, w.alloc (.cells #[.int .i64 2, .int .i64 a, .int .i64 b, .int .i64 c, .int .u32 m] 24) = x := ⟨_, rfl⟩
  obtain ⟨n, hn⟩ : ∃ n, w.heap.size = n := ⟨_, rfl⟩
  rw [hw1] at hbx hB1 ⊢
  rw [hn] at hbx
  simp only [hn]
  clear hw1 hbx' hB1'
  obtain ⟨c0, c1, c2, c3, c4⟩ := hbx.cells
  refine region_to (fun bw => { tmps := #[.agg #[.int .i64 2, .int .i64 a, .int .i64 b, .int .i64 c, .int .u32 m], .pointer (some ⟨n, 0, none⟩), .string ⟨#[]⟩, .string ⟨#[109, 111, 118, 101]⟩, undef, .slice (some ⟨bw, 0, none⟩) 22 22, .pointer (some ⟨n, 0, none⟩), .int .i64 2, .pointer (some ⟨bw, 2, none⟩), .string ⟨#[109, 111, 118, 101]⟩, undef, undef, undef, undef, undef, undef, undef, undef, undef, undef, undef, undef, undef, undef, undef, undef, undef, undef, undef, undef, undef, undef, undef, undef, undef, undef, undef, undef, undef, undef, undef, undef, undef, undef, undef, undef, undef, undef, undef, undef, undef, undef, undef, undef, undef, undef, undef, undef, undef, undef, undef, undef, undef, undef, undef, undef, undef, undef, undef, undef, undef, undef, undef, undef, undef, undef, undef, undef, undef, undef, undef, undef, undef, undef, undef, undef, undef, undef, undef, undef, undef, undef, undef, undef, undef, undef, undef, undef, undef, undef, undef, undef, undef, undef, undef, undef, undef, undef, undef, undef, undef, undef, undef, undef, undef, undef, undef, undef, undef, undef, undef, undef, undef, undef, undef, undef], defers := [] }) (fun bw w' => Below w1.heap.size w1 w' ∧ InBox w' n ⟨2, a, b, c, m⟩) ?reg ?cont
  case reg =>
    refine wp_region_held_drew (S := fun w' => Below w1.heap.size w1 w' ∧ InBox w' n ⟨2, a, b, c, m⟩ ∧ w'.cell? ⟨n, 0, none⟩ = some (.int .i64 2)) (by kernel_rfl) (⟨(Below.refl _ w1).drew, hbx, c0⟩ : RgSt w1 n ⟨2, a, b, c, m⟩ w1.drew) (fun hHeld => ?_)
    generalize w1.drew = wd at hHeld ⊢
    refine wpAnyH_take (i := 1) (oi := ?_) (v := ?_) ?_ (by kernel_rfl) (by kernel_rfl) (by kernel_rfl) ?_ (Or.inl ⟨?_, ?_⟩) (by assumption) ?_
    rotate_left 2
    · (simp only [List.getElem?_toArray, List.getElem?_cons_succ, List.getElem?_cons_zero]; rfl)
    · first | exact fun _ _ _ h => h | exact fun _ _ _ h => by cases h.1
    · rfl
    · ((intro wq hSq; (try dsimp only at hSq); go_simp); (try with_reducible rfl))
    try simp only [Act.put, List.setIfInBounds_toArray, List.set_cons_zero, List.set_cons_succ]
    refine wpAnyH_take (i := 2) (oi := ?_) (v := ?_) ?_ (by kernel_rfl) (by kernel_rfl) (by kernel_rfl) ?_ (Or.inl ⟨?_, ?_⟩) (by assumption) ?_
    rotate_left 2
    · (simp only [List.getElem?_toArray, List.getElem?_cons_succ, List.getElem?_cons_zero]; rfl)
    · first | exact fun _ _ _ h => h | exact fun _ _ _ h => by cases h.1
    · rfl
    · ((intro wq hSq; (try dsimp only at hSq); go_simp); (try with_reducible rfl))
    try simp only [Act.put, List.setIfInBounds_toArray, List.set_cons_zero, List.set_cons_succ]
    refine wpAnyH_ready (rs := [0]) (by kernel_rfl) (by simp) ?_
    refine AllReadyH.cons (o := ?_) ?_ (fun K hK => ?_) AllReadyH.nil
    rotate_left
    · (simp only [List.getElem?_toArray, List.getElem?_cons_zero]; rfl)
    go_simp
    go_at_call 35
    refine (rwords_any _).mono ?_
    rintro e wx ⟨bw, rfl, hcw, hlw, hbw⟩
    have hSx := RgSt.below (w1 := w1) (n := n) (e := ⟨2, a, b, c, m⟩) hHeld hbw
    have hcw0 := hcw 2 ⟨#[109, 111, 118, 101]⟩ rfl
    refine hK.out _ _ hSx (fun hHeld => ?_)
    clear hK K
    try simp only [Act.put, List.setIfInBounds_toArray, List.set_cons_zero, List.set_cons_succ]
    have hSy : (RgSt w1 n ⟨2, a, b, c, m⟩ _) ∧ _ := ⟨hHeld, hcw0⟩
    refine wpAnyH_strong (S' := fun w' => (Below w1.heap.size w1 w' ∧ InBox w' n ⟨2, a, b, c, m⟩ ∧ w'.cell? ⟨n, 0, none⟩ = some (.int .i64 2)) ∧ w'.cell? ⟨bw, 2, none⟩ = some (.string ⟨#[109, 111, 118, 101]⟩)) (fun w h => h.1) _ _ _ _ ?_
    refine wpAnyH_take (i := 3) (oi := ?_) (v := ?_) ?_ (by kernel_rfl) (by kernel_rfl) (by kernel_rfl) ?_ (Or.inl ⟨?_, ?_⟩) (by assumption) ?_
    rotate_left 2
    · (simp only [List.getElem?_toArray, List.getElem?_cons_succ, List.getElem?_cons_zero]; rfl)
    · first | exact fun _ _ _ h => h | exact fun _ _ _ h => by cases h.1
    · rfl
    · ((intro wq hSq; (try dsimp only at hSq); go_simp); (try with_reducible rfl))
    try simp only [Act.put, List.setIfInBounds_toArray, List.set_cons_zero, List.set_cons_succ]
    refine wpAnyH_take (i := 4) (oi := ?_) (v := ?_) ?_ (by kernel_rfl) (by kernel_rfl) (by kernel_rfl) ?_ (Or.inl ⟨?_, ?_⟩) (by assumption) ?_
    rotate_left 2
    · (simp only [List.getElem?_toArray, List.getElem?_cons_succ, List.getElem?_cons_zero]; rfl)
    · first | exact fun _ _ _ h => h | exact fun _ _ _ h => by cases h.1
    · rfl
    · ((intro wq hSq; (try dsimp only at hSq); go_simp); (try with_reducible rfl))
    try simp only [Act.put, List.setIfInBounds_toArray, List.set_cons_zero, List.set_cons_succ]
    refine wpAnyH_take (i := 5) (oi := ?_) (v := ?_) ?_ (by kernel_rfl) (by kernel_rfl) (by kernel_rfl) ?_ (Or.inl ⟨?_, ?_⟩) (by assumption) ?_
    rotate_left 2
    · (simp only [List.getElem?_toArray, List.getElem?_cons_succ, List.getElem?_cons_zero]; rfl)
    · first | exact fun _ _ _ h => h | exact fun _ _ _ h => by cases h.1
    · rfl
    · ((intro wq hSq; (try dsimp only at hSq); go_simp); (try with_reducible rfl))
    try simp only [Act.put, List.setIfInBounds_toArray, List.set_cons_zero, List.set_cons_succ]
    refine wpAnyH_done (by kernel_rfl) ?_ _
    exact ⟨rfl, bw, rfl, hHeld.1, hHeld.2.1⟩
  rintro bw w2 ⟨hb2, hbx2⟩
  dsimp only
  clear c0 c1 c2 c3 c4
  obtain ⟨c0, c1, c2, c3, c4⟩ := hbx2.cells
  have hBf : Below n w w2 := by rw [← hn]; exact hB1.trans (hb2.mono hB1.size)
  have hBf' := Lib.hid hBf
  clear hB1 hb2 hbx hbx2 hBf
  go_wp2_with fail
  have hSd : RlSt w2 n a b c m w2.drew := RlSt.drew ⟨Below.refl _ _, c1, c2, c3, c4⟩
  go_region_held3 (fun w' => Below w2.heap.size w2 w' ∧ w'.cell? ⟨n, 1, none⟩ = some (.int .i64 a) ∧ w'.cell? ⟨n, 2, none⟩ = some (.int .i64 b) ∧ w'.cell? ⟨n, 3, none⟩ = some (.int .i64 c) ∧ w'.cell? ⟨n, 4, none⟩ = some (.int .u32 m))
    (first | exact hSd | assumption)
    (first
      | (go_at_call 36; refine (rpart_any _ _ _ (by simp) (by omega)).mono ?_; rintro e wx ⟨rfl, hbx⟩; have hSx := RlSt.below (w2 := w2) (n := n) (a := a) (b := b) (c := c) (m := m) (by assumption) hbx))
  all_goals
    go_wp2_with fail
    go_ret
    exact ⟨rfl, by first | exact hBf'.out.trans (hSx.1.mono (by have := hBf'.out.size; omega)) | (rw [hn]; exact hBf'.out.trans (hSx.1.mono (by have := hBf'.out.size; omega)))⟩

set_option maxRecDepth 100000 in
set_option maxHeartbeats 4000000 in
theorem rline_16 (a b c m : Int) (w : World) (_ha : 0 ≤ a ∧ a < 256) (_hb : 0 ≤ b ∧ b < 256) (hc : 0 ≤ c ∧ c < 256) (hm : 0 ≤ m ∧ m < 4294967296) :
    Calls Tryd.prog 11 #[.agg #[.int .i64 16, .int .i64 a, .int .i64 b, .int .i64 c, .int .u32 m]] w fun r w' => r = .returned (.string (rlineS ⟨16, a, b, c, m⟩)) ∧ Below w.heap.size w w' := by
  have hew : IntKind.i64.wrap m = m := by simp [IntKind.wrap, IntKind.signed, IntKind.bits]; omega
  have hs1 := partR_size (l := []) (z := m) (by simp) (by omega)
  have hs2 := partR_size (l := []) (z := c) (by simp) (by omega)
  have heq : rlineS ⟨16, a, b, c, m⟩ = (((⟨#[98, 97, 99, 107]⟩ : ByteArray) ++ partR [] m) ++ partR [] c) := by
    refine ByteArray.ext ?_
    simp [rlineS, shOf, shs, opsL, partR, partL]
  rw [heq]
  clear heq
  have q1 : ¬ 9223372036854775807 < 4 + (partR [] m).size := by omega
  have q2 : ¬ 9223372036854775807 < 4 + (partR [] m).size + (partR [] c).size := by omega
  have hbx := InBox.new w ⟨16, a, b, c, m⟩
  simp only at hbx
  have hB1 := (Below.refl _ w).alloc (Nat.le_refl _) (.cells #[.int .i64 16, .int .i64 a, .int .i64 b, .int .i64 c, .int .u32 m] 24)
  have hbx' := Lib.hid hbx
  have hB1' := Lib.hid hB1
  clear hbx hB1
  go_enter Tryd.func11, Tryd.ntmps11
  go_wp2_with fail
  have hbx := hbx'.out
  have hB1 := hB1'.out
  obtain ⟨w1, hw1⟩ : ∃ x, w.alloc (.cells #[.int .i64 16, .int .i64 a, .int .i64 b, .int .i64 c, .int .u32 m] 24) = x := ⟨_, rfl⟩
  obtain ⟨n, hn⟩ : ∃ n, w.heap.size = n := ⟨_, rfl⟩
  rw [hw1] at hbx hB1 ⊢
  rw [hn] at hbx
  simp only [hn]
  clear hw1 hbx' hB1'
  obtain ⟨c0, c1, c2, c3, c4⟩ := hbx.cells
  refine region_to (fun bw => { tmps := #[.agg #[.int .i64 16, .int .i64 a, .int .i64 b, .int .i64 c, .int .u32 m], .pointer (some ⟨n, 0, none⟩), .string ⟨#[]⟩, .string ⟨#[98, 97, 99, 107]⟩, undef, .slice (some ⟨bw, 0, none⟩) 22 22, .pointer (some ⟨n, 0, none⟩), .int .i64 16, .pointer (some ⟨bw, 16, none⟩), .string ⟨#[98, 97, 99, 107]⟩, undef, undef, undef, undef, undef, undef, undef, undef, undef, undef, undef, undef, undef, undef, undef, undef, undef, undef, undef, undef, undef, undef, undef, undef, undef, undef, undef, undef, undef, undef, undef, undef, undef, undef, undef, undef, undef, undef, undef, undef, undef, undef, undef, undef, undef, undef, undef, undef, undef, undef, undef, undef, undef, undef, undef, undef, undef, undef, undef, undef, undef, undef, undef, undef, undef, undef, undef, undef, undef, undef, undef, undef, undef, undef, undef, undef, undef, undef, undef, undef, undef, undef, undef, undef, undef, undef, undef, undef, undef, undef, undef, undef, undef, undef, undef, undef, undef, undef, undef, undef, undef, undef, undef, undef, undef, undef, undef, undef, undef, undef, undef, undef, undef, undef, undef, undef], defers := [] }) (fun bw w' => Below w1.heap.size w1 w' ∧ InBox w' n ⟨16, a, b, c, m⟩) ?reg ?cont
  case reg =>
    refine wp_region_held_drew (S := fun w' => Below w1.heap.size w1 w' ∧ InBox w' n ⟨16, a, b, c, m⟩ ∧ w'.cell? ⟨n, 0, none⟩ = some (.int .i64 16)) (by kernel_rfl) (⟨(Below.refl _ w1).drew, hbx, c0⟩ : RgSt w1 n ⟨16, a, b, c, m⟩ w1.drew) (fun hHeld => ?_)
    generalize w1.drew = wd at hHeld ⊢
    refine wpAnyH_take (i := 1) (oi := ?_) (v := ?_) ?_ (by kernel_rfl) (by kernel_rfl) (by kernel_rfl) ?_ (Or.inl ⟨?_, ?_⟩) (by assumption) ?_
    rotate_left 2
    · (simp only [List.getElem?_toArray, List.getElem?_cons_succ, List.getElem?_cons_zero]; rfl)
    · first | exact fun _ _ _ h => h | exact fun _ _ _ h => by cases h.1
    · rfl
    · ((intro wq hSq; (try dsimp only at hSq); go_simp); (try with_reducible rfl))
    try simp only [Act.put, List.setIfInBounds_toArray, List.set_cons_zero, List.set_cons_succ]
    refine wpAnyH_take (i := 2) (oi := ?_) (v := ?_) ?_ (by kernel_rfl) (by kernel_rfl) (by kernel_rfl) ?_ (Or.inl ⟨?_, ?_⟩) (by assumption) ?_
    rotate_left 2
    · (simp only [List.getElem?_toArray, List.getElem?_cons_succ, List.getElem?_cons_zero]; rfl)
    · first | exact fun _ _ _ h => h | exact fun _ _ _ h => by cases h.1
    · rfl
    · ((intro wq hSq; (try dsimp only at hSq); go_simp); (try with_reducible rfl))
    try simp only [Act.put, List.setIfInBounds_toArray, List.set_cons_zero, List.set_cons_succ]
    refine wpAnyH_ready (rs := [0]) (by kernel_rfl) (by simp) ?_
    refine AllReadyH.cons (o := ?_) ?_ (fun K hK => ?_) AllReadyH.nil
    rotate_left
    · (simp only [List.getElem?_toArray, List.getElem?_cons_zero]; rfl)
    go_simp
    go_at_call 35
    refine (rwords_any _).mono ?_
    rintro e wx ⟨bw, rfl, hcw, hlw, hbw⟩
    have hSx := RgSt.below (w1 := w1) (n := n) (e := ⟨16, a, b, c, m⟩) hHeld hbw
    have hcw0 := hcw 16 ⟨#[98, 97, 99, 107]⟩ rfl
    refine hK.out _ _ hSx (fun hHeld => ?_)
    clear hK K
    try simp only [Act.put, List.setIfInBounds_toArray, List.set_cons_zero, List.set_cons_succ]
    have hSy : (RgSt w1 n ⟨16, a, b, c, m⟩ _) ∧ _ := ⟨hHeld, hcw0⟩
    refine wpAnyH_strong (S' := fun w' => (Below w1.heap.size w1 w' ∧ InBox w' n ⟨16, a, b, c, m⟩ ∧ w'.cell? ⟨n, 0, none⟩ = some (.int .i64 16)) ∧ w'.cell? ⟨bw, 16, none⟩ = some (.string ⟨#[98, 97, 99, 107]⟩)) (fun w h => h.1) _ _ _ _ ?_
    refine wpAnyH_take (i := 3) (oi := ?_) (v := ?_) ?_ (by kernel_rfl) (by kernel_rfl) (by kernel_rfl) ?_ (Or.inl ⟨?_, ?_⟩) (by assumption) ?_
    rotate_left 2
    · (simp only [List.getElem?_toArray, List.getElem?_cons_succ, List.getElem?_cons_zero]; rfl)
    · first | exact fun _ _ _ h => h | exact fun _ _ _ h => by cases h.1
    · rfl
    · ((intro wq hSq; (try dsimp only at hSq); go_simp); (try with_reducible rfl))
    try simp only [Act.put, List.setIfInBounds_toArray, List.set_cons_zero, List.set_cons_succ]
    refine wpAnyH_take (i := 4) (oi := ?_) (v := ?_) ?_ (by kernel_rfl) (by kernel_rfl) (by kernel_rfl) ?_ (Or.inl ⟨?_, ?_⟩) (by assumption) ?_
    rotate_left 2
    · (simp only [List.getElem?_toArray, List.getElem?_cons_succ, List.getElem?_cons_zero]; rfl)
    · first | exact fun _ _ _ h => h | exact fun _ _ _ h => by cases h.1
    · rfl
    · ((intro wq hSq; (try dsimp only at hSq); go_simp); (try with_reducible rfl))
    try simp only [Act.put, List.setIfInBounds_toArray, List.set_cons_zero, List.set_cons_succ]
    refine wpAnyH_take (i := 5) (oi := ?_) (v := ?_) ?_ (by kernel_rfl) (by kernel_rfl) (by kernel_rfl) ?_ (Or.inl ⟨?_, ?_⟩) (by assumption) ?_
    rotate_left 2
    · (simp only [List.getElem?_toArray, List.getElem?_cons_succ, List.getElem?_cons_zero]; rfl)
    · first | exact fun _ _ _ h => h | exact fun _ _ _ h => by cases h.1
    · rfl
    · ((intro wq hSq; (try dsimp only at hSq); go_simp); (try with_reducible rfl))
    try simp only [Act.put, List.setIfInBounds_toArray, List.set_cons_zero, List.set_cons_succ]
    refine wpAnyH_done (by kernel_rfl) ?_ _
    exact ⟨rfl, bw, rfl, hHeld.1, hHeld.2.1⟩
  rintro bw w2 ⟨hb2, hbx2⟩
  dsimp only
  clear c0 c1 c2 c3 c4
  obtain ⟨c0, c1, c2, c3, c4⟩ := hbx2.cells
  have hBf : Below n w w2 := by rw [← hn]; exact hB1.trans (hb2.mono hB1.size)
  have hBf' := Lib.hid hBf
  clear hB1 hb2 hbx hbx2 hBf
  go_wp2_with fail
  have hSd : RlSt w2 n a b c m w2.drew := RlSt.drew ⟨Below.refl _ _, c1, c2, c3, c4⟩
  go_region_held3 (fun w' => Below w2.heap.size w2 w' ∧ w'.cell? ⟨n, 1, none⟩ = some (.int .i64 a) ∧ w'.cell? ⟨n, 2, none⟩ = some (.int .i64 b) ∧ w'.cell? ⟨n, 3, none⟩ = some (.int .i64 c) ∧ w'.cell? ⟨n, 4, none⟩ = some (.int .u32 m))
    (first | exact hSd | assumption)
    (first
      | (go_at_call 36; refine (rpart_any _ _ _ (by simp) (by omega)).mono ?_; rintro e wx ⟨rfl, hbx⟩; have hSx := RlSt.below (w2 := w2) (n := n) (a := a) (b := b) (c := c) (m := m) (by assumption) hbx))
  all_goals
    go_wp2_with fail
    go_ret
    exact ⟨rfl, by first | exact hBf'.out.trans (hSx.1.mono (by have := hBf'.out.size; omega)) | (rw [hn]; exact hBf'.out.trans (hSx.1.mono (by have := hBf'.out.size; omega)))⟩

end Go.Proofs.YtkcdmonmgnmojaaDoor
