/- Texts joined: The reference's Line, kind for kind. The reference's Line, kind for kind. The reference's Line, kind for kind. The reference's Line. trace.Print, and the reference's: events' text. The reference's numbers in digits: Num, Digits. Sources, the reference's: numbers in digits. Sources, the reference's: a task's first line. -/
import Derived.Test.YtfgmebjbibbpdaaGreatDoorZs4
import Derived.Test.YtfgmebjbibbpdaaGreatDoorZs1
import Derived.Test.YtfgmebjbibbpdaaGreatDoorZs2
import Derived.Lib.Hide
import Derived.Deep.QuietTactic
import Derived.BigQuiet
import Derived.Laws.IdiomStrings
import Derived.IntWalk
import Derived.OpenShut
import Derived.Below
import Derived.Deep.RegionWith
import Derived.Lib.ConvBytes
namespace Go.Proofs.YtfgmebjbibbpdaaGreatDoor
open Go.RowKit

set_option maxRecDepth 100000 in
set_option maxHeartbeats 4000000 in
theorem rline_3 (a b c m : Int) (w : World) (ha : 0 ≤ a ∧ a < 256) (hb : 0 ≤ b ∧ b < 256) (hc : 0 ≤ c ∧ c < 256) (hm : 0 ≤ m ∧ m < 4294967296) :
    Calls Tryz.prog 38 #[.agg #[.int .i64 3, .int .i64 a, .int .i64 b, .int .i64 c, .int .u32 m]] w fun r w' => r = .returned (.string (rlineS ⟨3, a, b, c, m⟩)) ∧ Below w.heap.size w w' := by
  have hew : IntKind.i64.wrap m = m := by simp [IntKind.wrap, IntKind.signed, IntKind.bits]; omega
  have hs1 := partR_size (l := [114]) (z := a) (by simp) (by omega)
  have hs2 := partR_size (l := [114]) (z := b) (by simp) (by omega)
  have hs3 := partR_size (l := [114]) (z := c) (by simp) (by omega)
  have heq : rlineS ⟨3, a, b, c, m⟩ = ((((⟨#[97, 100, 100]⟩ : ByteArray) ++ partR [114] a) ++ partR [114] b) ++ partR [114] c) := by
    refine ByteArray.ext ?_
    simp [rlineS, shOf, shs, opsL, partR, partL]
  rw [heq]
  clear heq
  have q1 : ¬ 9223372036854775807 < 3 + (partR [114] a).size := by omega
  have q2 : ¬ 9223372036854775807 < 3 + (partR [114] a).size + (partR [114] b).size := by omega
  have q3 : ¬ 9223372036854775807 < 3 + (partR [114] a).size + (partR [114] b).size + (partR [114] c).size := by omega
  have hbx := InBox.new w ⟨3, a, b, c, m⟩
  simp only at hbx
  have hB1 := (Below.refl _ w).alloc (Nat.le_refl _) (.cells #[.int .i64 3, .int .i64 a, .int .i64 b, .int .i64 c, .int .u32 m] 73)
  have hbx' := Lib.hid hbx
  have hB1' := Lib.hid hB1
  clear hbx hB1
  go_enter Tryz.func38, Tryz.ntmps38
  go_wp2_with fail
  have hbx := hbx'.out
  have hB1 := hB1'.out
  obtain ⟨w1, hw1⟩ : ∃ x, w.alloc (.cells #[.int .i64 3, .int .i64 a, .int .i64 b, .int .i64 c, .int .u32 m] 73) = x := ⟨_, rfl⟩
  obtain ⟨n, hn⟩ : ∃ n, w.heap.size = n := ⟨_, rfl⟩
  rw [hw1] at hbx hB1 ⊢
  rw [hn] at hbx
  simp only [hn]
  clear hw1 hbx' hB1'
  obtain ⟨c0, c1, c2, c3, c4⟩ := hbx.cells
  refine region_to (fun bw => { tmps := #[.agg #[.int .i64 3, .int .i64 a, .int .i64 b, .int .i64 c, .int .u32 m], .pointer (some ⟨n, 0, none⟩), .string ⟨#[]⟩, .string ⟨#[97, 100, 100]⟩, undef, .slice (some ⟨bw, 0, none⟩) 22 22, .pointer (some ⟨n, 0, none⟩), .int .i64 3, .pointer (some ⟨bw, 3, none⟩), .string ⟨#[97, 100, 100]⟩, undef, undef, undef, undef, undef, undef, undef, undef, undef, undef, undef, undef, undef, undef, undef, undef, undef, undef, undef, undef, undef, undef, undef, undef, undef, undef, undef, undef, undef, undef, undef, undef, undef, undef, undef, undef, undef, undef, undef, undef, undef, undef, undef, undef, undef, undef, undef, undef, undef, undef, undef, undef, undef, undef, undef, undef, undef, undef, undef, undef, undef, undef, undef, undef, undef, undef, undef, undef, undef, undef, undef, undef, undef, undef, undef, undef, undef, undef, undef, undef, undef, undef, undef, undef, undef, undef, undef, undef, undef, undef, undef, undef, undef, undef, undef, undef, undef, undef, undef, undef, undef, undef, undef, undef, undef, undef, undef, undef, undef, undef, undef, undef, undef, undef, undef, undef], defers := [] }) (fun bw w' => Below w1.heap.size w1 w' ∧ InBox w' n ⟨3, a, b, c, m⟩) ?reg ?cont
  case reg =>
    refine wp_region_held_drew (S := fun w' => Below w1.heap.size w1 w' ∧ InBox w' n ⟨3, a, b, c, m⟩ ∧ w'.cell? ⟨n, 0, none⟩ = some (.int .i64 3)) (by kernel_rfl) (⟨(Below.refl _ w1).drew, hbx, c0⟩ : RgSt w1 n ⟨3, a, b, c, m⟩ w1.drew) (fun hHeld => ?_)
    generalize w1.drew = wd at hHeld ⊢
    refine tkH 1 ?_
    try first | simp only [pS, List.set] | simp only [pN]
    refine tkH 2 ?_
    try first | simp only [pS, List.set] | simp only [pN]
    refine wpAnyH_ready (rs := [0]) (by kernel_rfl) (by simp) ?_
    refine AllReadyH.cons (o := ?_) ?_ (fun K hK => ?_) AllReadyH.nil
    rotate_left
    · (simp only [List.getElem?_toArray, List.getElem?_cons_zero]; rfl)
    go_simp
    go_at_call 48
    refine (rwords_any _).mono ?_
    rintro e wx ⟨bw, rfl, hcw, hlw, hbw⟩
    have hSx := RgSt.below (w1 := w1) (n := n) (e := ⟨3, a, b, c, m⟩) hHeld hbw
    have hcw0 := hcw 3 ⟨#[97, 100, 100]⟩ rfl
    refine hK.out _ _ hSx (fun hHeld => ?_)
    clear hK K
    try first | simp only [pS, List.set] | simp only [pN]
    have hSy : (RgSt w1 n ⟨3, a, b, c, m⟩ _) ∧ _ := ⟨hHeld, hcw0⟩
    refine wpAnyH_strong (S' := fun w' => (Below w1.heap.size w1 w' ∧ InBox w' n ⟨3, a, b, c, m⟩ ∧ w'.cell? ⟨n, 0, none⟩ = some (.int .i64 3)) ∧ w'.cell? ⟨bw, 3, none⟩ = some (.string ⟨#[97, 100, 100]⟩)) (fun w h => h.1) _ _ _ _ ?_
    refine tkH 3 ?_
    try first | simp only [pS, List.set] | simp only [pN]
    refine tkH 4 ?_
    try first | simp only [pS, List.set] | simp only [pN]
    refine tkH 5 ?_
    try first | simp only [pS, List.set] | simp only [pN]
    refine wpAnyH_done (by kernel_rfl) ?_ _
    exact ⟨rfl, bw, rfl, hHeld.1, hHeld.2.1⟩
  rintro bw w2 ⟨hb2, hbx2⟩
  dsimp only
  clear c0 c1 c2 c3 c4
  obtain ⟨c0, c1, c2, c3, c4⟩ := hbx2.cells
  have hBf : Below n w w2 := by rw [← hn]; exact hB1.trans (hb2.mono hB1.size)
  have hBf' := Lib.hid hBf
  clear hB1 hb2 hbx hbx2 hBf
  go_wp2_with fail
  have hSd : RlSt w2 n a b c m w2.drew := RlSt.drew ⟨Below.refl _ _, c1, c2, c3, c4⟩
  go_region_held3 (fun w' => Below w2.heap.size w2 w' ∧ w'.cell? ⟨n, 1, none⟩ = some (.int .i64 a) ∧ w'.cell? ⟨n, 2, none⟩ = some (.int .i64 b) ∧ w'.cell? ⟨n, 3, none⟩ = some (.int .i64 c) ∧ w'.cell? ⟨n, 4, none⟩ = some (.int .u32 m))
    (first | exact hSd | assumption)
    (first
      | (go_at_call 66; refine (rpart_any _ _ _ (by simp) (by omega)).mono ?_; rintro e wx ⟨rfl, hbx⟩; have hSx := RlSt.below (w2 := w2) (n := n) (a := a) (b := b) (c := c) (m := m) (by assumption) hbx))
  all_goals
    go_wp2_with fail
    go_ret
    exact ⟨rfl, by first | exact hBf'.out.trans (hSx.1.mono (by have := hBf'.out.size; omega)) | (rw [hn]; exact hBf'.out.trans (hSx.1.mono (by have := hBf'.out.size; omega)))⟩

set_option maxRecDepth 100000 in
set_option maxHeartbeats 4000000 in
theorem rline_4 (a b c m : Int) (w : World) (ha : 0 ≤ a ∧ a < 256) (hb : 0 ≤ b ∧ b < 256) (hc : 0 ≤ c ∧ c < 256) (hm : 0 ≤ m ∧ m < 4294967296) :
    Calls Tryz.prog 38 #[.agg #[.int .i64 4, .int .i64 a, .int .i64 b, .int .i64 c, .int .u32 m]] w fun r w' => r = .returned (.string (rlineS ⟨4, a, b, c, m⟩)) ∧ Below w.heap.size w w' := by
  have hew : IntKind.i64.wrap m = m := by simp [IntKind.wrap, IntKind.signed, IntKind.bits]; omega
  have hs1 := partR_size (l := [114]) (z := a) (by simp) (by omega)
  have hs2 := partR_size (l := [114]) (z := b) (by simp) (by omega)
  have hs3 := partR_size (l := [114]) (z := c) (by simp) (by omega)
  have heq : rlineS ⟨4, a, b, c, m⟩ = ((((⟨#[115, 117, 98]⟩ : ByteArray) ++ partR [114] a) ++ partR [114] b) ++ partR [114] c) := by
    refine ByteArray.ext ?_
    simp [rlineS, shOf, shs, opsL, partR, partL]
  rw [heq]
  clear heq
  have q1 : ¬ 9223372036854775807 < 3 + (partR [114] a).size := by omega
  have q2 : ¬ 9223372036854775807 < 3 + (partR [114] a).size + (partR [114] b).size := by omega
  have q3 : ¬ 9223372036854775807 < 3 + (partR [114] a).size + (partR [114] b).size + (partR [114] c).size := by omega
  have hbx := InBox.new w ⟨4, a, b, c, m⟩
  simp only at hbx
  have hB1 := (Below.refl _ w).alloc (Nat.le_refl _) (.cells #[.int .i64 4, .int .i64 a, .int .i64 b, .int .i64 c, .int .u32 m] 73)
  have hbx' := Lib.hid hbx
  have hB1' := Lib.hid hB1
  clear hbx hB1
  go_enter Tryz.func38, Tryz.ntmps38
  go_wp2_with fail
  have hbx := hbx'.out
  have hB1 := hB1'.out
  obtain ⟨w1, hw1⟩ : ∃ x, w.alloc (.cells #[.int .i64 4, .int .i64 a, .int .i64 b, .int .i64 c, .int .u32 m] 73) = x := ⟨_, rfl⟩
  obtain ⟨n, hn⟩ : ∃ n, w.heap.size = n := ⟨_, rfl⟩
  rw [hw1] at hbx hB1 ⊢
  rw [hn] at hbx
  simp only [hn]
  clear hw1 hbx' hB1'
  obtain ⟨c0, c1, c2, c3, c4⟩ := hbx.cells
  refine region_to (fun bw => { tmps := #[.agg #[.int .i64 4, .int .i64 a, .int .i64 b, .int .i64 c, .int .u32 m], .pointer (some ⟨n, 0, none⟩), .string ⟨#[]⟩, .string ⟨#[115, 117, 98]⟩, undef, .slice (some ⟨bw, 0, none⟩) 22 22, .pointer (some ⟨n, 0, none⟩), .int .i64 4, .pointer (some ⟨bw, 4, none⟩), .string ⟨#[115, 117, 98]⟩, undef, undef, undef, undef, undef, undef, undef, undef, undef, undef, undef, undef, undef, undef, undef, undef, undef, undef, undef, undef, undef, undef, undef, undef, undef, undef, undef, undef, undef, undef, undef, undef, undef, undef, undef, undef, undef, undef, undef, undef, undef, undef, undef, undef, undef, undef, undef, undef, undef, undef, undef, undef, undef, undef, undef, undef, undef, undef, undef, undef, undef, undef, undef, undef, undef, undef, undef, undef, undef, undef, undef, undef, undef, undef, undef, undef, undef, undef, undef, undef, undef, undef, undef, undef, undef, undef, undef, undef, undef, undef, undef, undef, undef, undef, undef, undef, undef, undef, undef, undef, undef, undef, undef, undef, undef, undef, undef, undef, undef, undef, undef, undef, undef, undef, undef, undef], defers := [] }) (fun bw w' => Below w1.heap.size w1 w' ∧ InBox w' n ⟨4, a, b, c, m⟩) ?reg ?cont
  case reg =>
    refine wp_region_held_drew (S := fun w' => Below w1.heap.size w1 w' ∧ InBox w' n ⟨4, a, b, c, m⟩ ∧ w'.cell? ⟨n, 0, none⟩ = some (.int .i64 4)) (by kernel_rfl) (⟨(Below.refl _ w1).drew, hbx, c0⟩ : RgSt w1 n ⟨4, a, b, c, m⟩ w1.drew) (fun hHeld => ?_)
    generalize w1.drew = wd at hHeld ⊢
    refine tkH 1 ?_
    try first | simp only [pS, List.set] | simp only [pN]
    refine tkH 2 ?_
    try first | simp only [pS, List.set] | simp only [pN]
    refine wpAnyH_ready (rs := [0]) (by kernel_rfl) (by simp) ?_
    refine AllReadyH.cons (o := ?_) ?_ (fun K hK => ?_) AllReadyH.nil
    rotate_left
    · (simp only [List.getElem?_toArray, List.getElem?_cons_zero]; rfl)
    go_simp
    go_at_call 48
    refine (rwords_any _).mono ?_
    rintro e wx ⟨bw, rfl, hcw, hlw, hbw⟩
    have hSx := RgSt.below (w1 := w1) (n := n) (e := ⟨4, a, b, c, m⟩) hHeld hbw
    have hcw0 := hcw 4 ⟨#[115, 117, 98]⟩ rfl
    refine hK.out _ _ hSx (fun hHeld => ?_)
    clear hK K
    try first | simp only [pS, List.set] | simp only [pN]
    have hSy : (RgSt w1 n ⟨4, a, b, c, m⟩ _) ∧ _ := ⟨hHeld, hcw0⟩
    refine wpAnyH_strong (S' := fun w' => (Below w1.heap.size w1 w' ∧ InBox w' n ⟨4, a, b, c, m⟩ ∧ w'.cell? ⟨n, 0, none⟩ = some (.int .i64 4)) ∧ w'.cell? ⟨bw, 4, none⟩ = some (.string ⟨#[115, 117, 98]⟩)) (fun w h => h.1) _ _ _ _ ?_
    refine tkH 3 ?_
    try first | simp only [pS, List.set] | simp only [pN]
    refine tkH 4 ?_
    try first | simp only [pS, List.set] | simp only [pN]
    refine tkH 5 ?_
    try first | simp only [pS, List.set] | simp only [pN]
    refine wpAnyH_done (by kernel_rfl) ?_ _
    exact ⟨rfl, bw, rfl, hHeld.1, hHeld.2.1⟩
  rintro bw w2 ⟨hb2, hbx2⟩
  dsimp only
  clear c0 c1 c2 c3 c4
  obtain ⟨c0, c1, c2, c3, c4⟩ := hbx2.cells
  have hBf : Below n w w2 := by rw [← hn]; exact hB1.trans (hb2.mono hB1.size)
  have hBf' := Lib.hid hBf
  clear hB1 hb2 hbx hbx2 hBf
  go_wp2_with fail
  have hSd : RlSt w2 n a b c m w2.drew := RlSt.drew ⟨Below.refl _ _, c1, c2, c3, c4⟩
  go_region_held3 (fun w' => Below w2.heap.size w2 w' ∧ w'.cell? ⟨n, 1, none⟩ = some (.int .i64 a) ∧ w'.cell? ⟨n, 2, none⟩ = some (.int .i64 b) ∧ w'.cell? ⟨n, 3, none⟩ = some (.int .i64 c) ∧ w'.cell? ⟨n, 4, none⟩ = some (.int .u32 m))
    (first | exact hSd | assumption)
    (first
      | (go_at_call 66; refine (rpart_any _ _ _ (by simp) (by omega)).mono ?_; rintro e wx ⟨rfl, hbx⟩; have hSx := RlSt.below (w2 := w2) (n := n) (a := a) (b := b) (c := c) (m := m) (by assumption) hbx))
  all_goals
    go_wp2_with fail
    go_ret
    exact ⟨rfl, by first | exact hBf'.out.trans (hSx.1.mono (by have := hBf'.out.size; omega)) | (rw [hn]; exact hBf'.out.trans (hSx.1.mono (by have := hBf'.out.size; omega)))⟩

set_option maxRecDepth 100000 in
set_option maxHeartbeats 4000000 in
theorem rline_5 (a b c m : Int) (w : World) (ha : 0 ≤ a ∧ a < 256) (hb : 0 ≤ b ∧ b < 256) (hc : 0 ≤ c ∧ c < 256) (hm : 0 ≤ m ∧ m < 4294967296) :
    Calls Tryz.prog 38 #[.agg #[.int .i64 5, .int .i64 a, .int .i64 b, .int .i64 c, .int .u32 m]] w fun r w' => r = .returned (.string (rlineS ⟨5, a, b, c, m⟩)) ∧ Below w.heap.size w w' := by
  have hew : IntKind.i64.wrap m = m := by simp [IntKind.wrap, IntKind.signed, IntKind.bits]; omega
  have hs1 := partR_size (l := [114]) (z := a) (by simp) (by omega)
  have hs2 := partR_size (l := [114]) (z := b) (by simp) (by omega)
  have hs3 := partR_size (l := [114]) (z := c) (by simp) (by omega)
  have heq : rlineS ⟨5, a, b, c, m⟩ = ((((⟨#[109, 117, 108]⟩ : ByteArray) ++ partR [114] a) ++ partR [114] b) ++ partR [114] c) := by
    refine ByteArray.ext ?_
    simp [rlineS, shOf, shs, opsL, partR, partL]
  rw [heq]
  clear heq
  have q1 : ¬ 9223372036854775807 < 3 + (partR [114] a).size := by omega
  have q2 : ¬ 9223372036854775807 < 3 + (partR [114] a).size + (partR [114] b).size := by omega
  have q3 : ¬ 9223372036854775807 < 3 + (partR [114] a).size + (partR [114] b).size + (partR [114] c).size := by omega
  have hbx := InBox.new w ⟨5, a, b, c, m⟩
  simp only at hbx
  have hB1 := (Below.refl _ w).alloc (Nat.le_refl _) (.cells #[.int .i64 5, .int .i64 a, .int .i64 b, .int .i64 c, .int .u32 m] 73)
  have hbx' := Lib.hid hbx
  have hB1' := Lib.hid hB1
  clear hbx hB1
  go_enter Tryz.func38, Tryz.ntmps38
  go_wp2_with fail
  have hbx := hbx'.out
  have hB1 := hB1'.out
  obtain ⟨w1, hw1⟩ : ∃ x, w.alloc (.cells #[.int .i64 5, .int .i64 a, .int .i64 b, .int .i64 c, .int .u32 m] 73) = x := ⟨_, rfl⟩
  obtain ⟨n, hn⟩ : ∃ n, w.heap.size = n := ⟨_, rfl⟩
  rw [hw1] at hbx hB1 ⊢
  rw [hn] at hbx
  simp only [hn]
  clear hw1 hbx' hB1'
  obtain ⟨c0, c1, c2, c3, c4⟩ := hbx.cells
  refine region_to (fun bw => { tmps := #[.agg #[.int .i64 5, .int .i64 a, .int .i64 b, .int .i64 c, .int .u32 m], .pointer (some ⟨n, 0, none⟩), .string ⟨#[]⟩, .string ⟨#[109, 117, 108]⟩, undef, .slice (some ⟨bw, 0, none⟩) 22 22, .pointer (some ⟨n, 0, none⟩), .int .i64 5, .pointer (some ⟨bw, 5, none⟩), .string ⟨#[109, 117, 108]⟩, undef, undef, undef, undef, undef, undef, undef, undef, undef, undef, undef, undef, undef, undef, undef, undef, undef, undef, undef, undef, undef, undef, undef, undef, undef, undef, undef, undef, undef, undef, undef, undef, undef, undef, undef, undef, undef, undef, undef, undef, undef, undef, undef, undef, undef, undef, undef, undef, undef, undef, undef, undef, undef, undef, undef, undef, undef, undef, undef, undef, undef, undef, undef, undef, undef, undef, undef, undef, undef, undef, undef, undef, undef, undef, undef, undef, undef, undef, undef, undef, undef, undef, undef, undef, undef, undef, undef, undef, undef, undef, undef, undef, undef, undef, undef, undef, undef, undef, undef, undef, undef, undef, undef, undef, undef, undef, undef, undef, undef, undef, undef, undef, undef, undef, undef, undef], defers := [] }) (fun bw w' => Below w1.heap.size w1 w' ∧ InBox w' n ⟨5, a, b, c, m⟩) ?reg ?cont
  case reg =>
    refine wp_region_held_drew (S := fun w' => Below w1.heap.size w1 w' ∧ InBox w' n ⟨5, a, b, c, m⟩ ∧ w'.cell? ⟨n, 0, none⟩ = some (.int .i64 5)) (by kernel_rfl) (⟨(Below.refl _ w1).drew, hbx, c0⟩ : RgSt w1 n ⟨5, a, b, c, m⟩ w1.drew) (fun hHeld => ?_)
    generalize w1.drew = wd at hHeld ⊢
    refine tkH 1 ?_
    try first | simp only [pS, List.set] | simp only [pN]
    refine tkH 2 ?_
    try first | simp only [pS, List.set] | simp only [pN]
    refine wpAnyH_ready (rs := [0]) (by kernel_rfl) (by simp) ?_
    refine AllReadyH.cons (o := ?_) ?_ (fun K hK => ?_) AllReadyH.nil
    rotate_left
    · (simp only [List.getElem?_toArray, List.getElem?_cons_zero]; rfl)
    go_simp
    go_at_call 48
    refine (rwords_any _).mono ?_
    rintro e wx ⟨bw, rfl, hcw, hlw, hbw⟩
    have hSx := RgSt.below (w1 := w1) (n := n) (e := ⟨5, a, b, c, m⟩) hHeld hbw
    have hcw0 := hcw 5 ⟨#[109, 117, 108]⟩ rfl
    refine hK.out _ _ hSx (fun hHeld => ?_)
    clear hK K
    try first | simp only [pS, List.set] | simp only [pN]
    have hSy : (RgSt w1 n ⟨5, a, b, c, m⟩ _) ∧ _ := ⟨hHeld, hcw0⟩
    refine wpAnyH_strong (S' := fun w' => (Below w1.heap.size w1 w' ∧ InBox w' n ⟨5, a, b, c, m⟩ ∧ w'.cell? ⟨n, 0, none⟩ = some (.int .i64 5)) ∧ w'.cell? ⟨bw, 5, none⟩ = some (.string ⟨#[109, 117, 108]⟩)) (fun w h => h.1) _ _ _ _ ?_
    refine tkH 3 ?_
    try first | simp only [pS, List.set] | simp only [pN]
    refine tkH 4 ?_
    try first | simp only [pS, List.set] | simp only [pN]
    refine tkH 5 ?_
    try first | simp only [pS, List.set] | simp only [pN]
    refine wpAnyH_done (by kernel_rfl) ?_ _
    exact ⟨rfl, bw, rfl, hHeld.1, hHeld.2.1⟩
  rintro bw w2 ⟨hb2, hbx2⟩
  dsimp only
  clear c0 c1 c2 c3 c4
  obtain ⟨c0, c1, c2, c3, c4⟩ := hbx2.cells
  have hBf : Below n w w2 := by rw [← hn]; exact hB1.trans (hb2.mono hB1.size)
  have hBf' := Lib.hid hBf
  clear hB1 hb2 hbx hbx2 hBf
  go_wp2_with fail
  have hSd : RlSt w2 n a b c m w2.drew := RlSt.drew ⟨Below.refl _ _, c1, c2, c3, c4⟩
  go_region_held3 (fun w' => Below w2.heap.size w2 w' ∧ w'.cell? ⟨n, 1, none⟩ = some (.int .i64 a) ∧ w'.cell? ⟨n, 2, none⟩ = some (.int .i64 b) ∧ w'.cell? ⟨n, 3, none⟩ = some (.int .i64 c) ∧ w'.cell? ⟨n, 4, none⟩ = some (.int .u32 m))
    (first | exact hSd | assumption)
    (first
      | (go_at_call 66; refine (rpart_any _ _ _ (by simp) (by omega)).mono ?_; rintro e wx ⟨rfl, hbx⟩; have hSx := RlSt.below (w2 := w2) (n := n) (a := a) (b := b) (c := c) (m := m) (by assumption) hbx))
  all_goals
    go_wp2_with fail
    go_ret
    exact ⟨rfl, by first | exact hBf'.out.trans (hSx.1.mono (by have := hBf'.out.size; omega)) | (rw [hn]; exact hBf'.out.trans (hSx.1.mono (by have := hBf'.out.size; omega)))⟩

set_option maxRecDepth 100000 in
set_option maxHeartbeats 4000000 in
theorem rline_6 (a b c m : Int) (w : World) (ha : 0 ≤ a ∧ a < 256) (hb : 0 ≤ b ∧ b < 256) (hc : 0 ≤ c ∧ c < 256) (hm : 0 ≤ m ∧ m < 4294967296) :
    Calls Tryz.prog 38 #[.agg #[.int .i64 6, .int .i64 a, .int .i64 b, .int .i64 c, .int .u32 m]] w fun r w' => r = .returned (.string (rlineS ⟨6, a, b, c, m⟩)) ∧ Below w.heap.size w w' := by
  have hew : IntKind.i64.wrap m = m := by simp [IntKind.wrap, IntKind.signed, IntKind.bits]; omega
  have hs1 := partR_size (l := [114]) (z := a) (by simp) (by omega)
  have hs2 := partR_size (l := [114]) (z := b) (by simp) (by omega)
  have hs3 := partR_size (l := [114]) (z := c) (by simp) (by omega)
  have heq : rlineS ⟨6, a, b, c, m⟩ = ((((⟨#[97, 110, 100]⟩ : ByteArray) ++ partR [114] a) ++ partR [114] b) ++ partR [114] c) := by
    refine ByteArray.ext ?_
    simp [rlineS, shOf, shs, opsL, partR, partL]
  rw [heq]
  clear heq
  have q1 : ¬ 9223372036854775807 < 3 + (partR [114] a).size := by omega
  have q2 : ¬ 9223372036854775807 < 3 + (partR [114] a).size + (partR [114] b).size := by omega
  have q3 : ¬ 9223372036854775807 < 3 + (partR [114] a).size + (partR [114] b).size + (partR [114] c).size := by omega
  have hbx := InBox.new w ⟨6, a, b, c, m⟩
  simp only at hbx
  have hB1 := (Below.refl _ w).alloc (Nat.le_refl _) (.cells #[.int .i64 6, .int .i64 a, .int .i64 b, .int .i64 c, .int .u32 m] 73)
  have hbx' := Lib.hid hbx
  have hB1' := Lib.hid hB1
  clear hbx hB1
  go_enter Tryz.func38, Tryz.ntmps38
  go_wp2_with fail
  have hbx := hbx'.out
  have hB1 := hB1'.out
  obtain ⟨w1, hw1⟩ : ∃ x, w.alloc (.cells #[.int .i64 6, .int .i64 a, .int .i64 b, .int .i64 c, .int .u32 m] 73) = x := ⟨_, rfl⟩
  obtain ⟨n, hn⟩ : ∃ n, w.heap.size = n := ⟨_, rfl⟩
  rw [hw1] at hbx hB1 ⊢
  rw [hn] at hbx
  simp only [hn]
  clear hw1 hbx' hB1'
  obtain ⟨c0, c1, c2, c3, c4⟩ := hbx.cells
  refine region_to (fun bw => { tmps := #[.agg #[.int .i64 6, .int .i64 a, .int .i64 b, .int .i64 c, .int .u32 m], .pointer (some ⟨n, 0, none⟩), .string ⟨#[]⟩, .string ⟨#[97, 110, 100]⟩, undef, .slice (some ⟨bw, 0, none⟩) 22 22, .pointer (some ⟨n, 0, none⟩), .int .i64 6, .pointer (some ⟨bw, 6, none⟩), .string ⟨#[97, 110, 100]⟩, undef, undef, undef, undef, undef, undef, undef, undef, undef, undef, undef, undef, undef, undef, undef, undef, undef, undef, undef, undef, undef, undef, undef, undef, undef, undef, undef, undef, undef, undef, undef, undef, undef, undef, undef, undef, undef, undef, undef, undef, undef, undef, undef, undef, undef, undef, undef, undef, undef, undef, undef, undef, undef, undef, undef, undef, undef, undef, undef, undef, undef, undef, undef, undef, undef, undef, undef, undef, undef, undef, undef, undef, undef, undef, undef, undef, undef, undef, undef, undef, undef, undef, undef, undef, undef, undef, undef, undef, undef, undef, undef, undef, undef, undef, undef, undef, undef, undef, undef, undef, undef, undef, undef, undef, undef, undef, undef, undef, undef, undef, undef, undef, undef, undef, undef, undef], defers := [] }) (fun bw w' => Below w1.heap.size w1 w' ∧ InBox w' n ⟨6, a, b, c, m⟩) ?reg ?cont
  case reg =>
    refine wp_region_held_drew (S := fun w' => Below w1.heap.size w1 w' ∧ InBox w' n ⟨6, a, b, c, m⟩ ∧ w'.cell? ⟨n, 0, none⟩ = some (.int .i64 6)) (by kernel_rfl) (⟨(Below.refl _ w1).drew, hbx, c0⟩ : RgSt w1 n ⟨6, a, b, c, m⟩ w1.drew) (fun hHeld => ?_)
    generalize w1.drew = wd at hHeld ⊢
    refine tkH 1 ?_
    try first | simp only [pS, List.set] | simp only [pN]
    refine tkH 2 ?_
    try first | simp only [pS, List.set] | simp only [pN]
    refine wpAnyH_ready (rs := [0]) (by kernel_rfl) (by simp) ?_
    refine AllReadyH.cons (o := ?_) ?_ (fun K hK => ?_) AllReadyH.nil
    rotate_left
    · (simp only [List.getElem?_toArray, List.getElem?_cons_zero]; rfl)
    go_simp
    go_at_call 48
    refine (rwords_any _).mono ?_
    rintro e wx ⟨bw, rfl, hcw, hlw, hbw⟩
    have hSx := RgSt.below (w1 := w1) (n := n) (e := ⟨6, a, b, c, m⟩) hHeld hbw
    have hcw0 := hcw 6 ⟨#[97, 110, 100]⟩ rfl
    refine hK.out _ _ hSx (fun hHeld => ?_)
    clear hK K
    try first | simp only [pS, List.set] | simp only [pN]
    have hSy : (RgSt w1 n ⟨6, a, b, c, m⟩ _) ∧ _ := ⟨hHeld, hcw0⟩
    refine wpAnyH_strong (S' := fun w' => (Below w1.heap.size w1 w' ∧ InBox w' n ⟨6, a, b, c, m⟩ ∧ w'.cell? ⟨n, 0, none⟩ = some (.int .i64 6)) ∧ w'.cell? ⟨bw, 6, none⟩ = some (.string ⟨#[97, 110, 100]⟩)) (fun w h => h.1) _ _ _ _ ?_
    refine tkH 3 ?_
    try first | simp only [pS, List.set] | simp only [pN]
    refine tkH 4 ?_
    try first | simp only [pS, List.set] | simp only [pN]
    refine tkH 5 ?_
    try first | simp only [pS, List.set] | simp only [pN]
    refine wpAnyH_done (by kernel_rfl) ?_ _
    exact ⟨rfl, bw, rfl, hHeld.1, hHeld.2.1⟩
  rintro bw w2 ⟨hb2, hbx2⟩
  dsimp only
  clear c0 c1 c2 c3 c4
  obtain ⟨c0, c1, c2, c3, c4⟩ := hbx2.cells
  have hBf : Below n w w2 := by rw [← hn]; exact hB1.trans (hb2.mono hB1.size)
  have hBf' := Lib.hid hBf
  clear hB1 hb2 hbx hbx2 hBf
  go_wp2_with fail
  have hSd : RlSt w2 n a b c m w2.drew := RlSt.drew ⟨Below.refl _ _, c1, c2, c3, c4⟩
  go_region_held3 (fun w' => Below w2.heap.size w2 w' ∧ w'.cell? ⟨n, 1, none⟩ = some (.int .i64 a) ∧ w'.cell? ⟨n, 2, none⟩ = some (.int .i64 b) ∧ w'.cell? ⟨n, 3, none⟩ = some (.int .i64 c) ∧ w'.cell? ⟨n, 4, none⟩ = some (.int .u32 m))
    (first | exact hSd | assumption)
    (first
      | (go_at_call 66; refine (rpart_any _ _ _ (by simp) (by omega)).mono ?_; rintro e wx ⟨rfl, hbx⟩; have hSx := RlSt.below (w2 := w2) (n := n) (a := a) (b := b) (c := c) (m := m) (by assumption) hbx))
  all_goals
    go_wp2_with fail
    go_ret
    exact ⟨rfl, by first | exact hBf'.out.trans (hSx.1.mono (by have := hBf'.out.size; omega)) | (rw [hn]; exact hBf'.out.trans (hSx.1.mono (by have := hBf'.out.size; omega)))⟩

set_option maxRecDepth 100000 in
set_option maxHeartbeats 4000000 in
theorem rline_7 (a b c m : Int) (w : World) (ha : 0 ≤ a ∧ a < 256) (hb : 0 ≤ b ∧ b < 256) (hc : 0 ≤ c ∧ c < 256) (hm : 0 ≤ m ∧ m < 4294967296) :
    Calls Tryz.prog 38 #[.agg #[.int .i64 7, .int .i64 a, .int .i64 b, .int .i64 c, .int .u32 m]] w fun r w' => r = .returned (.string (rlineS ⟨7, a, b, c, m⟩)) ∧ Below w.heap.size w w' := by
  have hew : IntKind.i64.wrap m = m := by simp [IntKind.wrap, IntKind.signed, IntKind.bits]; omega
  have hs1 := partR_size (l := [114]) (z := a) (by simp) (by omega)
  have hs2 := partR_size (l := [114]) (z := b) (by simp) (by omega)
  have hs3 := partR_size (l := [114]) (z := c) (by simp) (by omega)
  have heq : rlineS ⟨7, a, b, c, m⟩ = ((((⟨#[111, 114]⟩ : ByteArray) ++ partR [114] a) ++ partR [114] b) ++ partR [114] c) := by
    refine ByteArray.ext ?_
    simp [rlineS, shOf, shs, opsL, partR, partL]
  rw [heq]
  clear heq
  have q1 : ¬ 9223372036854775807 < 2 + (partR [114] a).size := by omega
  have q2 : ¬ 9223372036854775807 < 2 + (partR [114] a).size + (partR [114] b).size := by omega
  have q3 : ¬ 9223372036854775807 < 2 + (partR [114] a).size + (partR [114] b).size + (partR [114] c).size := by omega
  have hbx := InBox.new w ⟨7, a, b, c, m⟩
  simp only at hbx
  have hB1 := (Below.refl _ w).alloc (Nat.le_refl _) (.cells #[.int .i64 7, .int .i64 a, .int .i64 b, .int .i64 c, .int .u32 m] 73)
  have hbx' := Lib.hid hbx
  have hB1' := Lib.hid hB1
  clear hbx hB1
  go_enter Tryz.func38, Tryz.ntmps38
  go_wp2_with fail
  have hbx := hbx'.out
  have hB1 := hB1'.out
  obtain ⟨w1, hw1⟩ : ∃ x, w.alloc (.cells #[.int .i64 7, .int .i64 a, .int .i64 b, .int .i64 c, .int .u32 m] 73) = x := ⟨_, rfl⟩
  obtain ⟨n, hn⟩ : ∃ n, w.heap.size = n := ⟨_, rfl⟩
  rw [hw1] at hbx hB1 ⊢
  rw [hn] at hbx
  simp only [hn]
  clear hw1 hbx' hB1'
  obtain ⟨c0, c1, c2, c3, c4⟩ := hbx.cells
  refine region_to (fun bw => { tmps := #[.agg #[.int .i64 7, .int .i64 a, .int .i64 b, .int .i64 c, .int .u32 m], .pointer (some ⟨n, 0, none⟩), .string ⟨#[]⟩, .string ⟨#[111, 114]⟩, undef, .slice (some ⟨bw, 0, none⟩) 22 22, .pointer (some ⟨n, 0, none⟩), .int .i64 7, .pointer (some ⟨bw, 7, none⟩), .string ⟨#[111, 114]⟩, undef, undef, undef, undef, undef, undef, undef, undef, undef, undef, undef, undef, undef, undef, undef, undef, undef, undef, undef, undef, undef, undef, undef, undef, undef, undef, undef, undef, undef, undef, undef, undef, undef, undef, undef, undef, undef, undef, undef, undef, undef, undef, undef, undef, undef, undef, undef, undef, undef, undef, undef, undef, undef, undef, undef, undef, undef, undef, undef, undef, undef, undef, undef, undef, undef, undef, undef, undef, undef, undef, undef, undef, undef, undef, undef, undef, undef, undef, undef, undef, undef, undef, undef, undef, undef, undef, undef, undef, undef, undef, undef, undef, undef, undef, undef, undef, undef, undef, undef, undef, undef, undef, undef, undef, undef, undef, undef, undef, undef, undef, undef, undef, undef, undef, undef, undef], defers := [] }) (fun bw w' => Below w1.heap.size w1 w' ∧ InBox w' n ⟨7, a, b, c, m⟩) ?reg ?cont
  case reg =>
    refine wp_region_held_drew (S := fun w' => Below w1.heap.size w1 w' ∧ InBox w' n ⟨7, a, b, c, m⟩ ∧ w'.cell? ⟨n, 0, none⟩ = some (.int .i64 7)) (by kernel_rfl) (⟨(Below.refl _ w1).drew, hbx, c0⟩ : RgSt w1 n ⟨7, a, b, c, m⟩ w1.drew) (fun hHeld => ?_)
    generalize w1.drew = wd at hHeld ⊢
    refine tkH 1 ?_
    try first | simp only [pS, List.set] | simp only [pN]
    refine tkH 2 ?_
    try first | simp only [pS, List.set] | simp only [pN]
    refine wpAnyH_ready (rs := [0]) (by kernel_rfl) (by simp) ?_
    refine AllReadyH.cons (o := ?_) ?_ (fun K hK => ?_) AllReadyH.nil
    rotate_left
    · (simp only [List.getElem?_toArray, List.getElem?_cons_zero]; rfl)
    go_simp
    go_at_call 48
    refine (rwords_any _).mono ?_
    rintro e wx ⟨bw, rfl, hcw, hlw, hbw⟩
    have hSx := RgSt.below (w1 := w1) (n := n) (e := ⟨7, a, b, c, m⟩) hHeld hbw
    have hcw0 := hcw 7 ⟨#[111, 114]⟩ rfl
    refine hK.out _ _ hSx (fun hHeld => ?_)
    clear hK K
    try first | simp only [pS, List.set] | simp only [pN]
    have hSy : (RgSt w1 n ⟨7, a, b, c, m⟩ _) ∧ _ := ⟨hHeld, hcw0⟩
    refine wpAnyH_strong (S' := fun w' => (Below w1.heap.size w1 w' ∧ InBox w' n ⟨7, a, b, c, m⟩ ∧ w'.cell? ⟨n, 0, none⟩ = some (.int .i64 7)) ∧ w'.cell? ⟨bw, 7, none⟩ = some (.string ⟨#[111, 114]⟩)) (fun w h => h.1) _ _ _ _ ?_
    refine tkH 3 ?_
    try first | simp only [pS, List.set] | simp only [pN]
    refine tkH 4 ?_
    try first | simp only [pS, List.set] | simp only [pN]
    refine tkH 5 ?_
    try first | simp only [pS, List.set] | simp only [pN]
    refine wpAnyH_done (by kernel_rfl) ?_ _
    exact ⟨rfl, bw, rfl, hHeld.1, hHeld.2.1⟩
  rintro bw w2 ⟨hb2, hbx2⟩
  dsimp only
  clear c0 c1 c2 c3 c4
  obtain ⟨c0, c1, c2, c3, c4⟩ := hbx2.cells
  have hBf : Below n w w2 := by rw [← hn]; exact hB1.trans (hb2.mono hB1.size)
  have hBf' := Lib.hid hBf
  clear hB1 hb2 hbx hbx2 hBf
  go_wp2_with fail
  have hSd : RlSt w2 n a b c m w2.drew := RlSt.drew ⟨Below.refl _ _, c1, c2, c3, c4⟩
  go_region_held3 (fun w' => Below w2.heap.size w2 w' ∧ w'.cell? ⟨n, 1, none⟩ = some (.int .i64 a) ∧ w'.cell? ⟨n, 2, none⟩ = some (.int .i64 b) ∧ w'.cell? ⟨n, 3, none⟩ = some (.int .i64 c) ∧ w'.cell? ⟨n, 4, none⟩ = some (.int .u32 m))
    (first | exact hSd | assumption)
    (first
      | (go_at_call 66; refine (rpart_any _ _ _ (by simp) (by omega)).mono ?_; rintro e wx ⟨rfl, hbx⟩; have hSx := RlSt.below (w2 := w2) (n := n) (a := a) (b := b) (c := c) (m := m) (by assumption) hbx))
  all_goals
    go_wp2_with fail
    go_ret
    exact ⟨rfl, by first | exact hBf'.out.trans (hSx.1.mono (by have := hBf'.out.size; omega)) | (rw [hn]; exact hBf'.out.trans (hSx.1.mono (by have := hBf'.out.size; omega)))⟩

end Go.Proofs.YtfgmebjbibbpdaaGreatDoor

namespace Go.Proofs.YtfgmebjbibbpdaaGreatDoor
open Go.RowKit

set_option maxRecDepth 100000 in
set_option maxHeartbeats 4000000 in
theorem rline_8 (a b c m : Int) (w : World) (ha : 0 ≤ a ∧ a < 256) (hb : 0 ≤ b ∧ b < 256) (hc : 0 ≤ c ∧ c < 256) (hm : 0 ≤ m ∧ m < 4294967296) :
    Calls Tryz.prog 38 #[.agg #[.int .i64 8, .int .i64 a, .int .i64 b, .int .i64 c, .int .u32 m]] w fun r w' => r = .returned (.string (rlineS ⟨8, a, b, c, m⟩)) ∧ Below w.heap.size w w' := by
  have hew : IntKind.i64.wrap m = m := by simp [IntKind.wrap, IntKind.signed, IntKind.bits]; omega
  have hs1 := partR_size (l := [114]) (z := a) (by simp) (by omega)
  have hs2 := partR_size (l := [114]) (z := b) (by simp) (by omega)
  have hs3 := partR_size (l := [114]) (z := c) (by simp) (by omega)
  have heq : rlineS ⟨8, a, b, c, m⟩ = ((((⟨#[120, 111, 114]⟩ : ByteArray) ++ partR [114] a) ++ partR [114] b) ++ partR [114] c) := by
    refine ByteArray.ext ?_
    simp [rlineS, shOf, shs, opsL, partR, partL]
  rw [heq]
  clear heq
  have q1 : ¬ 9223372036854775807 < 3 + (partR [114] a).size := by omega
  have q2 : ¬ 9223372036854775807 < 3 + (partR [114] a).size + (partR [114] b).size := by omega
  have q3 : ¬ 9223372036854775807 < 3 + (partR [114] a).size + (partR [114] b).size + (partR [114] c).size := by omega
  have hbx := InBox.new w ⟨8, a, b, c, m⟩
  simp only at hbx
  have hB1 := (Below.refl _ w).alloc (Nat.le_refl _) (.cells #[.int .i64 8, .int .i64 a, .int .i64 b, .int .i64 c, .int .u32 m] 73)
  have hbx' := Lib.hid hbx
  have hB1' := Lib.hid hB1
  clear hbx hB1
  go_enter Tryz.func38, Tryz.ntmps38
  go_wp2_with fail
  have hbx := hbx'.out
  have hB1 := hB1'.out
  obtain ⟨w1, hw1⟩ : ∃ x, w.alloc (.cells #[.int .i64 8, .int .i64 a, .int .i64 b, .int .i64 c, .int .u32 m] 73) = x := ⟨_, rfl⟩
  obtain ⟨n, hn⟩ : ∃ n, w.heap.size = n := ⟨_, rfl⟩
  rw [hw1] at hbx hB1 ⊢
  rw [hn] at hbx
  simp only [hn]
  clear hw1 hbx' hB1'
  obtain ⟨c0, c1, c2, c3, c4⟩ := hbx.cells
  refine region_to (fun bw => { tmps := #[.agg #[.int .i64 8, .int .i64 a, .int .i64 b, .int .i64 c, .int .u32 m], .pointer (some ⟨n, 0, none⟩), .string ⟨#[]⟩, .string ⟨#[120, 111, 114]⟩, undef, .slice (some ⟨bw, 0, none⟩) 22 22, .pointer (some ⟨n, 0, none⟩), .int .i64 8, .pointer (some ⟨bw, 8, none⟩), .string ⟨#[120, 111, 114]⟩, undef, undef, undef, undef, undef, undef, undef, undef, undef, undef, undef, undef, undef, undef, undef, undef, undef, undef, undef, undef, undef, undef, undef, undef, undef, undef, undef, undef, undef, undef, undef, undef, undef, undef, undef, undef, undef, undef, undef, undef, undef, undef, undef, undef, undef, undef, undef, undef, undef, undef, undef, undef, undef, undef, undef, undef, undef, undef, undef, undef, undef, undef, undef, undef, undef, undef, undef, undef, undef, undef, undef, undef, undef, undef, undef, undef, undef, undef, undef, undef, undef, undef, undef, undef, undef, undef, undef, undef, undef, undef, undef, undef, undef, undef, undef, undef, undef, undef, undef, undef, undef, undef, undef, undef, undef, undef, undef, undef, undef, undef, undef, undef, undef, undef, undef, undef], defers := [] }) (fun bw w' => Below w1.heap.size w1 w' ∧ InBox w' n ⟨8, a, b, c, m⟩) ?reg ?cont
  case reg =>
    refine wp_region_held_drew (S := fun w' => Below w1.heap.size w1 w' ∧ InBox w' n ⟨8, a, b, c, m⟩ ∧ w'.cell? ⟨n, 0, none⟩ = some (.int .i64 8)) (by kernel_rfl) (⟨(Below.refl _ w1).drew, hbx, c0⟩ : RgSt w1 n ⟨8, a, b, c, m⟩ w1.drew) (fun hHeld => ?_)
    generalize w1.drew = wd at hHeld ⊢
    refine tkH 1 ?_
    try first | simp only [pS, List.set] | simp only [pN]
    refine tkH 2 ?_
    try first | simp only [pS, List.set] | simp only [pN]
    refine wpAnyH_ready (rs := [0]) (by kernel_rfl) (by simp) ?_
    refine AllReadyH.cons (o := ?_) ?_ (fun K hK => ?_) AllReadyH.nil
    rotate_left
    · (simp only [List.getElem?_toArray, List.getElem?_cons_zero]; rfl)
    go_simp
    go_at_call 48
    refine (rwords_any _).mono ?_
    rintro e wx ⟨bw, rfl, hcw, hlw, hbw⟩
    have hSx := RgSt.below (w1 := w1) (n := n) (e := ⟨8, a, b, c, m⟩) hHeld hbw
    have hcw0 := hcw 8 ⟨#[120, 111, 114]⟩ rfl
    refine hK.out _ _ hSx (fun hHeld => ?_)
    clear hK K
    try first | simp only [pS, List.set] | simp only [pN]
    have hSy : (RgSt w1 n ⟨8, a, b, c, m⟩ _) ∧ _ := ⟨hHeld, hcw0⟩
    refine wpAnyH_strong (S' := fun w' => (Below w1.heap.size w1 w' ∧ InBox w' n ⟨8, a, b, c, m⟩ ∧ w'.cell? ⟨n, 0, none⟩ = some (.int .i64 8)) ∧ w'.cell? ⟨bw, 8, none⟩ = some (.string ⟨#[120, 111, 114]⟩)) (fun w h => h.1) _ _ _ _ ?_
    refine tkH 3 ?_
    try first | simp only [pS, List.set] | simp only [pN]
    refine tkH 4 ?_
    try first | simp only [pS, List.set] | simp only [pN]
    refine tkH 5 ?_
    try first | simp only [pS, List.set] | simp only [pN]
    refine wpAnyH_done (by kernel_rfl) ?_ _
    exact ⟨rfl, bw, rfl, hHeld.1, hHeld.2.1⟩
  rintro bw w2 ⟨hb2, hbx2⟩
  dsimp only
  clear c0 c1 c2 c3 c4
  obtain ⟨c0, c1, c2, c3, c4⟩ := hbx2.cells
  have hBf : Below n w w2 := by rw [← hn]; exact hB1.trans (hb2.mono hB1.size)
  have hBf' := Lib.hid hBf
  clear hB1 hb2 hbx hbx2 hBf
  go_wp2_with fail
  have hSd : RlSt w2 n a b c m w2.drew := RlSt.drew ⟨Below.refl _ _, c1, c2, c3, c4⟩
  go_region_held3 (fun w' => Below w2.heap.size w2 w' ∧ w'.cell? ⟨n, 1, none⟩ = some (.int .i64 a) ∧ w'.cell? ⟨n, 2, none⟩ = some (.int .i64 b) ∧ w'.cell? ⟨n, 3, none⟩ = some (.int .i64 c) ∧ w'.cell? ⟨n, 4, none⟩ = some (.int .u32 m))
    (first | exact hSd | assumption)
    (first
      | (go_at_call 66; refine (rpart_any _ _ _ (by simp) (by omega)).mono ?_; rintro e wx ⟨rfl, hbx⟩; have hSx := RlSt.below (w2 := w2) (n := n) (a := a) (b := b) (c := c) (m := m) (by assumption) hbx))
  all_goals
    go_wp2_with fail
    go_ret
    exact ⟨rfl, by first | exact hBf'.out.trans (hSx.1.mono (by have := hBf'.out.size; omega)) | (rw [hn]; exact hBf'.out.trans (hSx.1.mono (by have := hBf'.out.size; omega)))⟩

set_option maxRecDepth 100000 in
set_option maxHeartbeats 4000000 in
theorem rline_9 (a b c m : Int) (w : World) (ha : 0 ≤ a ∧ a < 256) (hb : 0 ≤ b ∧ b < 256) (hc : 0 ≤ c ∧ c < 256) (hm : 0 ≤ m ∧ m < 4294967296) :
    Calls Tryz.prog 38 #[.agg #[.int .i64 9, .int .i64 a, .int .i64 b, .int .i64 c, .int .u32 m]] w fun r w' => r = .returned (.string (rlineS ⟨9, a, b, c, m⟩)) ∧ Below w.heap.size w w' := by
  have hew : IntKind.i64.wrap m = m := by simp [IntKind.wrap, IntKind.signed, IntKind.bits]; omega
  have hs1 := partR_size (l := [114]) (z := a) (by simp) (by omega)
  have hs2 := partR_size (l := [114]) (z := b) (by simp) (by omega)
  have hs3 := partR_size (l := [114]) (z := c) (by simp) (by omega)
  have heq : rlineS ⟨9, a, b, c, m⟩ = ((((⟨#[108, 101, 115, 115]⟩ : ByteArray) ++ partR [114] a) ++ partR [114] b) ++ partR [114] c) := by
    refine ByteArray.ext ?_
    simp [rlineS, shOf, shs, opsL, partR, partL]
  rw [heq]
  clear heq
  have q1 : ¬ 9223372036854775807 < 4 + (partR [114] a).size := by omega
  have q2 : ¬ 9223372036854775807 < 4 + (partR [114] a).size + (partR [114] b).size := by omega
  have q3 : ¬ 9223372036854775807 < 4 + (partR [114] a).size + (partR [114] b).size + (partR [114] c).size := by omega
  have hbx := InBox.new w ⟨9, a, b, c, m⟩
  simp only at hbx
  have hB1 := (Below.refl _ w).alloc (Nat.le_refl _) (.cells #[.int .i64 9, .int .i64 a, .int .i64 b, .int .i64 c, .int .u32 m] 73)
  have hbx' := Lib.hid hbx
  have hB1' := Lib.hid hB1
  clear hbx hB1
  go_enter Tryz.func38, Tryz.ntmps38
  go_wp2_with fail
  have hbx := hbx'.out
  have hB1 := hB1'.out
  obtain ⟨w1, hw1⟩ : ∃ x, w.alloc (.cells #[.int .i64 9, .int .i64 a, .int .i64 b, .int .i64 c, .int .u32 m] 73) = x := ⟨_, rfl⟩
  obtain ⟨n, hn⟩ : ∃ n, w.heap.size = n := ⟨_, rfl⟩
  rw [hw1] at hbx hB1 ⊢
  rw [hn] at hbx
  simp only [hn]
  clear hw1 hbx' hB1'
  obtain ⟨c0, c1, c2, c3, c4⟩ := hbx.cells
  refine region_to (fun bw => { tmps := #[.agg #[.int .i64 9, .int .i64 a, .int .i64 b, .int .i64 c, .int .u32 m], .pointer (some ⟨n, 0, none⟩), .string ⟨#[]⟩, .string ⟨#[108, 101, 115, 115]⟩, undef, .slice (some ⟨bw, 0, none⟩) 22 22, .pointer (some ⟨n, 0, none⟩), .int .i64 9, .pointer (some ⟨bw, 9, none⟩), .string ⟨#[108, 101, 115, 115]⟩, undef, undef, undef, undef, undef, undef, undef, undef, undef, undef, undef, undef, undef, undef, undef, undef, undef, undef, undef, undef, undef, undef, undef, undef, undef, undef, undef, undef, undef, undef, undef, undef, undef, undef, undef, undef, undef, undef, undef, undef, undef, undef, undef, undef, undef, undef, undef, undef, undef, undef, undef, undef, undef, undef, undef, undef, undef, undef, undef, undef, undef, undef, undef, undef, undef, undef, undef, undef, undef, undef, undef, undef, undef, undef, undef, undef, undef, undef, undef, undef, undef, undef, undef, undef, undef, undef, undef, undef, undef, undef, undef, undef, undef, undef, undef, undef, undef, undef, undef, undef, undef, undef, undef, undef, undef, undef, undef, undef, undef, undef, undef, undef, undef, undef, undef, undef], defers := [] }) (fun bw w' => Below w1.heap.size w1 w' ∧ InBox w' n ⟨9, a, b, c, m⟩) ?reg ?cont
  case reg =>
    refine wp_region_held_drew (S := fun w' => Below w1.heap.size w1 w' ∧ InBox w' n ⟨9, a, b, c, m⟩ ∧ w'.cell? ⟨n, 0, none⟩ = some (.int .i64 9)) (by kernel_rfl) (⟨(Below.refl _ w1).drew, hbx, c0⟩ : RgSt w1 n ⟨9, a, b, c, m⟩ w1.drew) (fun hHeld => ?_)
    generalize w1.drew = wd at hHeld ⊢
    refine tkH 1 ?_
    try first | simp only [pS, List.set] | simp only [pN]
    refine tkH 2 ?_
    try first | simp only [pS, List.set] | simp only [pN]
    refine wpAnyH_ready (rs := [0]) (by kernel_rfl) (by simp) ?_
    refine AllReadyH.cons (o := ?_) ?_ (fun K hK => ?_) AllReadyH.nil
    rotate_left
    · (simp only [List.getElem?_toArray, List.getElem?_cons_zero]; rfl)
    go_simp
    go_at_call 48
    refine (rwords_any _).mono ?_
    rintro e wx ⟨bw, rfl, hcw, hlw, hbw⟩
    have hSx := RgSt.below (w1 := w1) (n := n) (e := ⟨9, a, b, c, m⟩) hHeld hbw
    have hcw0 := hcw 9 ⟨#[108, 101, 115, 115]⟩ rfl
    refine hK.out _ _ hSx (fun hHeld => ?_)
    clear hK K
    try first | simp only [pS, List.set] | simp only [pN]
    have hSy : (RgSt w1 n ⟨9, a, b, c, m⟩ _) ∧ _ := ⟨hHeld, hcw0⟩
    refine wpAnyH_strong (S' := fun w' => (Below w1.heap.size w1 w' ∧ InBox w' n ⟨9, a, b, c, m⟩ ∧ w'.cell? ⟨n, 0, none⟩ = some (.int .i64 9)) ∧ w'.cell? ⟨bw, 9, none⟩ = some (.string ⟨#[108, 101, 115, 115]⟩)) (fun w h => h.1) _ _ _ _ ?_
    refine tkH 3 ?_
    try first | simp only [pS, List.set] | simp only [pN]
    refine tkH 4 ?_
    try first | simp only [pS, List.set] | simp only [pN]
    refine tkH 5 ?_
    try first | simp only [pS, List.set] | simp only [pN]
    refine wpAnyH_done (by kernel_rfl) ?_ _
    exact ⟨rfl, bw, rfl, hHeld.1, hHeld.2.1⟩
  rintro bw w2 ⟨hb2, hbx2⟩
  dsimp only
  clear c0 c1 c2 c3 c4
  obtain ⟨c0, c1, c2, c3, c4⟩ := hbx2.cells
  have hBf : Below n w w2 := by rw [← hn]; exact hB1.trans (hb2.mono hB1.size)
  have hBf' := Lib.hid hBf
  clear hB1 hb2 hbx hbx2 hBf
  go_wp2_with fail
  have hSd : RlSt w2 n a b c m w2.drew := RlSt.drew ⟨Below.refl _ _, c1, c2, c3, c4⟩
  go_region_held3 (fun w' => Below w2.heap.size w2 w' ∧ w'.cell? ⟨n, 1, none⟩ = some (.int .i64 a) ∧ w'.cell? ⟨n, 2, none⟩ = some (.int .i64 b) ∧ w'.cell? ⟨n, 3, none⟩ = some (.int .i64 c) ∧ w'.cell? ⟨n, 4, none⟩ = some (.int .u32 m))
    (first | exact hSd | assumption)
    (first
      | (go_at_call 66; refine (rpart_any _ _ _ (by simp) (by omega)).mono ?_; rintro e wx ⟨rfl, hbx⟩; have hSx := RlSt.below (w2 := w2) (n := n) (a := a) (b := b) (c := c) (m := m) (by assumption) hbx))
  all_goals
    go_wp2_with fail
    go_ret
    exact ⟨rfl, by first | exact hBf'.out.trans (hSx.1.mono (by have := hBf'.out.size; omega)) | (rw [hn]; exact hBf'.out.trans (hSx.1.mono (by have := hBf'.out.size; omega)))⟩

set_option maxRecDepth 100000 in
set_option maxHeartbeats 4000000 in
theorem rline_10 (a b c m : Int) (w : World) (ha : 0 ≤ a ∧ a < 256) (hb : 0 ≤ b ∧ b < 256) (hc : 0 ≤ c ∧ c < 256) (hm : 0 ≤ m ∧ m < 4294967296) :
    Calls Tryz.prog 38 #[.agg #[.int .i64 10, .int .i64 a, .int .i64 b, .int .i64 c, .int .u32 m]] w fun r w' => r = .returned (.string (rlineS ⟨10, a, b, c, m⟩)) ∧ Below w.heap.size w w' := by
  have hew : IntKind.i64.wrap m = m := by simp [IntKind.wrap, IntKind.signed, IntKind.bits]; omega
  have hs1 := partR_size (l := [114]) (z := a) (by simp) (by omega)
  have hs2 := partR_size (l := [114]) (z := b) (by simp) (by omega)
  have hs3 := partR_size (l := [114]) (z := c) (by simp) (by omega)
  have heq : rlineS ⟨10, a, b, c, m⟩ = ((((⟨#[101, 113, 117, 97, 108]⟩ : ByteArray) ++ partR [114] a) ++ partR [114] b) ++ partR [114] c) := by
    refine ByteArray.ext ?_
    simp [rlineS, shOf, shs, opsL, partR, partL]
  rw [heq]
  clear heq
  have q1 : ¬ 9223372036854775807 < 5 + (partR [114] a).size := by omega
  have q2 : ¬ 9223372036854775807 < 5 + (partR [114] a).size + (partR [114] b).size := by omega
  have q3 : ¬ 9223372036854775807 < 5 + (partR [114] a).size + (partR [114] b).size + (partR [114] c).size := by omega
  have hbx := InBox.new w ⟨10, a, b, c, m⟩
  simp only at hbx
  have hB1 := (Below.refl _ w).alloc (Nat.le_refl _) (.cells #[.int .i64 10, .int .i64 a, .int .i64 b, .int .i64 c, .int .u32 m] 73)
  have hbx' := Lib.hid hbx
  have hB1' := Lib.hid hB1
  clear hbx hB1
  go_enter Tryz.func38, Tryz.ntmps38
  go_wp2_with fail
  have hbx := hbx'.out
  have hB1 := hB1'.out
  obtain ⟨w1, hw1⟩ : ∃ x, w.alloc (.cells #[.int .i64 10, .int .i64 a, .int .i64 b, .int .i64 c, .int .u32 m] 73) = x := ⟨_, rfl⟩
  obtain ⟨n, hn⟩ : ∃ n, w.heap.size = n := ⟨_, rfl⟩
  rw [hw1] at hbx hB1 ⊢
  rw [hn] at hbx
  simp only [hn]
  clear hw1 hbx' hB1'
  obtain ⟨c0, c1, c2, c3, c4⟩ := hbx.cells
  refine region_to (fun bw => { tmps := #[.agg #[.int .i64 10, .int .i64 a, .int .i64 b, .int .i64 c, .int .u32 m], .pointer (some ⟨n, 0, none⟩), .string ⟨#[]⟩, .string ⟨#[101, 113, 117, 97, 108]⟩, undef, .slice (some ⟨bw, 0, none⟩) 22 22, .pointer (some ⟨n, 0, none⟩), .int .i64 10, .pointer (some ⟨bw, 10, none⟩), .string ⟨#[101, 113, 117, 97, 108]⟩, undef, undef, undef, undef, undef, undef, undef, undef, undef, undef, undef, undef, undef, undef, undef, undef, undef, undef, undef, undef, undef, undef, undef, undef, undef, undef, undef, undef, undef, undef, undef, undef, undef, undef, undef, undef, undef, undef, undef, undef, undef, undef, undef, undef, undef, undef, undef, undef, undef, undef, undef, undef, undef, undef, undef, undef, undef, undef, undef, undef, undef, undef, undef, undef, undef, undef, undef, undef, undef, undef, undef, undef, undef, undef, undef, undef, undef, undef, undef, undef, undef, undef, undef, undef, undef, undef, undef, undef, undef, undef, undef, undef, undef, undef, undef, undef, undef, undef, undef, undef, undef, undef, undef, undef, undef, undef, undef, undef, undef, undef, undef, undef, undef, undef, undef, undef], defers := [] }) (fun bw w' => Below w1.heap.size w1 w' ∧ InBox w' n ⟨10, a, b, c, m⟩) ?reg ?cont
  case reg =>
    refine wp_region_held_drew (S := fun w' => Below w1.heap.size w1 w' ∧ InBox w' n ⟨10, a, b, c, m⟩ ∧ w'.cell? ⟨n, 0, none⟩ = some (.int .i64 10)) (by kernel_rfl) (⟨(Below.refl _ w1).drew, hbx, c0⟩ : RgSt w1 n ⟨10, a, b, c, m⟩ w1.drew) (fun hHeld => ?_)
    generalize w1.drew = wd at hHeld ⊢
    refine tkH 1 ?_
    try first | simp only [pS, List.set] | simp only [pN]
    refine tkH 2 ?_
    try first | simp only [pS, List.set] | simp only [pN]
    refine wpAnyH_ready (rs := [0]) (by kernel_rfl) (by simp) ?_
    refine AllReadyH.cons (o := ?_) ?_ (fun K hK => ?_) AllReadyH.nil
    rotate_left
    · (simp only [List.getElem?_toArray, List.getElem?_cons_zero]; rfl)
    go_simp
    go_at_call 48
    refine (rwords_any _).mono ?_
    rintro e wx ⟨bw, rfl, hcw, hlw, hbw⟩
    have hSx := RgSt.below (w1 := w1) (n := n) (e := ⟨10, a, b, c, m⟩) hHeld hbw
    have hcw0 := hcw 10 ⟨#[101, 113, 117, 97, 108]⟩ rfl
    refine hK.out _ _ hSx (fun hHeld => ?_)
    clear hK K
    try first | simp only [pS, List.set] | simp only [pN]
    have hSy : (RgSt w1 n ⟨10, a, b, c, m⟩ _) ∧ _ := ⟨hHeld, hcw0⟩
    refine wpAnyH_strong (S' := fun w' => (Below w1.heap.size w1 w' ∧ InBox w' n ⟨10, a, b, c, m⟩ ∧ w'.cell? ⟨n, 0, none⟩ = some (.int .i64 10)) ∧ w'.cell? ⟨bw, 10, none⟩ = some (.string ⟨#[101, 113, 117, 97, 108]⟩)) (fun w h => h.1) _ _ _ _ ?_
    refine tkH 3 ?_
    try first | simp only [pS, List.set] | simp only [pN]
    refine tkH 4 ?_
    try first | simp only [pS, List.set] | simp only [pN]
    refine tkH 5 ?_
    try first | simp only [pS, List.set] | simp only [pN]
    refine wpAnyH_done (by kernel_rfl) ?_ _
    exact ⟨rfl, bw, rfl, hHeld.1, hHeld.2.1⟩
  rintro bw w2 ⟨hb2, hbx2⟩
  dsimp only
  clear c0 c1 c2 c3 c4
  obtain ⟨c0, c1, c2, c3, c4⟩ := hbx2.cells
  have hBf : Below n w w2 := by rw [← hn]; exact hB1.trans (hb2.mono hB1.size)
  have hBf' := Lib.hid hBf
  clear hB1 hb2 hbx hbx2 hBf
  go_wp2_with fail
  have hSd : RlSt w2 n a b c m w2.drew := RlSt.drew ⟨Below.refl _ _, c1, c2, c3, c4⟩
  go_region_held3 (fun w' => Below w2.heap.size w2 w' ∧ w'.cell? ⟨n, 1, none⟩ = some (.int .i64 a) ∧ w'.cell? ⟨n, 2, none⟩ = some (.int .i64 b) ∧ w'.cell? ⟨n, 3, none⟩ = some (.int .i64 c) ∧ w'.cell? ⟨n, 4, none⟩ = some (.int .u32 m))
    (first | exact hSd | assumption)
    (first
      | (go_at_call 66; refine (rpart_any _ _ _ (by simp) (by omega)).mono ?_; rintro e wx ⟨rfl, hbx⟩; have hSx := RlSt.below (w2 := w2) (n := n) (a := a) (b := b) (c := c) (m := m) (by assumption) hbx))
  all_goals
    go_wp2_with fail
    go_ret
    exact ⟨rfl, by first | exact hBf'.out.trans (hSx.1.mono (by have := hBf'.out.size; omega)) | (rw [hn]; exact hBf'.out.trans (hSx.1.mono (by have := hBf'.out.size; omega)))⟩

set_option maxRecDepth 100000 in
set_option maxHeartbeats 4000000 in
theorem rline_11 (a b c m : Int) (w : World) (ha : 0 ≤ a ∧ a < 256) (hb : 0 ≤ b ∧ b < 256) (_hc : 0 ≤ c ∧ c < 256) (hm : 0 ≤ m ∧ m < 4294967296) :
    Calls Tryz.prog 38 #[.agg #[.int .i64 11, .int .i64 a, .int .i64 b, .int .i64 c, .int .u32 m]] w fun r w' => r = .returned (.string (rlineS ⟨11, a, b, c, m⟩)) ∧ Below w.heap.size w w' := by
  have hew : IntKind.i64.wrap m = m := by simp [IntKind.wrap, IntKind.signed, IntKind.bits]; omega
  have hs1 := partR_size (l := [114]) (z := a) (by simp) (by omega)
  have hs2 := partR_size (l := [114]) (z := b) (by simp) (by omega)
  have hs3 := partR_size (l := []) (z := m) (by simp) (by omega)
  have heq : rlineS ⟨11, a, b, c, m⟩ = ((((⟨#[108, 111, 97, 100]⟩ : ByteArray) ++ partR [114] a) ++ partR [114] b) ++ partR [] m) := by
    refine ByteArray.ext ?_
    simp [rlineS, shOf, shs, opsL, partR, partL]
  rw [heq]
  clear heq
  have q1 : ¬ 9223372036854775807 < 4 + (partR [114] a).size := by omega
  have q2 : ¬ 9223372036854775807 < 4 + (partR [114] a).size + (partR [114] b).size := by omega
  have q3 : ¬ 9223372036854775807 < 4 + (partR [114] a).size + (partR [114] b).size + (partR [] m).size := by omega
  have hbx := InBox.new w ⟨11, a, b, c, m⟩
  simp only at hbx
  have hB1 := (Below.refl _ w).alloc (Nat.le_refl _) (.cells #[.int .i64 11, .int .i64 a, .int .i64 b, .int .i64 c, .int .u32 m] 73)
  have hbx' := Lib.hid hbx
  have hB1' := Lib.hid hB1
  clear hbx hB1
  go_enter Tryz.func38, Tryz.ntmps38
  go_wp2_with fail
  have hbx := hbx'.out
  have hB1 := hB1'.out
  obtain ⟨w1, hw1⟩ : ∃ x, w.alloc (.cells #[.int .i64 11, .int .i64 a, .int .i64 b, .int .i64 c, .int .u32 m] 73) = x := ⟨_, rfl⟩
  obtain ⟨n, hn⟩ : ∃ n, w.heap.size = n := ⟨_, rfl⟩
  rw [hw1] at hbx hB1 ⊢
  rw [hn] at hbx
  simp only [hn]
  clear hw1 hbx' hB1'
  obtain ⟨c0, c1, c2, c3, c4⟩ := hbx.cells
  refine region_to (fun bw => { tmps := #[.agg #[.int .i64 11, .int .i64 a, .int .i64 b, .int .i64 c, .int .u32 m], .pointer (some ⟨n, 0, none⟩), .string ⟨#[]⟩, .string ⟨#[108, 111, 97, 100]⟩, undef, .slice (some ⟨bw, 0, none⟩) 22 22, .pointer (some ⟨n, 0, none⟩), .int .i64 11, .pointer (some ⟨bw, 11, none⟩), .string ⟨#[108, 111, 97, 100]⟩, undef, undef, undef, undef, undef, undef, undef, undef, undef, undef, undef, undef, undef, undef, undef, undef, undef, undef, undef, undef, undef, undef, undef, undef, undef, undef, undef, undef, undef, undef, undef, undef, undef, undef, undef, undef, undef, undef, undef, undef, undef, undef, undef, undef, undef, undef, undef, undef, undef, undef, undef, undef, undef, undef, undef, undef, undef, undef, undef, undef, undef, undef, undef, undef, undef, undef, undef, undef, undef, undef, undef, undef, undef, undef, undef, undef, undef, undef, undef, undef, undef, undef, undef, undef, undef, undef, undef, undef, undef, undef, undef, undef, undef, undef, undef, undef, undef, undef, undef, undef, undef, undef, undef, undef, undef, undef, undef, undef, undef, undef, undef, undef, undef, undef, undef, undef], defers := [] }) (fun bw w' => Below w1.heap.size w1 w' ∧ InBox w' n ⟨11, a, b, c, m⟩) ?reg ?cont
  case reg =>
    refine wp_region_held_drew (S := fun w' => Below w1.heap.size w1 w' ∧ InBox w' n ⟨11, a, b, c, m⟩ ∧ w'.cell? ⟨n, 0, none⟩ = some (.int .i64 11)) (by kernel_rfl) (⟨(Below.refl _ w1).drew, hbx, c0⟩ : RgSt w1 n ⟨11, a, b, c, m⟩ w1.drew) (fun hHeld => ?_)
    generalize w1.drew = wd at hHeld ⊢
    refine tkH 1 ?_
    try first | simp only [pS, List.set] | simp only [pN]
    refine tkH 2 ?_
    try first | simp only [pS, List.set] | simp only [pN]
    refine wpAnyH_ready (rs := [0]) (by kernel_rfl) (by simp) ?_
    refine AllReadyH.cons (o := ?_) ?_ (fun K hK => ?_) AllReadyH.nil
    rotate_left
    · (simp only [List.getElem?_toArray, List.getElem?_cons_zero]; rfl)
    go_simp
    go_at_call 48
    refine (rwords_any _).mono ?_
    rintro e wx ⟨bw, rfl, hcw, hlw, hbw⟩
    have hSx := RgSt.below (w1 := w1) (n := n) (e := ⟨11, a, b, c, m⟩) hHeld hbw
    have hcw0 := hcw 11 ⟨#[108, 111, 97, 100]⟩ rfl
    refine hK.out _ _ hSx (fun hHeld => ?_)
    clear hK K
    try first | simp only [pS, List.set] | simp only [pN]
    have hSy : (RgSt w1 n ⟨11, a, b, c, m⟩ _) ∧ _ := ⟨hHeld, hcw0⟩
    refine wpAnyH_strong (S' := fun w' => (Below w1.heap.size w1 w' ∧ InBox w' n ⟨11, a, b, c, m⟩ ∧ w'.cell? ⟨n, 0, none⟩ = some (.int .i64 11)) ∧ w'.cell? ⟨bw, 11, none⟩ = some (.string ⟨#[108, 111, 97, 100]⟩)) (fun w h => h.1) _ _ _ _ ?_
    refine tkH 3 ?_
    try first | simp only [pS, List.set] | simp only [pN]
    refine tkH 4 ?_
    try first | simp only [pS, List.set] | simp only [pN]
    refine tkH 5 ?_
    try first | simp only [pS, List.set] | simp only [pN]
    refine wpAnyH_done (by kernel_rfl) ?_ _
    exact ⟨rfl, bw, rfl, hHeld.1, hHeld.2.1⟩
  rintro bw w2 ⟨hb2, hbx2⟩
  dsimp only
  clear c0 c1 c2 c3 c4
  obtain ⟨c0, c1, c2, c3, c4⟩ := hbx2.cells
  have hBf : Below n w w2 := by rw [← hn]; exact hB1.trans (hb2.mono hB1.size)
  have hBf' := Lib.hid hBf
  clear hB1 hb2 hbx hbx2 hBf
  go_wp2_with fail
  have hSd : RlSt w2 n a b c m w2.drew := RlSt.drew ⟨Below.refl _ _, c1, c2, c3, c4⟩
  go_region_held3 (fun w' => Below w2.heap.size w2 w' ∧ w'.cell? ⟨n, 1, none⟩ = some (.int .i64 a) ∧ w'.cell? ⟨n, 2, none⟩ = some (.int .i64 b) ∧ w'.cell? ⟨n, 3, none⟩ = some (.int .i64 c) ∧ w'.cell? ⟨n, 4, none⟩ = some (.int .u32 m))
    (first | exact hSd | assumption)
    (first
      | (go_at_call 66; refine (rpart_any _ _ _ (by simp) (by omega)).mono ?_; rintro e wx ⟨rfl, hbx⟩; have hSx := RlSt.below (w2 := w2) (n := n) (a := a) (b := b) (c := c) (m := m) (by assumption) hbx))
  all_goals
    go_wp2_with fail
    go_ret
    exact ⟨rfl, by first | exact hBf'.out.trans (hSx.1.mono (by have := hBf'.out.size; omega)) | (rw [hn]; exact hBf'.out.trans (hSx.1.mono (by have := hBf'.out.size; omega)))⟩

set_option maxRecDepth 100000 in
set_option maxHeartbeats 4000000 in
theorem rline_12 (a b c m : Int) (w : World) (ha : 0 ≤ a ∧ a < 256) (hb : 0 ≤ b ∧ b < 256) (_hc : 0 ≤ c ∧ c < 256) (hm : 0 ≤ m ∧ m < 4294967296) :
    Calls Tryz.prog 38 #[.agg #[.int .i64 12, .int .i64 a, .int .i64 b, .int .i64 c, .int .u32 m]] w fun r w' => r = .returned (.string (rlineS ⟨12, a, b, c, m⟩)) ∧ Below w.heap.size w w' := by
  have hew : IntKind.i64.wrap m = m := by simp [IntKind.wrap, IntKind.signed, IntKind.bits]; omega
  have hs1 := partR_size (l := [114]) (z := a) (by simp) (by omega)
  have hs2 := partR_size (l := [114]) (z := b) (by simp) (by omega)
  have hs3 := partR_size (l := []) (z := m) (by simp) (by omega)
  have heq : rlineS ⟨12, a, b, c, m⟩ = ((((⟨#[115, 116, 111, 114, 101]⟩ : ByteArray) ++ partR [114] a) ++ partR [114] b) ++ partR [] m) := by
    refine ByteArray.ext ?_
    simp [rlineS, shOf, shs, opsL, partR, partL]
  rw [heq]
  clear heq
  have q1 : ¬ 9223372036854775807 < 5 + (partR [114] a).size := by omega
  have q2 : ¬ 9223372036854775807 < 5 + (partR [114] a).size + (partR [114] b).size := by omega
  have q3 : ¬ 9223372036854775807 < 5 + (partR [114] a).size + (partR [114] b).size + (partR [] m).size := by omega
  have hbx := InBox.new w ⟨12, a, b, c, m⟩
  simp only at hbx
  have hB1 := (Below.refl _ w).alloc (Nat.le_refl _) (.cells #[.int .i64 12, .int .i64 a, .int .i64 b, .int .i64 c, .int .u32 m] 73)
  have hbx' := Lib.hid hbx
  have hB1' := Lib.hid hB1
  clear hbx hB1
  go_enter Tryz.func38, Tryz.ntmps38
  go_wp2_with fail
  have hbx := hbx'.out
  have hB1 := hB1'.out
  obtain ⟨w1, hw1⟩ : ∃ x, w.alloc (.cells #[.int .i64 12, .int .i64 a, .int .i64 b, .int .i64 c, .int .u32 m] 73) = x := ⟨_, rfl⟩
  obtain ⟨n, hn⟩ : ∃ n, w.heap.size = n := ⟨_, rfl⟩
  rw [hw1] at hbx hB1 ⊢
  rw [hn] at hbx
  simp only [hn]
  clear hw1 hbx' hB1'
  obtain ⟨c0, c1, c2, c3, c4⟩ := hbx.cells
  refine region_to (fun bw => { tmps := #[.agg #[.int .i64 12, .int .i64 a, .int .i64 b, .int .i64 c, .int .u32 m], .pointer (some ⟨n, 0, none⟩), .string ⟨#[]⟩, .string ⟨#[115, 116, 111, 114, 101]⟩, undef, .slice (some ⟨bw, 0, none⟩) 22 22, .pointer (some ⟨n, 0, none⟩), .int .i64 12, .pointer (some ⟨bw, 12, none⟩), .string ⟨#[115, 116, 111, 114, 101]⟩, undef, undef, undef, undef, undef, undef, undef, undef, undef, undef, undef, undef, undef, undef, undef, undef, undef, undef, undef, undef, undef, undef, undef, undef, undef, undef, undef, undef, undef, undef, undef, undef, undef, undef, undef, undef, undef, undef, undef, undef, undef, undef, undef, undef, undef, undef, undef, undef, undef, undef, undef, undef, undef, undef, undef, undef, undef, undef, undef, undef, undef, undef, undef, undef, undef, undef, undef, undef, undef, undef, undef, undef, undef, undef, undef, undef, undef, undef, undef, undef, undef, undef, undef, undef, undef, undef, undef, undef, undef, undef, undef, undef, undef, undef, undef, undef, undef, undef, undef, undef, undef, undef, undef, undef, undef, undef, undef, undef, undef, undef, undef, undef, undef, undef, undef, undef], defers := [] }) (fun bw w' => Below w1.heap.size w1 w' ∧ InBox w' n ⟨12, a, b, c, m⟩) ?reg ?cont
  case reg =>
    refine wp_region_held_drew (S := fun w' => Below w1.heap.size w1 w' ∧ InBox w' n ⟨12, a, b, c, m⟩ ∧ w'.cell? ⟨n, 0, none⟩ = some (.int .i64 12)) (by kernel_rfl) (⟨(Below.refl _ w1).drew, hbx, c0⟩ : RgSt w1 n ⟨12, a, b, c, m⟩ w1.drew) (fun hHeld => ?_)
    generalize w1.drew = wd at hHeld ⊢
    refine tkH 1 ?_
    try first | simp only [pS, List.set] | simp only [pN]
    refine tkH 2 ?_
    try first | simp only [pS, List.set] | simp only [pN]
    refine wpAnyH_ready (rs := [0]) (by kernel_rfl) (by simp) ?_
    refine AllReadyH.cons (o := ?_) ?_ (fun K hK => ?_) AllReadyH.nil
    rotate_left
    · (simp only [List.getElem?_toArray, List.getElem?_cons_zero]; rfl)
    go_simp
    go_at_call 48
    refine (rwords_any _).mono ?_
    rintro e wx ⟨bw, rfl, hcw, hlw, hbw⟩
    have hSx := RgSt.below (w1 := w1) (n := n) (e := ⟨12, a, b, c, m⟩) hHeld hbw
    have hcw0 := hcw 12 ⟨#[115, 116, 111, 114, 101]⟩ rfl
    refine hK.out _ _ hSx (fun hHeld => ?_)
    clear hK K
    try first | simp only [pS, List.set] | simp only [pN]
    have hSy : (RgSt w1 n ⟨12, a, b, c, m⟩ _) ∧ _ := ⟨hHeld, hcw0⟩
    refine wpAnyH_strong (S' := fun w' => (Below w1.heap.size w1 w' ∧ InBox w' n ⟨12, a, b, c, m⟩ ∧ w'.cell? ⟨n, 0, none⟩ = some (.int .i64 12)) ∧ w'.cell? ⟨bw, 12, none⟩ = some (.string ⟨#[115, 116, 111, 114, 101]⟩)) (fun w h => h.1) _ _ _ _ ?_
    refine tkH 3 ?_
    try first | simp only [pS, List.set] | simp only [pN]
    refine tkH 4 ?_
    try first | simp only [pS, List.set] | simp only [pN]
    refine tkH 5 ?_
    try first | simp only [pS, List.set] | simp only [pN]
    refine wpAnyH_done (by kernel_rfl) ?_ _
    exact ⟨rfl, bw, rfl, hHeld.1, hHeld.2.1⟩
  rintro bw w2 ⟨hb2, hbx2⟩
  dsimp only
  clear c0 c1 c2 c3 c4
  obtain ⟨c0, c1, c2, c3, c4⟩ := hbx2.cells
  have hBf : Below n w w2 := by rw [← hn]; exact hB1.trans (hb2.mono hB1.size)
  have hBf' := Lib.hid hBf
  clear hB1 hb2 hbx hbx2 hBf
  go_wp2_with fail
  have hSd : RlSt w2 n a b c m w2.drew := RlSt.drew ⟨Below.refl _ _, c1, c2, c3, c4⟩
  go_region_held3 (fun w' => Below w2.heap.size w2 w' ∧ w'.cell? ⟨n, 1, none⟩ = some (.int .i64 a) ∧ w'.cell? ⟨n, 2, none⟩ = some (.int .i64 b) ∧ w'.cell? ⟨n, 3, none⟩ = some (.int .i64 c) ∧ w'.cell? ⟨n, 4, none⟩ = some (.int .u32 m))
    (first | exact hSd | assumption)
    (first
      | (go_at_call 66; refine (rpart_any _ _ _ (by simp) (by omega)).mono ?_; rintro e wx ⟨rfl, hbx⟩; have hSx := RlSt.below (w2 := w2) (n := n) (a := a) (b := b) (c := c) (m := m) (by assumption) hbx))
  all_goals
    go_wp2_with fail
    go_ret
    exact ⟨rfl, by first | exact hBf'.out.trans (hSx.1.mono (by have := hBf'.out.size; omega)) | (rw [hn]; exact hBf'.out.trans (hSx.1.mono (by have := hBf'.out.size; omega)))⟩

set_option maxRecDepth 100000 in
set_option maxHeartbeats 4000000 in
theorem rline_13 (a b c m : Int) (w : World) (ha : 0 ≤ a ∧ a < 256) (hb : 0 ≤ b ∧ b < 256) (hc : 0 ≤ c ∧ c < 256) (hm : 0 ≤ m ∧ m < 4294967296) :
    Calls Tryz.prog 38 #[.agg #[.int .i64 13, .int .i64 a, .int .i64 b, .int .i64 c, .int .u32 m]] w fun r w' => r = .returned (.string (rlineS ⟨13, a, b, c, m⟩)) ∧ Below w.heap.size w w' := by
  have hew : IntKind.i64.wrap m = m := by simp [IntKind.wrap, IntKind.signed, IntKind.bits]; omega
  have hs1 := partR_size (l := [114]) (z := a) (by simp) (by omega)
  have hs2 := partR_size (l := [114]) (z := b) (by simp) (by omega)
  have hs3 := partR_size (l := [114]) (z := c) (by simp) (by omega)
  have hs4 := partR_size (l := []) (z := m) (by simp) (by omega)
  have heq : rlineS ⟨13, a, b, c, m⟩ = (((((⟨#[99, 97, 115]⟩ : ByteArray) ++ partR [114] a) ++ partR [114] b) ++ partR [114] c) ++ partR [] m) := by
    refine ByteArray.ext ?_
    simp [rlineS, shOf, shs, opsL, partR, partL]
  rw [heq]
  clear heq
  have q1 : ¬ 9223372036854775807 < 3 + (partR [114] a).size := by omega
  have q2 : ¬ 9223372036854775807 < 3 + (partR [114] a).size + (partR [114] b).size := by omega
  have q3 : ¬ 9223372036854775807 < 3 + (partR [114] a).size + (partR [114] b).size + (partR [114] c).size := by omega
  have q4 : ¬ 9223372036854775807 < 3 + (partR [114] a).size + (partR [114] b).size + (partR [114] c).size + (partR [] m).size := by omega
  have hbx := InBox.new w ⟨13, a, b, c, m⟩
  simp only at hbx
  have hB1 := (Below.refl _ w).alloc (Nat.le_refl _) (.cells #[.int .i64 13, .int .i64 a, .int .i64 b, .int .i64 c, .int .u32 m] 73)
  have hbx' := Lib.hid hbx
  have hB1' := Lib.hid hB1
  clear hbx hB1
  go_enter Tryz.func38, Tryz.ntmps38
  go_wp2_with fail
  have hbx := hbx'.out
  have hB1 := hB1'.out
  obtain ⟨w1, hw1⟩ : ∃ x, w.alloc (.cells #[.int .i64 13, .int .i64 a, .int .i64 b, .int .i64 c, .int .u32 m] 73) = x := ⟨_, rfl⟩
  obtain ⟨n, hn⟩ : ∃ n, w.heap.size = n := ⟨_, rfl⟩
  rw [hw1] at hbx hB1 ⊢
  rw [hn] at hbx
  simp only [hn]
  clear hw1 hbx' hB1'
  obtain ⟨c0, c1, c2, c3, c4⟩ := hbx.cells
  refine region_to (fun bw => { tmps := #[.agg #[.int .i64 13, .int .i64 a, .int .i64 b, .int .i64 c, .int .u32 m], .pointer (some ⟨n, 0, none⟩), .string ⟨#[]⟩, .string ⟨#[99, 97, 115]⟩, undef, .slice (some ⟨bw, 0, none⟩) 22 22, .pointer (some ⟨n, 0, none⟩), .int .i64 13, .pointer (some ⟨bw, 13, none⟩), .string ⟨#[99, 97, 115]⟩, undef, undef, undef, undef, undef, undef, undef, undef, undef, undef, undef, undef, undef, undef, undef, undef, undef, undef, undef, undef, undef, undef, undef, undef, undef, undef, undef, undef, undef, undef, undef, undef, undef, undef, undef, undef, undef, undef, undef, undef, undef, undef, undef, undef, undef, undef, undef, undef, undef, undef, undef, undef, undef, undef, undef, undef, undef, undef, undef, undef, undef, undef, undef, undef, undef, undef, undef, undef, undef, undef, undef, undef, undef, undef, undef, undef, undef, undef, undef, undef, undef, undef, undef, undef, undef, undef, undef, undef, undef, undef, undef, undef, undef, undef, undef, undef, undef, undef, undef, undef, undef, undef, undef, undef, undef, undef, undef, undef, undef, undef, undef, undef, undef, undef, undef, undef], defers := [] }) (fun bw w' => Below w1.heap.size w1 w' ∧ InBox w' n ⟨13, a, b, c, m⟩) ?reg ?cont
  case reg =>
    refine wp_region_held_drew (S := fun w' => Below w1.heap.size w1 w' ∧ InBox w' n ⟨13, a, b, c, m⟩ ∧ w'.cell? ⟨n, 0, none⟩ = some (.int .i64 13)) (by kernel_rfl) (⟨(Below.refl _ w1).drew, hbx, c0⟩ : RgSt w1 n ⟨13, a, b, c, m⟩ w1.drew) (fun hHeld => ?_)
    generalize w1.drew = wd at hHeld ⊢
    refine tkH 1 ?_
    try first | simp only [pS, List.set] | simp only [pN]
    refine tkH 2 ?_
    try first | simp only [pS, List.set] | simp only [pN]
    refine wpAnyH_ready (rs := [0]) (by kernel_rfl) (by simp) ?_
    refine AllReadyH.cons (o := ?_) ?_ (fun K hK => ?_) AllReadyH.nil
    rotate_left
    · (simp only [List.getElem?_toArray, List.getElem?_cons_zero]; rfl)
    go_simp
    go_at_call 48
    refine (rwords_any _).mono ?_
    rintro e wx ⟨bw, rfl, hcw, hlw, hbw⟩
    have hSx := RgSt.below (w1 := w1) (n := n) (e := ⟨13, a, b, c, m⟩) hHeld hbw
    have hcw0 := hcw 13 ⟨#[99, 97, 115]⟩ rfl
    refine hK.out _ _ hSx (fun hHeld => ?_)
    clear hK K
    try first | simp only [pS, List.set] | simp only [pN]
    have hSy : (RgSt w1 n ⟨13, a, b, c, m⟩ _) ∧ _ := ⟨hHeld, hcw0⟩
    refine wpAnyH_strong (S' := fun w' => (Below w1.heap.size w1 w' ∧ InBox w' n ⟨13, a, b, c, m⟩ ∧ w'.cell? ⟨n, 0, none⟩ = some (.int .i64 13)) ∧ w'.cell? ⟨bw, 13, none⟩ = some (.string ⟨#[99, 97, 115]⟩)) (fun w h => h.1) _ _ _ _ ?_
    refine tkH 3 ?_
    try first | simp only [pS, List.set] | simp only [pN]
    refine tkH 4 ?_
    try first | simp only [pS, List.set] | simp only [pN]
    refine tkH 5 ?_
    try first | simp only [pS, List.set] | simp only [pN]
    refine wpAnyH_done (by kernel_rfl) ?_ _
    exact ⟨rfl, bw, rfl, hHeld.1, hHeld.2.1⟩
  rintro bw w2 ⟨hb2, hbx2⟩
  dsimp only
  clear c0 c1 c2 c3 c4
  obtain ⟨c0, c1, c2, c3, c4⟩ := hbx2.cells
  have hBf : Below n w w2 := by rw [← hn]; exact hB1.trans (hb2.mono hB1.size)
  have hBf' := Lib.hid hBf
  clear hB1 hb2 hbx hbx2 hBf
  go_wp2_with fail
  have hSd : RlSt w2 n a b c m w2.drew := RlSt.drew ⟨Below.refl _ _, c1, c2, c3, c4⟩
  go_region_held3 (fun w' => Below w2.heap.size w2 w' ∧ w'.cell? ⟨n, 1, none⟩ = some (.int .i64 a) ∧ w'.cell? ⟨n, 2, none⟩ = some (.int .i64 b) ∧ w'.cell? ⟨n, 3, none⟩ = some (.int .i64 c) ∧ w'.cell? ⟨n, 4, none⟩ = some (.int .u32 m))
    (first | exact hSd | assumption)
    (first
      | (go_at_call 66; refine (rpart_any _ _ _ (by simp) (by omega)).mono ?_; rintro e wx ⟨rfl, hbx⟩; have hSx := RlSt.below (w2 := w2) (n := n) (a := a) (b := b) (c := c) (m := m) (by assumption) hbx))
  all_goals
    go_wp2_with fail
    go_ret
    exact ⟨rfl, by first | exact hBf'.out.trans (hSx.1.mono (by have := hBf'.out.size; omega)) | (rw [hn]; exact hBf'.out.trans (hSx.1.mono (by have := hBf'.out.size; omega)))⟩

end Go.Proofs.YtfgmebjbibbpdaaGreatDoor

namespace Go.Proofs.YtfgmebjbibbpdaaGreatDoor
open Go.RowKit

set_option maxRecDepth 100000 in
set_option maxHeartbeats 4000000 in
theorem rline_17 (a b c m : Int) (w : World) (ha : 0 ≤ a ∧ a < 256) (hb : 0 ≤ b ∧ b < 256) (_hc : 0 ≤ c ∧ c < 256) (hm : 0 ≤ m ∧ m < 4294967296) :
    Calls Tryz.prog 38 #[.agg #[.int .i64 17, .int .i64 a, .int .i64 b, .int .i64 c, .int .u32 m]] w fun r w' => r = .returned (.string (rlineS ⟨17, a, b, c, m⟩)) ∧ Below w.heap.size w w' := by
  have hew : IntKind.i64.wrap m = m := by simp [IntKind.wrap, IntKind.signed, IntKind.bits]; omega
  have hs1 := partR_size (l := [114]) (z := a) (by simp) (by omega)
  have hs2 := partR_size (l := [111]) (z := b) (by simp) (by omega)
  have hs3 := partR_size (l := []) (z := m) (by simp) (by omega)
  have heq : rlineS ⟨17, a, b, c, m⟩ = ((((⟨#[114, 101, 97, 100]⟩ : ByteArray) ++ partR [114] a) ++ partR [111] b) ++ partR [] m) := by
    refine ByteArray.ext ?_
    simp [rlineS, shOf, shs, opsL, partR, partL]
  rw [heq]
  clear heq
  have q1 : ¬ 9223372036854775807 < 4 + (partR [114] a).size := by omega
  have q2 : ¬ 9223372036854775807 < 4 + (partR [114] a).size + (partR [111] b).size := by omega
  have q3 : ¬ 9223372036854775807 < 4 + (partR [114] a).size + (partR [111] b).size + (partR [] m).size := by omega
  have hbx := InBox.new w ⟨17, a, b, c, m⟩
  simp only at hbx
  have hB1 := (Below.refl _ w).alloc (Nat.le_refl _) (.cells #[.int .i64 17, .int .i64 a, .int .i64 b, .int .i64 c, .int .u32 m] 73)
  have hbx' := Lib.hid hbx
  have hB1' := Lib.hid hB1
  clear hbx hB1
  go_enter Tryz.func38, Tryz.ntmps38
  go_wp2_with fail
  have hbx := hbx'.out
  have hB1 := hB1'.out
  obtain ⟨w1, hw1⟩ : ∃ x, w.alloc (.cells #[.int .i64 17, .int .i64 a, .int .i64 b, .int .i64 c, .int .u32 m] 73) = x := ⟨_, rfl⟩
  obtain ⟨n, hn⟩ : ∃ n, w.heap.size = n := ⟨_, rfl⟩
  rw [hw1] at hbx hB1 ⊢
  rw [hn] at hbx
  simp only [hn]
  clear hw1 hbx' hB1'
  obtain ⟨c0, c1, c2, c3, c4⟩ := hbx.cells
  refine region_to (fun bw => { tmps := #[.agg #[.int .i64 17, .int .i64 a, .int .i64 b, .int .i64 c, .int .u32 m], .pointer (some ⟨n, 0, none⟩), .string ⟨#[]⟩, .string ⟨#[114, 101, 97, 100]⟩, undef, .slice (some ⟨bw, 0, none⟩) 22 22, .pointer (some ⟨n, 0, none⟩), .int .i64 17, .pointer (some ⟨bw, 17, none⟩), .string ⟨#[114, 101, 97, 100]⟩, undef, undef, undef, undef, undef, undef, undef, undef, undef, undef, undef, undef, undef, undef, undef, undef, undef, undef, undef, undef, undef, undef, undef, undef, undef, undef, undef, undef, undef, undef, undef, undef, undef, undef, undef, undef, undef, undef, undef, undef, undef, undef, undef, undef, undef, undef, undef, undef, undef, undef, undef, undef, undef, undef, undef, undef, undef, undef, undef, undef, undef, undef, undef, undef, undef, undef, undef, undef, undef, undef, undef, undef, undef, undef, undef, undef, undef, undef, undef, undef, undef, undef, undef, undef, undef, undef, undef, undef, undef, undef, undef, undef, undef, undef, undef, undef, undef, undef, undef, undef, undef, undef, undef, undef, undef, undef, undef, undef, undef, undef, undef, undef, undef, undef, undef, undef], defers := [] }) (fun bw w' => Below w1.heap.size w1 w' ∧ InBox w' n ⟨17, a, b, c, m⟩) ?reg ?cont
  case reg =>
    refine wp_region_held_drew (S := fun w' => Below w1.heap.size w1 w' ∧ InBox w' n ⟨17, a, b, c, m⟩ ∧ w'.cell? ⟨n, 0, none⟩ = some (.int .i64 17)) (by kernel_rfl) (⟨(Below.refl _ w1).drew, hbx, c0⟩ : RgSt w1 n ⟨17, a, b, c, m⟩ w1.drew) (fun hHeld => ?_)
    generalize w1.drew = wd at hHeld ⊢
    refine tkH 1 ?_
    try first | simp only [pS, List.set] | simp only [pN]
    refine tkH 2 ?_
    try first | simp only [pS, List.set] | simp only [pN]
    refine wpAnyH_ready (rs := [0]) (by kernel_rfl) (by simp) ?_
    refine AllReadyH.cons (o := ?_) ?_ (fun K hK => ?_) AllReadyH.nil
    rotate_left
    · (simp only [List.getElem?_toArray, List.getElem?_cons_zero]; rfl)
    go_simp
    go_at_call 48
    refine (rwords_any _).mono ?_
    rintro e wx ⟨bw, rfl, hcw, hlw, hbw⟩
    have hSx := RgSt.below (w1 := w1) (n := n) (e := ⟨17, a, b, c, m⟩) hHeld hbw
    have hcw0 := hcw 17 ⟨#[114, 101, 97, 100]⟩ rfl
    refine hK.out _ _ hSx (fun hHeld => ?_)
    clear hK K
    try first | simp only [pS, List.set] | simp only [pN]
    have hSy : (RgSt w1 n ⟨17, a, b, c, m⟩ _) ∧ _ := ⟨hHeld, hcw0⟩
    refine wpAnyH_strong (S' := fun w' => (Below w1.heap.size w1 w' ∧ InBox w' n ⟨17, a, b, c, m⟩ ∧ w'.cell? ⟨n, 0, none⟩ = some (.int .i64 17)) ∧ w'.cell? ⟨bw, 17, none⟩ = some (.string ⟨#[114, 101, 97, 100]⟩)) (fun w h => h.1) _ _ _ _ ?_
    refine tkH 3 ?_
    try first | simp only [pS, List.set] | simp only [pN]
    refine tkH 4 ?_
    try first | simp only [pS, List.set] | simp only [pN]
    refine tkH 5 ?_
    try first | simp only [pS, List.set] | simp only [pN]
    refine wpAnyH_done (by kernel_rfl) ?_ _
    exact ⟨rfl, bw, rfl, hHeld.1, hHeld.2.1⟩
  rintro bw w2 ⟨hb2, hbx2⟩
  dsimp only
  clear c0 c1 c2 c3 c4
  obtain ⟨c0, c1, c2, c3, c4⟩ := hbx2.cells
  have hBf : Below n w w2 := by rw [← hn]; exact hB1.trans (hb2.mono hB1.size)
  have hBf' := Lib.hid hBf
  clear hB1 hb2 hbx hbx2 hBf
  go_wp2_with fail
  have hSd : RlSt w2 n a b c m w2.drew := RlSt.drew ⟨Below.refl _ _, c1, c2, c3, c4⟩
  go_region_held3 (fun w' => Below w2.heap.size w2 w' ∧ w'.cell? ⟨n, 1, none⟩ = some (.int .i64 a) ∧ w'.cell? ⟨n, 2, none⟩ = some (.int .i64 b) ∧ w'.cell? ⟨n, 3, none⟩ = some (.int .i64 c) ∧ w'.cell? ⟨n, 4, none⟩ = some (.int .u32 m))
    (first | exact hSd | assumption)
    (first
      | (go_at_call 66; refine (rpart_any _ _ _ (by simp) (by omega)).mono ?_; rintro e wx ⟨rfl, hbx⟩; have hSx := RlSt.below (w2 := w2) (n := n) (a := a) (b := b) (c := c) (m := m) (by assumption) hbx))
  all_goals
    go_wp2_with fail
    go_ret
    exact ⟨rfl, by first | exact hBf'.out.trans (hSx.1.mono (by have := hBf'.out.size; omega)) | (rw [hn]; exact hBf'.out.trans (hSx.1.mono (by have := hBf'.out.size; omega)))⟩

set_option maxRecDepth 100000 in
set_option maxHeartbeats 4000000 in
theorem rline_18 (a b c m : Int) (w : World) (ha : 0 ≤ a ∧ a < 256) (hb : 0 ≤ b ∧ b < 256) (_hc : 0 ≤ c ∧ c < 256) (hm : 0 ≤ m ∧ m < 4294967296) :
    Calls Tryz.prog 38 #[.agg #[.int .i64 18, .int .i64 a, .int .i64 b, .int .i64 c, .int .u32 m]] w fun r w' => r = .returned (.string (rlineS ⟨18, a, b, c, m⟩)) ∧ Below w.heap.size w w' := by
  have hew : IntKind.i64.wrap m = m := by simp [IntKind.wrap, IntKind.signed, IntKind.bits]; omega
  have hs1 := partR_size (l := [114]) (z := a) (by simp) (by omega)
  have hs2 := partR_size (l := [111]) (z := b) (by simp) (by omega)
  have hs3 := partR_size (l := []) (z := m) (by simp) (by omega)
  have heq : rlineS ⟨18, a, b, c, m⟩ = ((((⟨#[119, 114, 105, 116, 101]⟩ : ByteArray) ++ partR [114] a) ++ partR [111] b) ++ partR [] m) := by
    refine ByteArray.ext ?_
    simp [rlineS, shOf, shs, opsL, partR, partL]
  rw [heq]
  clear heq
  have q1 : ¬ 9223372036854775807 < 5 + (partR [114] a).size := by omega
  have q2 : ¬ 9223372036854775807 < 5 + (partR [114] a).size + (partR [111] b).size := by omega
  have q3 : ¬ 9223372036854775807 < 5 + (partR [114] a).size + (partR [111] b).size + (partR [] m).size := by omega
  have hbx := InBox.new w ⟨18, a, b, c, m⟩
  simp only at hbx
  have hB1 := (Below.refl _ w).alloc (Nat.le_refl _) (.cells #[.int .i64 18, .int .i64 a, .int .i64 b, .int .i64 c, .int .u32 m] 73)
  have hbx' := Lib.hid hbx
  have hB1' := Lib.hid hB1
  clear hbx hB1
  go_enter Tryz.func38, Tryz.ntmps38
  go_wp2_with fail
  have hbx := hbx'.out
  have hB1 := hB1'.out
  obtain ⟨w1, hw1⟩ : ∃ x, w.alloc (.cells #[.int .i64 18, .int .i64 a, .int .i64 b, .int .i64 c, .int .u32 m] 73) = x := ⟨_, rfl⟩
  obtain ⟨n, hn⟩ : ∃ n, w.heap.size = n := ⟨_, rfl⟩
  rw [hw1] at hbx hB1 ⊢
  rw [hn] at hbx
  simp only [hn]
  clear hw1 hbx' hB1'
  obtain ⟨c0, c1, c2, c3, c4⟩ := hbx.cells
  refine region_to (fun bw => { tmps := #[.agg #[.int .i64 18, .int .i64 a, .int .i64 b, .int .i64 c, .int .u32 m], .pointer (some ⟨n, 0, none⟩), .string ⟨#[]⟩, .string ⟨#[119, 114, 105, 116, 101]⟩, undef, .slice (some ⟨bw, 0, none⟩) 22 22, .pointer (some ⟨n, 0, none⟩), .int .i64 18, .pointer (some ⟨bw, 18, none⟩), .string ⟨#[119, 114, 105, 116, 101]⟩, undef, undef, undef, undef, undef, undef, undef, undef, undef, undef, undef, undef, undef, undef, undef, undef, undef, undef, undef, undef, undef, undef, undef, undef, undef, undef, undef, undef, undef, undef, undef, undef, undef, undef, undef, undef, undef, undef, undef, undef, undef, undef, undef, undef, undef, undef, undef, undef, undef, undef, undef, undef, undef, undef, undef, undef, undef, undef, undef, undef, undef, undef, undef, undef, undef, undef, undef, undef, undef, undef, undef, undef, undef, undef, undef, undef, undef, undef, undef, undef, undef, undef, undef, undef, undef, undef, undef, undef, undef, undef, undef, undef, undef, undef, undef, undef, undef, undef, undef, undef, undef, undef, undef, undef, undef, undef, undef, undef, undef, undef, undef, undef, undef, undef, undef, undef], defers := [] }) (fun bw w' => Below w1.heap.size w1 w' ∧ InBox w' n ⟨18, a, b, c, m⟩) ?reg ?cont
  case reg =>
    refine wp_region_held_drew (S := fun w' => Below w1.heap.size w1 w' ∧ InBox w' n ⟨18, a, b, c, m⟩ ∧ w'.cell? ⟨n, 0, none⟩ = some (.int .i64 18)) (by kernel_rfl) (⟨(Below.refl _ w1).drew, hbx, c0⟩ : RgSt w1 n ⟨18, a, b, c, m⟩ w1.drew) (fun hHeld => ?_)
    generalize w1.drew = wd at hHeld ⊢
    refine tkH 1 ?_
    try first | simp only [pS, List.set] | simp only [pN]
    refine tkH 2 ?_
    try first | simp only [pS, List.set] | simp only [pN]
    refine wpAnyH_ready (rs := [0]) (by kernel_rfl) (by simp) ?_
    refine AllReadyH.cons (o := ?_) ?_ (fun K hK => ?_) AllReadyH.nil
    rotate_left
    · (simp only [List.getElem?_toArray, List.getElem?_cons_zero]; rfl)
    go_simp
    go_at_call 48
    refine (rwords_any _).mono ?_
    rintro e wx ⟨bw, rfl, hcw, hlw, hbw⟩
    have hSx := RgSt.below (w1 := w1) (n := n) (e := ⟨18, a, b, c, m⟩) hHeld hbw
    have hcw0 := hcw 18 ⟨#[119, 114, 105, 116, 101]⟩ rfl
    refine hK.out _ _ hSx (fun hHeld => ?_)
    clear hK K
    try first | simp only [pS, List.set] | simp only [pN]
    have hSy : (RgSt w1 n ⟨18, a, b, c, m⟩ _) ∧ _ := ⟨hHeld, hcw0⟩
    refine wpAnyH_strong (S' := fun w' => (Below w1.heap.size w1 w' ∧ InBox w' n ⟨18, a, b, c, m⟩ ∧ w'.cell? ⟨n, 0, none⟩ = some (.int .i64 18)) ∧ w'.cell? ⟨bw, 18, none⟩ = some (.string ⟨#[119, 114, 105, 116, 101]⟩)) (fun w h => h.1) _ _ _ _ ?_
    refine tkH 3 ?_
    try first | simp only [pS, List.set] | simp only [pN]
    refine tkH 4 ?_
    try first | simp only [pS, List.set] | simp only [pN]
    refine tkH 5 ?_
    try first | simp only [pS, List.set] | simp only [pN]
    refine wpAnyH_done (by kernel_rfl) ?_ _
    exact ⟨rfl, bw, rfl, hHeld.1, hHeld.2.1⟩
  rintro bw w2 ⟨hb2, hbx2⟩
  dsimp only
  clear c0 c1 c2 c3 c4
  obtain ⟨c0, c1, c2, c3, c4⟩ := hbx2.cells
  have hBf : Below n w w2 := by rw [← hn]; exact hB1.trans (hb2.mono hB1.size)
  have hBf' := Lib.hid hBf
  clear hB1 hb2 hbx hbx2 hBf
  go_wp2_with fail
  have hSd : RlSt w2 n a b c m w2.drew := RlSt.drew ⟨Below.refl _ _, c1, c2, c3, c4⟩
  go_region_held3 (fun w' => Below w2.heap.size w2 w' ∧ w'.cell? ⟨n, 1, none⟩ = some (.int .i64 a) ∧ w'.cell? ⟨n, 2, none⟩ = some (.int .i64 b) ∧ w'.cell? ⟨n, 3, none⟩ = some (.int .i64 c) ∧ w'.cell? ⟨n, 4, none⟩ = some (.int .u32 m))
    (first | exact hSd | assumption)
    (first
      | (go_at_call 66; refine (rpart_any _ _ _ (by simp) (by omega)).mono ?_; rintro e wx ⟨rfl, hbx⟩; have hSx := RlSt.below (w2 := w2) (n := n) (a := a) (b := b) (c := c) (m := m) (by assumption) hbx))
  all_goals
    go_wp2_with fail
    go_ret
    exact ⟨rfl, by first | exact hBf'.out.trans (hSx.1.mono (by have := hBf'.out.size; omega)) | (rw [hn]; exact hBf'.out.trans (hSx.1.mono (by have := hBf'.out.size; omega)))⟩

set_option maxRecDepth 100000 in
set_option maxHeartbeats 4000000 in
theorem rline_19 (a b c m : Int) (w : World) (ha : 0 ≤ a ∧ a < 256) (hb : 0 ≤ b ∧ b < 256) (_hc : 0 ≤ c ∧ c < 256) (hm : 0 ≤ m ∧ m < 4294967296) :
    Calls Tryz.prog 38 #[.agg #[.int .i64 19, .int .i64 a, .int .i64 b, .int .i64 c, .int .u32 m]] w fun r w' => r = .returned (.string (rlineS ⟨19, a, b, c, m⟩)) ∧ Below w.heap.size w w' := by
  have hew : IntKind.i64.wrap m = m := by simp [IntKind.wrap, IntKind.signed, IntKind.bits]; omega
  have hs1 := partR_size (l := [114]) (z := a) (by simp) (by omega)
  have hs2 := partR_size (l := [111]) (z := b) (by simp) (by omega)
  have hs3 := partR_size (l := []) (z := m) (by simp) (by omega)
  have heq : rlineS ⟨19, a, b, c, m⟩ = ((((⟨#[112, 117, 116]⟩ : ByteArray) ++ partR [114] a) ++ partR [111] b) ++ partR [] m) := by
    refine ByteArray.ext ?_
    simp [rlineS, shOf, shs, opsL, partR, partL]
  rw [heq]
  clear heq
  have q1 : ¬ 9223372036854775807 < 3 + (partR [114] a).size := by omega
  have q2 : ¬ 9223372036854775807 < 3 + (partR [114] a).size + (partR [111] b).size := by omega
  have q3 : ¬ 9223372036854775807 < 3 + (partR [114] a).size + (partR [111] b).size + (partR [] m).size := by omega
  have hbx := InBox.new w ⟨19, a, b, c, m⟩
  simp only at hbx
  have hB1 := (Below.refl _ w).alloc (Nat.le_refl _) (.cells #[.int .i64 19, .int .i64 a, .int .i64 b, .int .i64 c, .int .u32 m] 73)
  have hbx' := Lib.hid hbx
  have hB1' := Lib.hid hB1
  clear hbx hB1
  go_enter Tryz.func38, Tryz.ntmps38
  go_wp2_with fail
  have hbx := hbx'.out
  have hB1 := hB1'.out
  obtain ⟨w1, hw1⟩ : ∃ x, w.alloc (.cells #[.int .i64 19, .int .i64 a, .int .i64 b, .int .i64 c, .int .u32 m] 73) = x := ⟨_, rfl⟩
  obtain ⟨n, hn⟩ : ∃ n, w.heap.size = n := ⟨_, rfl⟩
  rw [hw1] at hbx hB1 ⊢
  rw [hn] at hbx
  simp only [hn]
  clear hw1 hbx' hB1'
  obtain ⟨c0, c1, c2, c3, c4⟩ := hbx.cells
  refine region_to (fun bw => { tmps := #[.agg #[.int .i64 19, .int .i64 a, .int .i64 b, .int .i64 c, .int .u32 m], .pointer (some ⟨n, 0, none⟩), .string ⟨#[]⟩, .string ⟨#[112, 117, 116]⟩, undef, .slice (some ⟨bw, 0, none⟩) 22 22, .pointer (some ⟨n, 0, none⟩), .int .i64 19, .pointer (some ⟨bw, 19, none⟩), .string ⟨#[112, 117, 116]⟩, undef, undef, undef, undef, undef, undef, undef, undef, undef, undef, undef, undef, undef, undef, undef, undef, undef, undef, undef, undef, undef, undef, undef, undef, undef, undef, undef, undef, undef, undef, undef, undef, undef, undef, undef, undef, undef, undef, undef, undef, undef, undef, undef, undef, undef, undef, undef, undef, undef, undef, undef, undef, undef, undef, undef, undef, undef, undef, undef, undef, undef, undef, undef, undef, undef, undef, undef, undef, undef, undef, undef, undef, undef, undef, undef, undef, undef, undef, undef, undef, undef, undef, undef, undef, undef, undef, undef, undef, undef, undef, undef, undef, undef, undef, undef, undef, undef, undef, undef, undef, undef, undef, undef, undef, undef, undef, undef, undef, undef, undef, undef, undef, undef, undef, undef, undef], defers := [] }) (fun bw w' => Below w1.heap.size w1 w' ∧ InBox w' n ⟨19, a, b, c, m⟩) ?reg ?cont
  case reg =>
    refine wp_region_held_drew (S := fun w' => Below w1.heap.size w1 w' ∧ InBox w' n ⟨19, a, b, c, m⟩ ∧ w'.cell? ⟨n, 0, none⟩ = some (.int .i64 19)) (by kernel_rfl) (⟨(Below.refl _ w1).drew, hbx, c0⟩ : RgSt w1 n ⟨19, a, b, c, m⟩ w1.drew) (fun hHeld => ?_)
    generalize w1.drew = wd at hHeld ⊢
    refine tkH 1 ?_
    try first | simp only [pS, List.set] | simp only [pN]
    refine tkH 2 ?_
    try first | simp only [pS, List.set] | simp only [pN]
    refine wpAnyH_ready (rs := [0]) (by kernel_rfl) (by simp) ?_
    refine AllReadyH.cons (o := ?_) ?_ (fun K hK => ?_) AllReadyH.nil
    rotate_left
    · (simp only [List.getElem?_toArray, List.getElem?_cons_zero]; rfl)
    go_simp
    go_at_call 48
    refine (rwords_any _).mono ?_
    rintro e wx ⟨bw, rfl, hcw, hlw, hbw⟩
    have hSx := RgSt.below (w1 := w1) (n := n) (e := ⟨19, a, b, c, m⟩) hHeld hbw
    have hcw0 := hcw 19 ⟨#[112, 117, 116]⟩ rfl
    refine hK.out _ _ hSx (fun hHeld => ?_)
    clear hK K
    try first | simp only [pS, List.set] | simp only [pN]
    have hSy : (RgSt w1 n ⟨19, a, b, c, m⟩ _) ∧ _ := ⟨hHeld, hcw0⟩
    refine wpAnyH_strong (S' := fun w' => (Below w1.heap.size w1 w' ∧ InBox w' n ⟨19, a, b, c, m⟩ ∧ w'.cell? ⟨n, 0, none⟩ = some (.int .i64 19)) ∧ w'.cell? ⟨bw, 19, none⟩ = some (.string ⟨#[112, 117, 116]⟩)) (fun w h => h.1) _ _ _ _ ?_
    refine tkH 3 ?_
    try first | simp only [pS, List.set] | simp only [pN]
    refine tkH 4 ?_
    try first | simp only [pS, List.set] | simp only [pN]
    refine tkH 5 ?_
    try first | simp only [pS, List.set] | simp only [pN]
    refine wpAnyH_done (by kernel_rfl) ?_ _
    exact ⟨rfl, bw, rfl, hHeld.1, hHeld.2.1⟩
  rintro bw w2 ⟨hb2, hbx2⟩
  dsimp only
  clear c0 c1 c2 c3 c4
  obtain ⟨c0, c1, c2, c3, c4⟩ := hbx2.cells
  have hBf : Below n w w2 := by rw [← hn]; exact hB1.trans (hb2.mono hB1.size)
  have hBf' := Lib.hid hBf
  clear hB1 hb2 hbx hbx2 hBf
  go_wp2_with fail
  have hSd : RlSt w2 n a b c m w2.drew := RlSt.drew ⟨Below.refl _ _, c1, c2, c3, c4⟩
  go_region_held3 (fun w' => Below w2.heap.size w2 w' ∧ w'.cell? ⟨n, 1, none⟩ = some (.int .i64 a) ∧ w'.cell? ⟨n, 2, none⟩ = some (.int .i64 b) ∧ w'.cell? ⟨n, 3, none⟩ = some (.int .i64 c) ∧ w'.cell? ⟨n, 4, none⟩ = some (.int .u32 m))
    (first | exact hSd | assumption)
    (first
      | (go_at_call 66; refine (rpart_any _ _ _ (by simp) (by omega)).mono ?_; rintro e wx ⟨rfl, hbx⟩; have hSx := RlSt.below (w2 := w2) (n := n) (a := a) (b := b) (c := c) (m := m) (by assumption) hbx))
  all_goals
    go_wp2_with fail
    go_ret
    exact ⟨rfl, by first | exact hBf'.out.trans (hSx.1.mono (by have := hBf'.out.size; omega)) | (rw [hn]; exact hBf'.out.trans (hSx.1.mono (by have := hBf'.out.size; omega)))⟩

set_option maxRecDepth 100000 in
set_option maxHeartbeats 4000000 in
theorem rline_20 (a b c m : Int) (w : World) (ha : 0 ≤ a ∧ a < 256) (hb : 0 ≤ b ∧ b < 256) (_hc : 0 ≤ c ∧ c < 256) (hm : 0 ≤ m ∧ m < 4294967296) :
    Calls Tryz.prog 38 #[.agg #[.int .i64 20, .int .i64 a, .int .i64 b, .int .i64 c, .int .u32 m]] w fun r w' => r = .returned (.string (rlineS ⟨20, a, b, c, m⟩)) ∧ Below w.heap.size w w' := by
  have hew : IntKind.i64.wrap m = m := by simp [IntKind.wrap, IntKind.signed, IntKind.bits]; omega
  have hs1 := partR_size (l := [114]) (z := a) (by simp) (by omega)
  have hs2 := partR_size (l := [111]) (z := b) (by simp) (by omega)
  have hs3 := partR_size (l := []) (z := m) (by simp) (by omega)
  have heq : rlineS ⟨20, a, b, c, m⟩ = ((((⟨#[116, 97, 107, 101]⟩ : ByteArray) ++ partR [114] a) ++ partR [111] b) ++ partR [] m) := by
    refine ByteArray.ext ?_
    simp [rlineS, shOf, shs, opsL, partR, partL]
  rw [heq]
  clear heq
  have q1 : ¬ 9223372036854775807 < 4 + (partR [114] a).size := by omega
  have q2 : ¬ 9223372036854775807 < 4 + (partR [114] a).size + (partR [111] b).size := by omega
  have q3 : ¬ 9223372036854775807 < 4 + (partR [114] a).size + (partR [111] b).size + (partR [] m).size := by omega
  have hbx := InBox.new w ⟨20, a, b, c, m⟩
  simp only at hbx
  have hB1 := (Below.refl _ w).alloc (Nat.le_refl _) (.cells #[.int .i64 20, .int .i64 a, .int .i64 b, .int .i64 c, .int .u32 m] 73)
  have hbx' := Lib.hid hbx
  have hB1' := Lib.hid hB1
  clear hbx hB1
  go_enter Tryz.func38, Tryz.ntmps38
  go_wp2_with fail
  have hbx := hbx'.out
  have hB1 := hB1'.out
  obtain ⟨w1, hw1⟩ : ∃ x, w.alloc (.cells #[.int .i64 20, .int .i64 a, .int .i64 b, .int .i64 c, .int .u32 m] 73) = x := ⟨_, rfl⟩
  obtain ⟨n, hn⟩ : ∃ n, w.heap.size = n := ⟨_, rfl⟩
  rw [hw1] at hbx hB1 ⊢
  rw [hn] at hbx
  simp only [hn]
  clear hw1 hbx' hB1'
  obtain ⟨c0, c1, c2, c3, c4⟩ := hbx.cells
  refine region_to (fun bw => { tmps := #[.agg #[.int .i64 20, .int .i64 a, .int .i64 b, .int .i64 c, .int .u32 m], .pointer (some ⟨n, 0, none⟩), .string ⟨#[]⟩, .string ⟨#[116, 97, 107, 101]⟩, undef, .slice (some ⟨bw, 0, none⟩) 22 22, .pointer (some ⟨n, 0, none⟩), .int .i64 20, .pointer (some ⟨bw, 20, none⟩), .string ⟨#[116, 97, 107, 101]⟩, undef, undef, undef, undef, undef, undef, undef, undef, undef, undef, undef, undef, undef, undef, undef, undef, undef, undef, undef, undef, undef, undef, undef, undef, undef, undef, undef, undef, undef, undef, undef, undef, undef, undef, undef, undef, undef, undef, undef, undef, undef, undef, undef, undef, undef, undef, undef, undef, undef, undef, undef, undef, undef, undef, undef, undef, undef, undef, undef, undef, undef, undef, undef, undef, undef, undef, undef, undef, undef, undef, undef, undef, undef, undef, undef, undef, undef, undef, undef, undef, undef, undef, undef, undef, undef, undef, undef, undef, undef, undef, undef, undef, undef, undef, undef, undef, undef, undef, undef, undef, undef, undef, undef, undef, undef, undef, undef, undef, undef, undef, undef, undef, undef, undef, undef, undef], defers := [] }) (fun bw w' => Below w1.heap.size w1 w' ∧ InBox w' n ⟨20, a, b, c, m⟩) ?reg ?cont
  case reg =>
    refine wp_region_held_drew (S := fun w' => Below w1.heap.size w1 w' ∧ InBox w' n ⟨20, a, b, c, m⟩ ∧ w'.cell? ⟨n, 0, none⟩ = some (.int .i64 20)) (by kernel_rfl) (⟨(Below.refl _ w1).drew, hbx, c0⟩ : RgSt w1 n ⟨20, a, b, c, m⟩ w1.drew) (fun hHeld => ?_)
    generalize w1.drew = wd at hHeld ⊢
    refine tkH 1 ?_
    try first | simp only [pS, List.set] | simp only [pN]
    refine tkH 2 ?_
    try first | simp only [pS, List.set] | simp only [pN]
    refine wpAnyH_ready (rs := [0]) (by kernel_rfl) (by simp) ?_
    refine AllReadyH.cons (o := ?_) ?_ (fun K hK => ?_) AllReadyH.nil
    rotate_left
    · (simp only [List.getElem?_toArray, List.getElem?_cons_zero]; rfl)
    go_simp
    go_at_call 48
    refine (rwords_any _).mono ?_
    rintro e wx ⟨bw, rfl, hcw, hlw, hbw⟩
    have hSx := RgSt.below (w1 := w1) (n := n) (e := ⟨20, a, b, c, m⟩) hHeld hbw
    have hcw0 := hcw 20 ⟨#[116, 97, 107, 101]⟩ rfl
    refine hK.out _ _ hSx (fun hHeld => ?_)
    clear hK K
    try first | simp only [pS, List.set] | simp only [pN]
    have hSy : (RgSt w1 n ⟨20, a, b, c, m⟩ _) ∧ _ := ⟨hHeld, hcw0⟩
    refine wpAnyH_strong (S' := fun w' => (Below w1.heap.size w1 w' ∧ InBox w' n ⟨20, a, b, c, m⟩ ∧ w'.cell? ⟨n, 0, none⟩ = some (.int .i64 20)) ∧ w'.cell? ⟨bw, 20, none⟩ = some (.string ⟨#[116, 97, 107, 101]⟩)) (fun w h => h.1) _ _ _ _ ?_
    refine tkH 3 ?_
    try first | simp only [pS, List.set] | simp only [pN]
    refine tkH 4 ?_
    try first | simp only [pS, List.set] | simp only [pN]
    refine tkH 5 ?_
    try first | simp only [pS, List.set] | simp only [pN]
    refine wpAnyH_done (by kernel_rfl) ?_ _
    exact ⟨rfl, bw, rfl, hHeld.1, hHeld.2.1⟩
  rintro bw w2 ⟨hb2, hbx2⟩
  dsimp only
  clear c0 c1 c2 c3 c4
  obtain ⟨c0, c1, c2, c3, c4⟩ := hbx2.cells
  have hBf : Below n w w2 := by rw [← hn]; exact hB1.trans (hb2.mono hB1.size)
  have hBf' := Lib.hid hBf
  clear hB1 hb2 hbx hbx2 hBf
  go_wp2_with fail
  have hSd : RlSt w2 n a b c m w2.drew := RlSt.drew ⟨Below.refl _ _, c1, c2, c3, c4⟩
  go_region_held3 (fun w' => Below w2.heap.size w2 w' ∧ w'.cell? ⟨n, 1, none⟩ = some (.int .i64 a) ∧ w'.cell? ⟨n, 2, none⟩ = some (.int .i64 b) ∧ w'.cell? ⟨n, 3, none⟩ = some (.int .i64 c) ∧ w'.cell? ⟨n, 4, none⟩ = some (.int .u32 m))
    (first | exact hSd | assumption)
    (first
      | (go_at_call 66; refine (rpart_any _ _ _ (by simp) (by omega)).mono ?_; rintro e wx ⟨rfl, hbx⟩; have hSx := RlSt.below (w2 := w2) (n := n) (a := a) (b := b) (c := c) (m := m) (by assumption) hbx))
  all_goals
    go_wp2_with fail
    go_ret
    exact ⟨rfl, by first | exact hBf'.out.trans (hSx.1.mono (by have := hBf'.out.size; omega)) | (rw [hn]; exact hBf'.out.trans (hSx.1.mono (by have := hBf'.out.size; omega)))⟩

end Go.Proofs.YtfgmebjbibbpdaaGreatDoor

namespace Go.Proofs.YtfgmebjbibbpdaaGreatDoor
open Go.RowKit

theorem rline_any (i : Ins) (w : World) (h : insB i = true) (hk : i.ok) : Calls Tryz.prog 38 #[insV i] w fun r w' => r = .returned (.string (lineS i)) ∧ Below w.heap.size w w' := by
  rw [← rline_eq]
  obtain ⟨ha, hb, hc, hm⟩ := fields_bd h hk
  have hkn := (ins_bd h hk).1
  obtain ⟨op, a, b, c, m⟩ := i
  unfold insV
  simp only at ha hb hc hm hkn ⊢
  refine op_all (P := fun op => Calls Tryz.prog 38 #[.agg #[.int .i64 op, .int .i64 a, .int .i64 b, .int .i64 c, .int .u32 m]] w fun r w' => r = .returned (.string (rlineS ⟨op, a, b, c, m⟩)) ∧ Below w.heap.size w w') ?_ op hkn
  intro k hk
  have hcs : k = 0 ∨ k = 1 ∨ k = 2 ∨ k = 3 ∨ k = 4 ∨ k = 5 ∨ k = 6 ∨ k = 7 ∨ k = 8 ∨ k = 9 ∨ k = 10 ∨ k = 11 ∨ k = 12 ∨ k = 13 ∨ k = 14 ∨ k = 15 ∨ k = 16 ∨ k = 17 ∨ k = 18 ∨ k = 19 ∨ k = 20 ∨ k = 21 := by omega
  rcases hcs with rfl | rfl | rfl | rfl | rfl | rfl | rfl | rfl | rfl | rfl | rfl | rfl | rfl | rfl | rfl | rfl | rfl | rfl | rfl | rfl | rfl | rfl
  · exact rline_0 a b c m w ha hb hc hm
  · exact rline_1 a b c m w ha hb hc hm
  · exact rline_2 a b c m w ha hb hc hm
  · exact rline_3 a b c m w ha hb hc hm
  · exact rline_4 a b c m w ha hb hc hm
  · exact rline_5 a b c m w ha hb hc hm
  · exact rline_6 a b c m w ha hb hc hm
  · exact rline_7 a b c m w ha hb hc hm
  · exact rline_8 a b c m w ha hb hc hm
  · exact rline_9 a b c m w ha hb hc hm
  · exact rline_10 a b c m w ha hb hc hm
  · exact rline_11 a b c m w ha hb hc hm
  · exact rline_12 a b c m w ha hb hc hm
  · exact rline_13 a b c m w ha hb hc hm
  · exact rline_14 a b c m w ha hb hc hm
  · exact rline_15 a b c m w ha hb hc hm
  · exact rline_16 a b c m w ha hb hc hm
  · exact rline_17 a b c m w ha hb hc hm
  · exact rline_18 a b c m w ha hb hc hm
  · exact rline_19 a b c m w ha hb hc hm
  · exact rline_20 a b c m w ha hb hc hm
  · exact rline_21 a b c m w ha hb hc hm

end Go.Proofs.YtfgmebjbibbpdaaGreatDoor

namespace Go.Proofs.YtfgmebjbibbpdaaGreatDoor
open Go.RowKit

def textS (l : List Ins) : ByteArray := ⟨(textOf l).toArray⟩
def printS (l : List Ins) : ByteArray := if okAll l = true then textS l else ⟨#[]⟩
theorem okAll_snoc {l : List Ins} {k : Nat} {e : Ins} (h : l[k]? = some e) : okAll (l.take (k + 1)) = (okAll (l.take k) && insB e) := by
  rw [take_snoc h]
  unfold okAll
  rw [List.all_append]
  simp
theorem okAll_no {l : List Ins} {k : Nat} {e : Ins} (h : l[k]? = some e) (he : insB e = false) : okAll l = false := by
  unfold okAll
  rw [List.all_eq_false]
  exact ⟨e, List.mem_of_getElem? h, by rw [he]; simp⟩
theorem textOf_take {l : List Ins} {k : Nat} {e : Ins} (h : l[k]? = some e) : textOf (l.take (k + 1)) = textOf (l.take k) ++ (lineL e ++ [10]) := by rw [take_snoc h, textOf_snoc]
theorem textOf_len (l : List Ins) (h : okAll l = true) (hk : ∀ e ∈ l, e.ok) : (textOf l).length ≤ 64 * l.length := by
  induction l with
  | nil => simp [textOf]
  | cons e l ih =>
    unfold okAll at h ih
    rw [List.all_cons, Bool.and_eq_true] at h
    have h1 := lineL_len h.1 (hk e (by simp))
    have h2 := ih h.2 (fun x hx => hk x (by simp [hx]))
    have : textOf (e :: l) = lineL e ++ [10] ++ textOf l := by simp [textOf]
    rw [this]
    simp only [List.length_append, List.length_cons, List.length_nil]
    omega
theorem lineS_size {e : Ins} (h : insB e = true) (hk : e.ok) : (lineS e).size ≤ 63 := by
  have h1 := lineL_len h hk
  have : (lineS e).size = (lineL e).length := by simp [lineS, ByteArray.size]
  omega

set_option maxRecDepth 100000 in
set_option maxHeartbeats 2000000 in
theorem rprint_any (A : Option Addr) (c : Nat) (l : List Ins) (w : World) (hn : l.length ≤ 3000) (hl : InSl w w.heap.size A l) :
    Calls Tryz.prog 20 #[.slice A l.length c] w fun e w' => e = .returned (.tuple #[.string (printS l), .bool (okAll l)]) ∧ Below w.heap.size w w' := by
  go_enter Tryz.func20, Tryz.ntmps20
  go_wp2_with fail
  go_loopw [4, 9] (fun s j wr => ∃ k : Nat, k ≤ l.length ∧ j = .int .i64 k ∧ s = .string ⟨(textOf (l.take k)).toArray⟩ ∧ okAll (l.take k) = true ∧ Below w.heap.size w wr) (fun _ j _ => l.length - (intOf j).toNat)
  case atStart => exact ⟨0, Nat.zero_le _, rfl, rfl, rfl, Below.refl _ _⟩
  case round =>
    obtain ⟨k, hk, rfl, rfl, hok, hb⟩ := hrel
    by_cases hlt : k < l.length
    · obtain ⟨e, he⟩ := get_some hlt
      obtain ⟨hke, b, off, rfl, hlb, h0, h1, h2, h3, h4⟩ := (hl.below hb (Nat.le_refl _)).get he
      have hsz := textOf_len (l.take k) hok (fun x hx => hl.2 x (List.mem_of_mem_take hx))
      rw [List.length_take] at hsz
      obtain ⟨S, hS⟩ : ∃ S : ByteArray, (⟨(textOf (l.take k)).toArray⟩ : ByteArray) = S := ⟨_, rfl⟩
      have hSs : S.size ≤ 64 * 3000 := by
        rw [← hS]
        have : (⟨(textOf (l.take k)).toArray⟩ : ByteArray).size = (textOf (l.take k)).length := by simp [ByteArray.size]
        omega
      have hrr := fun W => rright_any e W
      have hln := fun W h => rline_any e W h hke
      have hbx := InBox.new wr e
      have hB1 := hb.alloc hb.size (.cells #[.int .i64 e.op, .int .i64 e.a, .int .i64 e.b, .int .i64 e.c, .int .u32 e.n] 73)
      have hsz1 : w.heap.size ≤ (wr.alloc (.cells #[.int .i64 e.op, .int .i64 e.a, .int .i64 e.b, .int .i64 e.c, .int .u32 e.n] 73)).heap.size := hB1.size
      obtain ⟨nb, hnb⟩ : ∃ x, wr.heap.size = x := ⟨_, rfl⟩
      have hS' := Lib.hid hS
      have he' := Lib.hid he
      have hok' := Lib.hid hok
      rw [hS]
      clear hS he hok hsz
      rcases hq : insB e with _ | _
      · rw [hq] at hrr
        have hno := Lib.hid (okAll_no he'.out hq)
        have hrr' := Lib.hid hrr
        clear hrr hln hq
        go_wp2_with fail
        refine (hrr'.out _).mono ?_
        rintro e1 w1 ⟨rfl, hb1⟩
        go_wp2_with fail
        go_ret2
        exact ⟨by unfold printS; rw [hno.out]; rfl, hB1.trans (hb1.mono hsz1)⟩
      · have hR := hq
        have hD := lineS_size hR hke
        have hln' := Lib.hid (fun W => hln W hR)
        rw [hq] at hrr
        have hq' := Lib.hid hq
        have hrr' := Lib.hid hrr
        obtain ⟨D, hDe⟩ : ∃ D, lineS e = D := ⟨_, rfl⟩
        rw [hDe] at hln' hD
        have hDe' := Lib.hid hDe
        clear hrr hln hq hR hDe
        have z1 : ¬ 9223372036854775807 < S.size + D.size := by omega
        have z2 : ¬ 9223372036854775807 < S.size + D.size + 1 := by omega
        go_wp2_with fail
        refine (hrr'.out _).mono ?_
        rintro e1 w1 ⟨rfl, hb1⟩
        have hbx1 := hbx.kept hb1
        have hB2 := hB1.trans (hb1.mono hsz1)
        rw [hnb] at hbx1
        obtain ⟨c0, c1, c2, c3, c4⟩ := hbx1.cells
        clear hbx hbx1 hb1 hB1 hsz1
        go_wp2_with fail
        refine (hln'.out _).mono ?_
        rintro e2 w2 ⟨rfl, hb2⟩
        go_wp2_with fail
        go_roundw
        case rel => exact ⟨k + 1, by omega, by go_num, by
            rw [textOf_take he'.out, ← hS'.out, ← hDe'.out]
            refine congrArg Value.string (ByteArray.ext ?_)
            simp [lineS], by rw [okAll_snoc he'.out, hok'.out, hq'.out]; rfl, hB2.trans (hb2.mono hB2.size)⟩
        case measure => simp [intOf]; omega
    · have ht := take_all hlt
      rw [ht] at hok ⊢
      have hok' := Lib.hid hok
      clear hok
      go_wp2_with fail
      go_ret2
      exact ⟨by unfold printS textS; rw [hok'.out]; rfl, hb⟩

theorem builder_kept {B b : Nat} {bs : List Value} {w w' : World} (h : Lib.IsBuilder 50 5 B b bs w) (hb : Below w.heap.size w w') : Lib.IsBuilder 50 5 B b bs w' := by
  have key : ∀ p, Lib.BuilderAt 50 5 B b p bs w → Lib.BuilderAt 50 5 B b p bs w' := fun p ⟨h1, v, h2, h3, h4⟩ =>
    ⟨h1, v, (hb.block b (Array.getElem?_eq_some_iff.1 h2).1).trans h2, (by
      refine ⟨h3.1, ?_⟩
      rcases h3.2 with h5 | ⟨g, cap, cur, hv, hg, hh, r⟩
      · exact .inl h5
      · exact .inr ⟨g, cap, cur, hv, hg, (hb.block g (Array.getElem?_eq_some_iff.1 hh).1).trans hh, r⟩), h4⟩
  rcases h with h | h
  · exact .inl (key _ h)
  · exact .inr (key _ h)
theorem builder_new (w : World) : Lib.IsBuilder 50 5 w.heap.size w.heap.size [] (w.alloc (.cells #[.pointer none, .slice none 0 0] 50)) :=
  .inl ⟨Nat.le_refl _, .slice none 0 0, heap_alloc_new w _, World.ownsRow_nil _ _ _ _, by simp [Value.ownBlock]⟩
theorem str_bytes (l : List UInt8) (s : ByteArray) : Lib.byteCells l ++ Lib.strCells s = Lib.byteCells (l ++ s.data.toList) := by rw [Lib.byteCells_append]; rfl

end Go.Proofs.YtfgmebjbibbpdaaGreatDoor

namespace Go.Proofs.YtfgmebjbibbpdaaGreatDoor
open Go.RowKit

theorem byte_back {d : Nat} {b : UInt8} (h : d < 10) (hb : UInt8.ofNat (48 + d) = b) (W : World) (a : Addr) (cap : Nat) (hc : W.cell? a = some (.int .u8 (48 + (d : Int)))) :
    (convert 48 9 (.slice (some a) 1 cap)).run Tryz.prog W = .ok (.string ⟨#[b]⟩) W :=
  run_convert_bytes_back W 48 9 5 a cap [b] Tryz.underlying48 Tryz.underlying5 Tryz.underlying9 (fun j hj => by
    have : j = 0 := by simpa using hj
    subst this
    have e : a.add 0 = a := by simp [Addr.add]
    rw [e, hc]
    have : b.toNat = 48 + d := by rw [← hb, UInt8.toNat_ofNat']; omega
    simp [this])
theorem numS_le {u : Nat} (h : u < 18446744073709551616) : (numS u).size ≤ 20 := by
  have h2 : (numS u).size = (Lib.decDigits u).length := rfl
  rw [h2]
  exact dd_len 19 u (by omega)
theorem i64_wrap {x : Int} (h0 : 0 ≤ x) (h : x < 9223372036854775808) : IntKind.i64.wrap x = x := by
  simp [IntKind.wrap, IntKind.signed, IntKind.bits]
  omega

set_option maxHeartbeats 1000000 in
theorem num_any : ∀ (n u : Nat) (x : Int) (w : World), x = (u : Int) → u < n → u < 9223372036854775000 → Calls Tryz.prog 64 #[.int .i64 x] w fun e w' => e = .returned (.string (numS u)) ∧ Below w.heap.size w w' := by
  intro n
  induction n with
  | zero => intro u _ w _ h _; omega
  | succ n ih =>
    rintro u _ w rfl hn hu
    by_cases h10 : u < 10
    · rw [numS_small h10]
      obtain ⟨b, hb⟩ : ∃ b, UInt8.ofNat (48 + u) = b := ⟨_, rfl⟩
      rw [hb]
      have t1 : decide ((u : Int) < 10) = true := by rw [decide_eq_true_iff]; omega
      have hcb := byte_back h10 hb
      have e3 : IntKind.i64.wrap (48 + (u : Int)) = 48 + (u : Int) := i64_wrap (by omega) (by omega)
      have e4 : IntKind.u8.wrap (48 + (u : Int)) = 48 + (u : Int) := wrap_u8 (by omega) (by omega)
      clear hb ih
      go_enter Tryz.func64, Tryz.ntmps64
      go_wp2_with fail
      go_ret
      exact ⟨rfl, (Below.refl _ w).alloc (Nat.le_refl _) _⟩
    · rw [numS_big h10]
      obtain ⟨b, hb⟩ : ∃ b, UInt8.ofNat (48 + u % 10) = b := ⟨_, rfl⟩
      rw [hb]
      have t1 : decide ((u : Int) < 10) = false := by rw [decide_eq_false_iff_not]; omega
      have hcb := byte_back (show u % 10 < 10 by omega) hb
      obtain ⟨q, hq⟩ : ∃ q, u / 10 = q := ⟨_, rfl⟩
      obtain ⟨r, hr⟩ : ∃ r, u % 10 = r := ⟨_, rfl⟩
      have hr10 : r < 10 := by omega
      rw [hr] at hcb
      have e1 : IntKind.i64.wrap (q : Int) = (q : Int) := i64_wrap (by omega) (by omega)
      have e1' : (u : Int).tdiv 10 = (q : Int) := by rw [Int.tdiv_eq_ediv_of_nonneg (by omega)]; omega
      have e2 : (u : Int).tmod 10 = (r : Int) := by rw [Int.tmod_eq_emod_of_nonneg (by omega)]; omega
      have e3 : IntKind.i64.wrap (48 + (r : Int)) = 48 + (r : Int) := i64_wrap (by omega) (by omega)
      have e4 : IntKind.u8.wrap (48 + (r : Int)) = 48 + (r : Int) := wrap_u8 (by omega) (by omega)
      have hz1 : (numS q).size ≤ 20 := numS_le (by omega)
      have hz2 : ¬ 9223372036854775807 ≤ (numS q).size := by omega
      have hz3 : ¬ 9223372036854775807 < (numS q).size + 1 := by omega
      have ih' := fun w => ih q (q : Int) w rfl (by omega) (by omega)
      rw [hq]
      have ih2 := Lib.hid ih'
      clear hb ih ih' hq hr hn h10 hz1
      go_enter Tryz.func64, Tryz.ntmps64
      go_wp2_with fail
      go_region_with (go_at_call 64; refine (ih2.out _).mono ?_; rintro e w1 ⟨rfl, hb⟩
                      have hc := fun p hp => hb.cell (p := p) hp)
      all_goals
        go_wp2_with fail
        go_ret
        first
          | exact ⟨rfl, (((Below.refl _ w).drew).trans (hb.mono (by simp))).alloc (by have := hb.size; simpa using this) _⟩
          | exact ⟨rfl, (((Below.refl _ w).drew.alloc (by simp) _).trans (hb.mono (by simp)))⟩

end Go.Proofs.YtfgmebjbibbpdaaGreatDoor

namespace Go.Proofs.YtfgmebjbibbpdaaGreatDoor
open Go.RowKit
attribute [local go_sem] Oper.semAt_some

def numsT (l : List Int) : List UInt8 := l.flatMap fun z => 32 :: dd z
def numsS (l : List Int) : ByteArray := if l.all topB = true then ⟨(numsT l).toArray⟩ else ⟨#[]⟩
theorem numsT_snoc {l : List Int} {k : Nat} {z : Int} (h : l[k]? = some z) : numsT (l.take (k + 1)) = numsT (l.take k) ++ ([32] ++ dd z) := by
  rw [take_snoc h]
  simp [numsT]
theorem numsT_len (l : List Int) (h : l.all topB = true) : (numsT l).length ≤ 14 * l.length := by
  induction l with
  | nil => simp [numsT]
  | cons z l ih =>
    rw [List.all_cons, Bool.and_eq_true] at h
    have h1 := (dd_top (topB_iff.1 h.1)).2.2.1
    have h2 := ih h.2
    have : numsT (z :: l) = 32 :: dd z ++ numsT l := by simp [numsT]
    rw [this]
    simp only [List.length_append, List.length_cons]
    omega
theorem numsS_no {l : List Int} {k : Nat} {z : Int} (h : l[k]? = some z) (hz : topB z = false) : l.all topB = false ∧ numsS l = ⟨#[]⟩ := by
  have h1 : l.all topB = false := List.all_eq_false.2 ⟨z, List.mem_of_getElem? h, by rw [hz]; decide⟩
  exact ⟨h1, by unfold numsS; rw [h1]; rfl⟩
set_option maxRecDepth 100000 in
set_option maxHeartbeats 2000000 in
theorem rnums_any (A : Option Addr) (c : Nat) (l : List Int) (w : World) (hn : l.length ≤ 100000) (hl : SlOf (ints .i64) w w.heap.size A l) :
    Calls Tryz.prog 36 #[.slice A l.length c] w fun e w' => e = .returned (.tuple #[.string (numsS l), .bool (l.all topB)]) ∧ Below w.heap.size w w' := by
  go_enter Tryz.func36, Tryz.ntmps36
  go_wp2_with fail
  go_loopw [4, 9] (fun s j wr => ∃ k : Nat, k ≤ l.length ∧ j = .int .i64 k ∧ s = .string ⟨(numsT (l.take k)).toArray⟩ ∧ (l.take k).all topB = true ∧ Below w.heap.size w wr) (fun _ j _ => l.length - (intOf j).toNat)
  case atStart => exact ⟨0, Nat.zero_le _, rfl, rfl, rfl, Below.refl _ _⟩
  case round =>
    obtain ⟨k, hk, rfl, rfl, hok, hb⟩ := hrel
    by_cases hlt : k < l.length
    · obtain ⟨z, hz⟩ := get_some hlt
      obtain ⟨b, off, rfl, hlb, hc⟩ := hl k z hz
      have hc' := (hb.cell (p := ⟨b, off + k, none⟩) hlb).trans (by have := hc 0 (.int .i64 z) rfl; simpa [ints, Enc.of1] using this)
      have hsz := numsT_len (l.take k) hok
      rw [List.length_take] at hsz
      obtain ⟨S, hS⟩ : ∃ S : ByteArray, (⟨(numsT (l.take k)).toArray⟩ : ByteArray) = S := ⟨_, rfl⟩
      have hSs : S.size ≤ 14 * 100000 := by
        rw [← hS]
        have : (⟨(numsT (l.take k)).toArray⟩ : ByteArray).size = (numsT (l.take k)).length := by simp [ByteArray.size]
        omega
      have hS' := Lib.hid hS
      have hz' := Lib.hid hz
      have hok' := Lib.hid hok
      rw [hS]
      clear hS hz hok hsz hc
      rcases hq : topB z with _ | _
      · have hno := Lib.hid (numsS_no hz'.out hq)
        have h3 : ¬ (0 ≤ z ∧ z ≤ 1099511627776) := fun e => by rw [topB_iff.2 e] at hq; cases hq
        clear hq
        by_cases hneg : z < 0
        · have t1 : decide (z < 0) = true := decide_eq_true hneg
          clear hneg h3
          go_wp2_with fail
          go_ret2
          exact ⟨by rw [hno.out.1, hno.out.2]; rfl, hb⟩
        · have t1 : decide (z < 0) = false := decide_eq_false hneg
          have t2 : decide ((1099511627776 : Int) < z) = true := decide_eq_true (by omega)
          clear hneg h3
          go_wp2_with fail
          go_ret2
          exact ⟨by rw [hno.out.1, hno.out.2]; rfl, hb⟩
      · have h3 := topB_iff.1 hq
        have hD := (dd_top h3).2.2.1
        obtain ⟨u, hu⟩ : ∃ u : Nat, z = u := ⟨z.toNat, by omega⟩
        have hln := fun W => num_any (u + 1) u z W hu (by omega) (by omega)
        have hD' : numS u = ⟨(dd z).toArray⟩ := by unfold numS dd; rw [hu]; rfl
        have hDs : (numS u).size ≤ 13 := by
          have : (⟨(dd z).toArray⟩ : ByteArray).size = (dd z).length := by simp [ByteArray.size]
          rw [hD']; omega
        obtain ⟨D, hDe⟩ : ∃ D, numS u = D := ⟨_, rfl⟩
        rw [hDe] at hln hDs hD'
        have hln' := Lib.hid hln
        have hDv := Lib.hid hD'
        have t1 : decide (z < 0) = false := decide_eq_false (by omega)
        have t2 : decide ((1099511627776 : Int) < z) = false := decide_eq_false (by omega)
        have hq' := Lib.hid hq
        have z1 : ¬ 9223372036854775807 < S.size + 1 := by omega
        have z2 : ¬ 9223372036854775807 < S.size + 1 + D.size := by omega
        clear hln hq hD hDe hD' hu h3
        go_wp2_with fail
        refine (hln'.out _).mono ?_
        rintro e1 w1 ⟨rfl, hb1⟩
        go_wp2_with fail
        go_roundw
        case rel => exact ⟨k + 1, by omega, by go_num, by
            rw [numsT_snoc hz'.out, ← hS'.out, hDv.out]
            refine congrArg Value.string (ByteArray.ext ?_)
            simp, by rw [take_snoc hz'.out, List.all_append, hok'.out]; simp [hq'.out], hb.trans (hb1.mono hb.size)⟩
        case measure => simp [intOf]; omega
    · have ht := take_all hlt
      rw [ht] at hok ⊢
      have hok' := Lib.hid hok
      clear hok
      go_wp2_with fail
      go_ret2
      exact ⟨by unfold numsS; rw [hok'.out]; rfl, hb⟩

end Go.Proofs.YtfgmebjbibbpdaaGreatDoor

namespace Go.Proofs.YtfgmebjbibbpdaaGreatDoor
open Go.RowKit
attribute [local go_sem] Oper.semAt_some

theorem numsS_size (l : List Int) : (numsS l).size ≤ 14 * l.length := by
  unfold numsS
  split
  · next h =>
    have h1 := numsT_len l h
    have : (⟨(numsT l).toArray⟩ : ByteArray).size = (numsT l).length := by simp [ByteArray.size]
    omega
  · exact Nat.zero_le _
theorem numsS_ok {l : List Int} (h : l.all topB = true) : numsS l = ⟨(numsT l).toArray⟩ := by unfold numsS; rw [if_pos h]
theorem jn_dds (l : List Int) : ∀ p : List UInt8, Lib.join (p :: l.map dd) [32] = p ++ numsT l := by
  induction l with
  | nil => intro p; simp [numsT, Lib.join_one]
  | cons z l ih =>
    intro p
    have h1 : Lib.join (p :: dd z :: l.map dd) [32] = p ++ ([32] ++ Lib.join (dd z :: l.map dd) [32]) := by rw [Lib.join_cons, Lib.join_cons]; simp [Lib.joinTail]
    rw [List.map_cons, h1, ih (dd z)]
    simp [numsT]
theorem headL_two (t : Tk) (k : List UInt8) (h : tkWs.getD t.kd.toNat [] = k) : headL t = taskW ++ ([32] ++ (k ++ numsT t.five)) := by
  unfold headL headP
  rw [h]
  have h2 : Lib.join (taskW :: k :: t.five.map dd) [32] = taskW ++ ([32] ++ Lib.join (k :: t.five.map dd) [32]) := by rw [Lib.join_cons, Lib.join_cons]; simp [Lib.joinTail]
  rw [h2, jn_dds]
set_option maxRecDepth 100000 in
set_option maxHeartbeats 4000000 in
theorem rhead_one (pr pe off dl ow : Int) (code : List Ins) (A : Option Addr) (n c : Nat) (w : World) :
    Calls Tryz.prog 19 #[tkV ⟨1, pr, pe, off, dl, ow, code⟩ A n c] w (HeadR ⟨1, pr, pe, off, dl, ow, code⟩ w) := by
  have hnum := fun (b : Nat) W => rnums_any (some ⟨b, 0, none⟩) 5 [pr, pe, off, dl, ow] W (by simp)
  have hNs := numsS_size [pr, pe, off, dl, ow]
  have hS : [pr, pe, off, dl, ow].all topB = true → numsS [pr, pe, off, dl, ow] = ⟨(numsT [pr, pe, off, dl, ow]).toArray⟩ := numsS_ok
  have hB : headB1 ⟨1, pr, pe, off, dl, ow, code⟩ = ((1 == (1 : Int) || 1 == (2 : Int)) && [pr, pe, off, dl, ow].all topB) := rfl
  obtain ⟨ok, hok⟩ : ∃ ok, [pr, pe, off, dl, ow].all topB = ok := ⟨_, rfl⟩
  obtain ⟨S, hSe⟩ : ∃ S, numsS [pr, pe, off, dl, ow] = S := ⟨_, rfl⟩
  rw [hok, hSe] at hnum
  rw [hok] at hS hB
  rw [hSe] at hNs hS
  have hNS : S.size ≤ 70 := by simpa using hNs
  have z1 : ¬ 9223372036854775807 < 13 + S.size := by omega
  have z2 : ¬ 9223372036854775807 < 4 + 9 + S.size := by omega
  have HN := Lib.hid hnum
  have HS := Lib.hid hS
  have HB := Lib.hid hB
  clear hnum hS hB hok hSe hNs
  unfold tkV
  go_enter Tryz.func19, Tryz.ntmps19
  go_wp2_with fail
  obtain ⟨w1, hw1⟩ : ∃ x, w.alloc (.cells #[.int .i64 1, .int .i64 pr, .int .i64 pe, .int .i64 off, .int .i64 dl, .int .i64 ow, .slice A n c] 46) = x := ⟨_, rfl⟩
  have r1 := RowB.new w #[.int .i64 1, .int .i64 pr, .int .i64 pe, .int .i64 off, .int .i64 dl, .int .i64 ow, .slice A n c] 46
  rw [hw1] at r1 ⊢
  have s1 : w1.heap.size = w.heap.size + 1 := by rw [← hw1, World.size_alloc]
  have x2 := SlOf.new (E := ints .i64) w1 #[.int .i64 pr, .int .i64 pe, .int .i64 off, .int .i64 dl, .int .i64 ow] 3 [pr, pe, off, dl, ow] rfl
  obtain ⟨w2, hw2⟩ : ∃ x, w1.alloc (.cells #[.int .i64 pr, .int .i64 pe, .int .i64 off, .int .i64 dl, .int .i64 ow] 3) = x := ⟨_, rfl⟩
  rw [hw2] at x2 ⊢
  have s2 : w2.heap.size = w1.heap.size + 1 := by rw [← hw2, World.size_alloc]
  rw [← s2, s1] at x2
  have hb2 : Below w.heap.size w w2 := below_al (below_al (Below.refl _ w) (Nat.le_refl _) hw1) (by omega) hw2
  have r2 := r1.kept (w' := w2) (by rw [← hw2]; exact (Below.refl _ w1).alloc (Nat.le_refl _) _)
  refine ((HN.out _ _) x2).mono ?_
  rintro e w3 ⟨rfl, hb3⟩
  have r3 := r2.kept hb3
  have hb4 := hb2.trans (hb3.mono hb2.size)
  have p0 : w3.cell? ⟨w.heap.size, 0, none⟩ = some (.int .i64 1) := (r3.cell 0).trans rfl
  have hp : w.heap.size < w3.heap.size := r3.lt
  clear r1 r2 x2 hb2 hb3 hw1 hw2 s1 s2 r3
  obtain ⟨np, hnp⟩ : ∃ x, w.heap.size = x := ⟨_, rfl⟩
  have HNP := Lib.hid hnp
  have hSd : (fun w' : World => Below w.heap.size w w' ∧ w'.cell? ⟨np, 0, none⟩ = some (.int .i64 1)) w3.drew := ⟨hb4.drew, by rw [← hnp]; exact ((Below.refl w3.heap.size w3).drew.cell (p := ⟨w.heap.size, 0, none⟩) hp).trans p0⟩
  clear p0 hp hb4
  cases ok with
  | false =>
    rw [hnp]
    go_wp2_with fail
    refine wp_region_held_drew (S := (fun w' : World => Below w.heap.size w w' ∧ w'.cell? ⟨np, 0, none⟩ = some (.int .i64 1))) (by kernel_rfl) hSd (fun hHeld => ?_)
    generalize w3.drew = wd at hSd hHeld ⊢
    have hHeld : (fun w' : World => Below w.heap.size w w' ∧ w'.cell? ⟨np, 0, none⟩ = some (.int .i64 1)) wd := hHeld
    refine tkH 0 ?_
    try first | simp only [pS, List.set] | simp only [pN]
    refine tkH 1 ?_
    try first | simp only [pS, List.set] | simp only [pN]
    refine tkH 2 ?_
    try first | simp only [pS, List.set] | simp only [pN]
    refine tkH 3 ?_
    try first | simp only [pS, List.set] | simp only [pN]
    refine tkH 4 ?_
    try first | simp only [pS, List.set] | simp only [pN]
    refine tkH 5 ?_
    try first | simp only [pS, List.set] | simp only [pN]
    refine wpAnyH_take (i := 6) (oi := ?_) (v := undef) ?_ (by kernel_rfl) (by kernel_rfl) (by kernel_rfl) ?_ (Or.inr ⟨?_, rfl⟩) (by assumption) ?_
    rotate_left 1
    · (simp only [List.getElem?_toArray, List.getElem?_cons_succ, List.getElem?_cons_zero]; rfl)
    · first | exact fun _ _ _ h => h | exact fun _ _ _ h => by cases h.1
    · rfl
    try first | simp only [pS, List.set] | simp only [pN]
    refine wpAnyH_take (i := 7) (oi := ?_) (v := undef) ?_ (by kernel_rfl) (by kernel_rfl) (by kernel_rfl) ?_ (Or.inr ⟨?_, rfl⟩) (by assumption) ?_
    rotate_left 1
    · (simp only [List.getElem?_toArray, List.getElem?_cons_succ, List.getElem?_cons_zero]; rfl)
    · first | exact fun _ _ _ h => h | exact fun _ _ _ h => by cases h.1
    · rfl
    try first | simp only [pS, List.set] | simp only [pN]
    refine wpAnyH_take (i := 8) (oi := ?_) (v := undef) ?_ (by kernel_rfl) (by kernel_rfl) (by kernel_rfl) ?_ (Or.inr ⟨?_, rfl⟩) (by assumption) ?_
    rotate_left 1
    · (simp only [List.getElem?_toArray, List.getElem?_cons_succ, List.getElem?_cons_zero]; rfl)
    · first | exact fun _ _ _ h => h | exact fun _ _ _ h => by cases h.1
    · rfl
    try first | simp only [pS, List.set] | simp only [pN]
    refine wpAnyH_take (i := 9) (oi := ?_) (v := undef) ?_ (by kernel_rfl) (by kernel_rfl) (by kernel_rfl) ?_ (Or.inr ⟨?_, rfl⟩) (by assumption) ?_
    rotate_left 1
    · (simp only [List.getElem?_toArray, List.getElem?_cons_succ, List.getElem?_cons_zero]; rfl)
    · first | exact fun _ _ _ h => h | exact fun _ _ _ h => by cases h.1
    · rfl
    try first | simp only [pS, List.set] | simp only [pN]
    refine wpAnyH_take (i := 10) (oi := ?_) (v := undef) ?_ (by kernel_rfl) (by kernel_rfl) (by kernel_rfl) ?_ (Or.inr ⟨?_, rfl⟩) (by assumption) ?_
    rotate_left 1
    · (simp only [List.getElem?_toArray, List.getElem?_cons_succ, List.getElem?_cons_zero]; rfl)
    · first | exact fun _ _ _ h => h | exact fun _ _ _ h => by cases h.1
    · rfl
    try first | simp only [pS, List.set] | simp only [pN]
    refine wpAnyH_take (i := 11) (oi := ?_) (v := undef) ?_ (by kernel_rfl) (by kernel_rfl) (by kernel_rfl) ?_ (Or.inr ⟨?_, rfl⟩) (by assumption) ?_
    rotate_left 1
    · (simp only [List.getElem?_toArray, List.getElem?_cons_succ, List.getElem?_cons_zero]; rfl)
    · first | exact fun _ _ _ h => h | exact fun _ _ _ h => by cases h.1
    · rfl
    try first | simp only [pS, List.set] | simp only [pN]
    refine wpAnyH_take (i := 12) (oi := ?_) (v := undef) ?_ (by kernel_rfl) (by kernel_rfl) (by kernel_rfl) ?_ (Or.inr ⟨?_, rfl⟩) (by assumption) ?_
    rotate_left 1
    · (simp only [List.getElem?_toArray, List.getElem?_cons_succ, List.getElem?_cons_zero]; rfl)
    · first | exact fun _ _ _ h => h | exact fun _ _ _ h => by cases h.1
    · rfl
    try first | simp only [pS, List.set] | simp only [pN]
    refine wpAnyH_take (i := 13) (oi := ?_) (v := undef) ?_ (by kernel_rfl) (by kernel_rfl) (by kernel_rfl) ?_ (Or.inr ⟨?_, rfl⟩) (by assumption) ?_
    rotate_left 1
    · (simp only [List.getElem?_toArray, List.getElem?_cons_succ, List.getElem?_cons_zero]; rfl)
    · first | exact fun _ _ _ h => h | exact fun _ _ _ h => by cases h.1
    · rfl
    try first | simp only [pS, List.set] | simp only [pN]
    refine tkH 14 ?_
    try first | simp only [pS, List.set] | simp only [pN]
    refine tkH 15 ?_
    try first | simp only [pS, List.set] | simp only [pN]
    refine tkH 16 ?_
    try first | simp only [pS, List.set] | simp only [pN]
    refine wpAnyH_done (by kernel_rfl) ?_ _
    have hbz := Lib.hid hSd.1
    clear hSd hHeld
    go_wp2_with fail
    go_ret2
    have hh : headB1 ⟨1, pr, pe, off, dl, ow, code⟩ = false := by rw [HB.out]; simp
    refine ⟨_, by rw [hh]; rfl, (fun h => by rw [hh] at h; cases h), ?_, hbz.out⟩
    rw [ByteArray.size_append, ByteArray.size_append]
    show 4 + 9 + S.size ≤ 1000000
    omega
  | true =>
    rw [hnp]
    go_wp2_with fail
    refine wp_region_held_drew (S := (fun w' : World => Below w.heap.size w w' ∧ w'.cell? ⟨np, 0, none⟩ = some (.int .i64 1))) (by kernel_rfl) hSd (fun hHeld => ?_)
    generalize w3.drew = wd at hSd hHeld ⊢
    have hHeld : (fun w' : World => Below w.heap.size w w' ∧ w'.cell? ⟨np, 0, none⟩ = some (.int .i64 1)) wd := hHeld
    refine tkH 0 ?_
    try first | simp only [pS, List.set] | simp only [pN]
    refine tkH 1 ?_
    try first | simp only [pS, List.set] | simp only [pN]
    refine tkH 2 ?_
    try first | simp only [pS, List.set] | simp only [pN]
    refine tkH 3 ?_
    try first | simp only [pS, List.set] | simp only [pN]
    refine tkH 4 ?_
    try first | simp only [pS, List.set] | simp only [pN]
    refine tkH 5 ?_
    try first | simp only [pS, List.set] | simp only [pN]
    refine tkH 6 ?_
    try first | simp only [pS, List.set] | simp only [pN]
    refine tkH 7 ?_
    try first | simp only [pS, List.set] | simp only [pN]
    refine tkH 8 ?_
    try first | simp only [pS, List.set] | simp only [pN]
    refine tkH 9 ?_
    try first | simp only [pS, List.set] | simp only [pN]
    refine wpAnyH_take (i := 10) (oi := ?_) (v := undef) ?_ (by kernel_rfl) (by kernel_rfl) (by kernel_rfl) ?_ (Or.inr ⟨?_, rfl⟩) (by assumption) ?_
    rotate_left 1
    · (simp only [List.getElem?_toArray, List.getElem?_cons_succ, List.getElem?_cons_zero]; rfl)
    · first | exact fun _ _ _ h => h | exact fun _ _ _ h => by cases h.1
    · rfl
    try first | simp only [pS, List.set] | simp only [pN]
    refine wpAnyH_take (i := 11) (oi := ?_) (v := undef) ?_ (by kernel_rfl) (by kernel_rfl) (by kernel_rfl) ?_ (Or.inr ⟨?_, rfl⟩) (by assumption) ?_
    rotate_left 1
    · (simp only [List.getElem?_toArray, List.getElem?_cons_succ, List.getElem?_cons_zero]; rfl)
    · first | exact fun _ _ _ h => h | exact fun _ _ _ h => by cases h.1
    · rfl
    try first | simp only [pS, List.set] | simp only [pN]
    refine wpAnyH_take (i := 12) (oi := ?_) (v := undef) ?_ (by kernel_rfl) (by kernel_rfl) (by kernel_rfl) ?_ (Or.inr ⟨?_, rfl⟩) (by assumption) ?_
    rotate_left 1
    · (simp only [List.getElem?_toArray, List.getElem?_cons_succ, List.getElem?_cons_zero]; rfl)
    · first | exact fun _ _ _ h => h | exact fun _ _ _ h => by cases h.1
    · rfl
    try first | simp only [pS, List.set] | simp only [pN]
    refine tkH 13 ?_
    try first | simp only [pS, List.set] | simp only [pN]
    refine tkH 14 ?_
    try first | simp only [pS, List.set] | simp only [pN]
    refine tkH 15 ?_
    try first | simp only [pS, List.set] | simp only [pN]
    refine tkH 16 ?_
    try first | simp only [pS, List.set] | simp only [pN]
    refine wpAnyH_done (by kernel_rfl) ?_ _
    have hbz := Lib.hid hSd.1
    clear hSd hHeld
    go_wp2_with fail
    go_ret2
    have hh : headB1 ⟨1, pr, pe, off, dl, ow, code⟩ = true := by rw [HB.out]; rfl
    refine ⟨_, by rw [hh]; rfl, fun _ => ?_, ?_, hbz.out⟩
    · rw [HS.out (by trivial), headL_two _ perW rfl]
      refine ByteArray.ext ?_
      simp [taskW, perW, Tk.five]
    · rw [ByteArray.size_append, ByteArray.size_append]
      show 4 + 9 + S.size ≤ 1000000
      omega
set_option maxRecDepth 100000 in
set_option maxHeartbeats 4000000 in
theorem rhead_two (pr pe off dl ow : Int) (code : List Ins) (A : Option Addr) (n c : Nat) (w : World) :
    Calls Tryz.prog 19 #[tkV ⟨2, pr, pe, off, dl, ow, code⟩ A n c] w (HeadR ⟨2, pr, pe, off, dl, ow, code⟩ w) := by
  have hnum := fun (b : Nat) W => rnums_any (some ⟨b, 0, none⟩) 5 [pr, pe, off, dl, ow] W (by simp)
  have hNs := numsS_size [pr, pe, off, dl, ow]
  have hS : [pr, pe, off, dl, ow].all topB = true → numsS [pr, pe, off, dl, ow] = ⟨(numsT [pr, pe, off, dl, ow]).toArray⟩ := numsS_ok
  have hB : headB1 ⟨2, pr, pe, off, dl, ow, code⟩ = ((2 == (1 : Int) || 2 == (2 : Int)) && [pr, pe, off, dl, ow].all topB) := rfl
  obtain ⟨ok, hok⟩ : ∃ ok, [pr, pe, off, dl, ow].all topB = ok := ⟨_, rfl⟩
  obtain ⟨S, hSe⟩ : ∃ S, numsS [pr, pe, off, dl, ow] = S := ⟨_, rfl⟩
  rw [hok, hSe] at hnum
  rw [hok] at hS hB
  rw [hSe] at hNs hS
  have hNS : S.size ≤ 70 := by simpa using hNs
  have z1 : ¬ 9223372036854775807 < 13 + S.size := by omega
  have z2 : ¬ 9223372036854775807 < 4 + 9 + S.size := by omega
  have HN := Lib.hid hnum
  have HS := Lib.hid hS
  have HB := Lib.hid hB
  clear hnum hS hB hok hSe hNs
  unfold tkV
  go_enter Tryz.func19, Tryz.ntmps19
  go_wp2_with fail
  obtain ⟨w1, hw1⟩ : ∃ x, w.alloc (.cells #[.int .i64 2, .int .i64 pr, .int .i64 pe, .int .i64 off, .int .i64 dl, .int .i64 ow, .slice A n c] 46) = x := ⟨_, rfl⟩
  have r1 := RowB.new w #[.int .i64 2, .int .i64 pr, .int .i64 pe, .int .i64 off, .int .i64 dl, .int .i64 ow, .slice A n c] 46
  rw [hw1] at r1 ⊢
  have s1 : w1.heap.size = w.heap.size + 1 := by rw [← hw1, World.size_alloc]
  have x2 := SlOf.new (E := ints .i64) w1 #[.int .i64 pr, .int .i64 pe, .int .i64 off, .int .i64 dl, .int .i64 ow] 3 [pr, pe, off, dl, ow] rfl
  obtain ⟨w2, hw2⟩ : ∃ x, w1.alloc (.cells #[.int .i64 pr, .int .i64 pe, .int .i64 off, .int .i64 dl, .int .i64 ow] 3) = x := ⟨_, rfl⟩
  rw [hw2] at x2 ⊢
  have s2 : w2.heap.size = w1.heap.size + 1 := by rw [← hw2, World.size_alloc]
  rw [← s2, s1] at x2
  have hb2 : Below w.heap.size w w2 := below_al (below_al (Below.refl _ w) (Nat.le_refl _) hw1) (by omega) hw2
  have r2 := r1.kept (w' := w2) (by rw [← hw2]; exact (Below.refl _ w1).alloc (Nat.le_refl _) _)
  refine ((HN.out _ _) x2).mono ?_
  rintro e w3 ⟨rfl, hb3⟩
  have r3 := r2.kept hb3
  have hb4 := hb2.trans (hb3.mono hb2.size)
  have p0 : w3.cell? ⟨w.heap.size, 0, none⟩ = some (.int .i64 2) := (r3.cell 0).trans rfl
  have hp : w.heap.size < w3.heap.size := r3.lt
  clear r1 r2 x2 hb2 hb3 hw1 hw2 s1 s2 r3
  obtain ⟨np, hnp⟩ : ∃ x, w.heap.size = x := ⟨_, rfl⟩
  have HNP := Lib.hid hnp
  have hSd : (fun w' : World => Below w.heap.size w w' ∧ w'.cell? ⟨np, 0, none⟩ = some (.int .i64 2)) w3.drew := ⟨hb4.drew, by rw [← hnp]; exact ((Below.refl w3.heap.size w3).drew.cell (p := ⟨w.heap.size, 0, none⟩) hp).trans p0⟩
  clear p0 hp hb4
  cases ok with
  | false =>
    rw [hnp]
    go_wp2_with fail
    refine wp_region_held_drew (S := (fun w' : World => Below w.heap.size w w' ∧ w'.cell? ⟨np, 0, none⟩ = some (.int .i64 2))) (by kernel_rfl) hSd (fun hHeld => ?_)
    generalize w3.drew = wd at hSd hHeld ⊢
    have hHeld : (fun w' : World => Below w.heap.size w w' ∧ w'.cell? ⟨np, 0, none⟩ = some (.int .i64 2)) wd := hHeld
    refine tkH 0 ?_
    try first | simp only [pS, List.set] | simp only [pN]
    refine tkH 1 ?_
    try first | simp only [pS, List.set] | simp only [pN]
    refine tkH 2 ?_
    try first | simp only [pS, List.set] | simp only [pN]
    refine tkH 3 ?_
    try first | simp only [pS, List.set] | simp only [pN]
    refine tkH 4 ?_
    try first | simp only [pS, List.set] | simp only [pN]
    refine tkH 5 ?_
    try first | simp only [pS, List.set] | simp only [pN]
    refine wpAnyH_take (i := 6) (oi := ?_) (v := undef) ?_ (by kernel_rfl) (by kernel_rfl) (by kernel_rfl) ?_ (Or.inr ⟨?_, rfl⟩) (by assumption) ?_
    rotate_left 1
    · (simp only [List.getElem?_toArray, List.getElem?_cons_succ, List.getElem?_cons_zero]; rfl)
    · first | exact fun _ _ _ h => h | exact fun _ _ _ h => by cases h.1
    · rfl
    try first | simp only [pS, List.set] | simp only [pN]
    refine wpAnyH_take (i := 7) (oi := ?_) (v := undef) ?_ (by kernel_rfl) (by kernel_rfl) (by kernel_rfl) ?_ (Or.inr ⟨?_, rfl⟩) (by assumption) ?_
    rotate_left 1
    · (simp only [List.getElem?_toArray, List.getElem?_cons_succ, List.getElem?_cons_zero]; rfl)
    · first | exact fun _ _ _ h => h | exact fun _ _ _ h => by cases h.1
    · rfl
    try first | simp only [pS, List.set] | simp only [pN]
    refine wpAnyH_take (i := 8) (oi := ?_) (v := undef) ?_ (by kernel_rfl) (by kernel_rfl) (by kernel_rfl) ?_ (Or.inr ⟨?_, rfl⟩) (by assumption) ?_
    rotate_left 1
    · (simp only [List.getElem?_toArray, List.getElem?_cons_succ, List.getElem?_cons_zero]; rfl)
    · first | exact fun _ _ _ h => h | exact fun _ _ _ h => by cases h.1
    · rfl
    try first | simp only [pS, List.set] | simp only [pN]
    refine wpAnyH_take (i := 9) (oi := ?_) (v := undef) ?_ (by kernel_rfl) (by kernel_rfl) (by kernel_rfl) ?_ (Or.inr ⟨?_, rfl⟩) (by assumption) ?_
    rotate_left 1
    · (simp only [List.getElem?_toArray, List.getElem?_cons_succ, List.getElem?_cons_zero]; rfl)
    · first | exact fun _ _ _ h => h | exact fun _ _ _ h => by cases h.1
    · rfl
    try first | simp only [pS, List.set] | simp only [pN]
    refine wpAnyH_take (i := 10) (oi := ?_) (v := undef) ?_ (by kernel_rfl) (by kernel_rfl) (by kernel_rfl) ?_ (Or.inr ⟨?_, rfl⟩) (by assumption) ?_
    rotate_left 1
    · (simp only [List.getElem?_toArray, List.getElem?_cons_succ, List.getElem?_cons_zero]; rfl)
    · first | exact fun _ _ _ h => h | exact fun _ _ _ h => by cases h.1
    · rfl
    try first | simp only [pS, List.set] | simp only [pN]
    refine wpAnyH_take (i := 11) (oi := ?_) (v := undef) ?_ (by kernel_rfl) (by kernel_rfl) (by kernel_rfl) ?_ (Or.inr ⟨?_, rfl⟩) (by assumption) ?_
    rotate_left 1
    · (simp only [List.getElem?_toArray, List.getElem?_cons_succ, List.getElem?_cons_zero]; rfl)
    · first | exact fun _ _ _ h => h | exact fun _ _ _ h => by cases h.1
    · rfl
    try first | simp only [pS, List.set] | simp only [pN]
    refine wpAnyH_take (i := 12) (oi := ?_) (v := undef) ?_ (by kernel_rfl) (by kernel_rfl) (by kernel_rfl) ?_ (Or.inr ⟨?_, rfl⟩) (by assumption) ?_
    rotate_left 1
    · (simp only [List.getElem?_toArray, List.getElem?_cons_succ, List.getElem?_cons_zero]; rfl)
    · first | exact fun _ _ _ h => h | exact fun _ _ _ h => by cases h.1
    · rfl
    try first | simp only [pS, List.set] | simp only [pN]
    refine wpAnyH_take (i := 13) (oi := ?_) (v := undef) ?_ (by kernel_rfl) (by kernel_rfl) (by kernel_rfl) ?_ (Or.inr ⟨?_, rfl⟩) (by assumption) ?_
    rotate_left 1
    · (simp only [List.getElem?_toArray, List.getElem?_cons_succ, List.getElem?_cons_zero]; rfl)
    · first | exact fun _ _ _ h => h | exact fun _ _ _ h => by cases h.1
    · rfl
    try first | simp only [pS, List.set] | simp only [pN]
    refine tkH 14 ?_
    try first | simp only [pS, List.set] | simp only [pN]
    refine tkH 15 ?_
    try first | simp only [pS, List.set] | simp only [pN]
    refine tkH 16 ?_
    try first | simp only [pS, List.set] | simp only [pN]
    refine wpAnyH_done (by kernel_rfl) ?_ _
    have hbz := Lib.hid hSd.1
    clear hSd hHeld
    go_wp2_with fail
    go_ret2
    have hh : headB1 ⟨2, pr, pe, off, dl, ow, code⟩ = false := by rw [HB.out]; simp
    refine ⟨_, by rw [hh]; rfl, (fun h => by rw [hh] at h; cases h), ?_, hbz.out⟩
    rw [ByteArray.size_append, ByteArray.size_append]
    show 4 + 9 + S.size ≤ 1000000
    omega
  | true =>
    rw [hnp]
    go_wp2_with fail
    refine wp_region_held_drew (S := (fun w' : World => Below w.heap.size w w' ∧ w'.cell? ⟨np, 0, none⟩ = some (.int .i64 2))) (by kernel_rfl) hSd (fun hHeld => ?_)
    generalize w3.drew = wd at hSd hHeld ⊢
    have hHeld : (fun w' : World => Below w.heap.size w w' ∧ w'.cell? ⟨np, 0, none⟩ = some (.int .i64 2)) wd := hHeld
    refine tkH 0 ?_
    try first | simp only [pS, List.set] | simp only [pN]
    refine tkH 1 ?_
    try first | simp only [pS, List.set] | simp only [pN]
    refine tkH 2 ?_
    try first | simp only [pS, List.set] | simp only [pN]
    refine tkH 3 ?_
    try first | simp only [pS, List.set] | simp only [pN]
    refine tkH 4 ?_
    try first | simp only [pS, List.set] | simp only [pN]
    refine tkH 5 ?_
    try first | simp only [pS, List.set] | simp only [pN]
    refine tkH 6 ?_
    try first | simp only [pS, List.set] | simp only [pN]
    refine tkH 7 ?_
    try first | simp only [pS, List.set] | simp only [pN]
    refine tkH 8 ?_
    try first | simp only [pS, List.set] | simp only [pN]
    refine tkH 9 ?_
    try first | simp only [pS, List.set] | simp only [pN]
    refine tkH 10 ?_
    try first | simp only [pS, List.set] | simp only [pN]
    refine tkH 11 ?_
    try first | simp only [pS, List.set] | simp only [pN]
    refine tkH 12 ?_
    try first | simp only [pS, List.set] | simp only [pN]
    refine tkH 13 ?_
    try first | simp only [pS, List.set] | simp only [pN]
    refine tkH 14 ?_
    try first | simp only [pS, List.set] | simp only [pN]
    refine tkH 15 ?_
    try first | simp only [pS, List.set] | simp only [pN]
    refine tkH 16 ?_
    try first | simp only [pS, List.set] | simp only [pN]
    refine wpAnyH_done (by kernel_rfl) ?_ _
    have hbz := Lib.hid hSd.1
    clear hSd hHeld
    go_wp2_with fail
    go_ret2
    have hh : headB1 ⟨2, pr, pe, off, dl, ow, code⟩ = true := by rw [HB.out]; rfl
    refine ⟨_, by rw [hh]; rfl, fun _ => ?_, ?_, hbz.out⟩
    · rw [HS.out (by trivial), headL_two _ spoW rfl]
      refine ByteArray.ext ?_
      simp [taskW, spoW, Tk.five]
    · rw [ByteArray.size_append, ByteArray.size_append]
      show 4 + 9 + S.size ≤ 1000000
      omega
set_option maxRecDepth 100000 in
set_option maxHeartbeats 4000000 in
theorem rhead_no (kd : Int) (pr pe off dl ow : Int) (code : List Ins) (A : Option Addr) (n c : Nat) (w : World) (hk : ¬ (kd = 1 ∨ kd = 2)) :
    Calls Tryz.prog 19 #[tkV ⟨kd, pr, pe, off, dl, ow, code⟩ A n c] w (HeadR ⟨kd, pr, pe, off, dl, ow, code⟩ w) := by
  have hnum := fun (b : Nat) W => rnums_any (some ⟨b, 0, none⟩) 5 [pr, pe, off, dl, ow] W (by simp)
  have hNs := numsS_size [pr, pe, off, dl, ow]
  have hS : [pr, pe, off, dl, ow].all topB = true → numsS [pr, pe, off, dl, ow] = ⟨(numsT [pr, pe, off, dl, ow]).toArray⟩ := numsS_ok
  have hB : headB1 ⟨kd, pr, pe, off, dl, ow, code⟩ = ((kd == (1 : Int) || kd == (2 : Int)) && [pr, pe, off, dl, ow].all topB) := rfl
  obtain ⟨ok, hok⟩ : ∃ ok, [pr, pe, off, dl, ow].all topB = ok := ⟨_, rfl⟩
  obtain ⟨S, hSe⟩ : ∃ S, numsS [pr, pe, off, dl, ow] = S := ⟨_, rfl⟩
  rw [hok, hSe] at hnum
  rw [hok] at hS hB
  rw [hSe] at hNs hS
  have hNS : S.size ≤ 70 := by simpa using hNs
  have z1 : ¬ 9223372036854775807 < 13 + S.size := by omega
  have z2 : ¬ 9223372036854775807 < 4 + 9 + S.size := by omega
  have HN := Lib.hid hnum
  have HS := Lib.hid hS
  have HB := Lib.hid hB
  clear hnum hS hB hok hSe hNs
  have t1 : (kd == 1) = false := by simp; omega
  have t2 : (kd == 2) = false := by simp; omega
  have d1 : decide (kd = 1) = false := by simp; omega
  have d2 : decide (kd = 2) = false := by simp; omega
  clear hk
  unfold tkV
  go_enter Tryz.func19, Tryz.ntmps19
  go_wp2_with fail
  obtain ⟨w1, hw1⟩ : ∃ x, w.alloc (.cells #[.int .i64 kd, .int .i64 pr, .int .i64 pe, .int .i64 off, .int .i64 dl, .int .i64 ow, .slice A n c] 46) = x := ⟨_, rfl⟩
  have r1 := RowB.new w #[.int .i64 kd, .int .i64 pr, .int .i64 pe, .int .i64 off, .int .i64 dl, .int .i64 ow, .slice A n c] 46
  rw [hw1] at r1 ⊢
  have s1 : w1.heap.size = w.heap.size + 1 := by rw [← hw1, World.size_alloc]
  have x2 := SlOf.new (E := ints .i64) w1 #[.int .i64 pr, .int .i64 pe, .int .i64 off, .int .i64 dl, .int .i64 ow] 3 [pr, pe, off, dl, ow] rfl
  obtain ⟨w2, hw2⟩ : ∃ x, w1.alloc (.cells #[.int .i64 pr, .int .i64 pe, .int .i64 off, .int .i64 dl, .int .i64 ow] 3) = x := ⟨_, rfl⟩
  rw [hw2] at x2 ⊢
  have s2 : w2.heap.size = w1.heap.size + 1 := by rw [← hw2, World.size_alloc]
  rw [← s2, s1] at x2
  have hb2 : Below w.heap.size w w2 := below_al (below_al (Below.refl _ w) (Nat.le_refl _) hw1) (by omega) hw2
  have r2 := r1.kept (w' := w2) (by rw [← hw2]; exact (Below.refl _ w1).alloc (Nat.le_refl _) _)
  refine ((HN.out _ _) x2).mono ?_
  rintro e w3 ⟨rfl, hb3⟩
  have r3 := r2.kept hb3
  have hb4 := hb2.trans (hb3.mono hb2.size)
  have p0 : w3.cell? ⟨w.heap.size, 0, none⟩ = some (.int .i64 kd) := (r3.cell 0).trans rfl
  have hp : w.heap.size < w3.heap.size := r3.lt
  clear r1 r2 x2 hb2 hb3 hw1 hw2 s1 s2 r3
  obtain ⟨np, hnp⟩ : ∃ x, w.heap.size = x := ⟨_, rfl⟩
  have HNP := Lib.hid hnp
  have hSd : (fun w' : World => Below w.heap.size w w' ∧ w'.cell? ⟨np, 0, none⟩ = some (.int .i64 kd)) w3.drew := ⟨hb4.drew, by rw [← hnp]; exact ((Below.refl w3.heap.size w3).drew.cell (p := ⟨w.heap.size, 0, none⟩) hp).trans p0⟩
  clear p0 hp hb4
  cases ok with
  | false =>
    rw [hnp]
    go_wp2_with fail
    refine wp_region_held_drew (S := (fun w' : World => Below w.heap.size w w' ∧ w'.cell? ⟨np, 0, none⟩ = some (.int .i64 kd))) (by kernel_rfl) hSd (fun hHeld => ?_)
    generalize w3.drew = wd at hSd hHeld ⊢
    have hHeld : (fun w' : World => Below w.heap.size w w' ∧ w'.cell? ⟨np, 0, none⟩ = some (.int .i64 kd)) wd := hHeld
    refine tkH 0 ?_
    try first | simp only [pS, List.set] | simp only [pN]
    refine tkH 1 ?_
    try first | simp only [pS, List.set] | simp only [pN]
    refine tkH 2 ?_
    try first | simp only [pS, List.set] | simp only [pN]
    refine tkH 3 ?_
    try first | simp only [pS, List.set] | simp only [pN]
    refine tkH 4 ?_
    try first | simp only [pS, List.set] | simp only [pN]
    refine tkH 5 ?_
    try first | simp only [pS, List.set] | simp only [pN]
    refine wpAnyH_take (i := 6) (oi := ?_) (v := undef) ?_ (by kernel_rfl) (by kernel_rfl) (by kernel_rfl) ?_ (Or.inr ⟨?_, rfl⟩) (by assumption) ?_
    rotate_left 1
    · (simp only [List.getElem?_toArray, List.getElem?_cons_succ, List.getElem?_cons_zero]; rfl)
    · first | exact fun _ _ _ h => h | exact fun _ _ _ h => by cases h.1
    · rfl
    try first | simp only [pS, List.set] | simp only [pN]
    refine wpAnyH_take (i := 7) (oi := ?_) (v := undef) ?_ (by kernel_rfl) (by kernel_rfl) (by kernel_rfl) ?_ (Or.inr ⟨?_, rfl⟩) (by assumption) ?_
    rotate_left 1
    · (simp only [List.getElem?_toArray, List.getElem?_cons_succ, List.getElem?_cons_zero]; rfl)
    · first | exact fun _ _ _ h => h | exact fun _ _ _ h => by cases h.1
    · rfl
    try first | simp only [pS, List.set] | simp only [pN]
    refine wpAnyH_take (i := 8) (oi := ?_) (v := undef) ?_ (by kernel_rfl) (by kernel_rfl) (by kernel_rfl) ?_ (Or.inr ⟨?_, rfl⟩) (by assumption) ?_
    rotate_left 1
    · (simp only [List.getElem?_toArray, List.getElem?_cons_succ, List.getElem?_cons_zero]; rfl)
    · first | exact fun _ _ _ h => h | exact fun _ _ _ h => by cases h.1
    · rfl
    try first | simp only [pS, List.set] | simp only [pN]
    refine wpAnyH_take (i := 9) (oi := ?_) (v := undef) ?_ (by kernel_rfl) (by kernel_rfl) (by kernel_rfl) ?_ (Or.inr ⟨?_, rfl⟩) (by assumption) ?_
    rotate_left 1
    · (simp only [List.getElem?_toArray, List.getElem?_cons_succ, List.getElem?_cons_zero]; rfl)
    · first | exact fun _ _ _ h => h | exact fun _ _ _ h => by cases h.1
    · rfl
    try first | simp only [pS, List.set] | simp only [pN]
    refine wpAnyH_take (i := 10) (oi := ?_) (v := undef) ?_ (by kernel_rfl) (by kernel_rfl) (by kernel_rfl) ?_ (Or.inr ⟨?_, rfl⟩) (by assumption) ?_
    rotate_left 1
    · (simp only [List.getElem?_toArray, List.getElem?_cons_succ, List.getElem?_cons_zero]; rfl)
    · first | exact fun _ _ _ h => h | exact fun _ _ _ h => by cases h.1
    · rfl
    try first | simp only [pS, List.set] | simp only [pN]
    refine wpAnyH_take (i := 11) (oi := ?_) (v := undef) ?_ (by kernel_rfl) (by kernel_rfl) (by kernel_rfl) ?_ (Or.inr ⟨?_, rfl⟩) (by assumption) ?_
    rotate_left 1
    · (simp only [List.getElem?_toArray, List.getElem?_cons_succ, List.getElem?_cons_zero]; rfl)
    · first | exact fun _ _ _ h => h | exact fun _ _ _ h => by cases h.1
    · rfl
    try first | simp only [pS, List.set] | simp only [pN]
    refine wpAnyH_take (i := 12) (oi := ?_) (v := undef) ?_ (by kernel_rfl) (by kernel_rfl) (by kernel_rfl) ?_ (Or.inr ⟨?_, rfl⟩) (by assumption) ?_
    rotate_left 1
    · (simp only [List.getElem?_toArray, List.getElem?_cons_succ, List.getElem?_cons_zero]; rfl)
    · first | exact fun _ _ _ h => h | exact fun _ _ _ h => by cases h.1
    · rfl
    try first | simp only [pS, List.set] | simp only [pN]
    refine wpAnyH_take (i := 13) (oi := ?_) (v := undef) ?_ (by kernel_rfl) (by kernel_rfl) (by kernel_rfl) ?_ (Or.inr ⟨?_, rfl⟩) (by assumption) ?_
    rotate_left 1
    · (simp only [List.getElem?_toArray, List.getElem?_cons_succ, List.getElem?_cons_zero]; rfl)
    · first | exact fun _ _ _ h => h | exact fun _ _ _ h => by cases h.1
    · rfl
    try first | simp only [pS, List.set] | simp only [pN]
    refine tkH 14 ?_
    try first | simp only [pS, List.set] | simp only [pN]
    refine tkH 15 ?_
    try first | simp only [pS, List.set] | simp only [pN]
    refine tkH 16 ?_
    try first | simp only [pS, List.set] | simp only [pN]
    refine wpAnyH_done (by kernel_rfl) ?_ _
    have hbz := Lib.hid hSd.1
    clear hSd hHeld
    go_wp2_with fail
    go_ret2
    have hh : headB1 ⟨kd, pr, pe, off, dl, ow, code⟩ = false := by rw [HB.out]; simp [t1, t2]
    refine ⟨_, by rw [hh]; rfl, (fun h => by rw [hh] at h; cases h), ?_, hbz.out⟩
    rw [ByteArray.size_append, ByteArray.size_append]
    show 4 + 9 + S.size ≤ 1000000
    omega
  | true =>
    rw [hnp]
    go_wp2_with fail
    refine wp_region_held_drew (S := (fun w' : World => Below w.heap.size w w' ∧ w'.cell? ⟨np, 0, none⟩ = some (.int .i64 kd))) (by kernel_rfl) hSd (fun hHeld => ?_)
    generalize w3.drew = wd at hSd hHeld ⊢
    have hHeld : (fun w' : World => Below w.heap.size w w' ∧ w'.cell? ⟨np, 0, none⟩ = some (.int .i64 kd)) wd := hHeld
    refine tkH 0 ?_
    try first | simp only [pS, List.set] | simp only [pN]
    refine tkH 1 ?_
    try first | simp only [pS, List.set] | simp only [pN]
    refine tkH 2 ?_
    try first | simp only [pS, List.set] | simp only [pN]
    refine tkH 3 ?_
    try first | simp only [pS, List.set] | simp only [pN]
    refine tkH 4 ?_
    try first | simp only [pS, List.set] | simp only [pN]
    refine tkH 5 ?_
    try first | simp only [pS, List.set] | simp only [pN]
    refine tkH 6 ?_
    try first | simp only [pS, List.set] | simp only [pN]
    refine tkH 7 ?_
    try first | simp only [pS, List.set] | simp only [pN]
    refine tkH 8 ?_
    try first | simp only [pS, List.set] | simp only [pN]
    refine tkH 9 ?_
    try first | simp only [pS, List.set] | simp only [pN]
    refine tkH 10 ?_
    try first | simp only [pS, List.set] | simp only [pN]
    refine tkH 11 ?_
    try first | simp only [pS, List.set] | simp only [pN]
    refine tkH 12 ?_
    try first | simp only [pS, List.set] | simp only [pN]
    refine tkH 13 ?_
    try first | simp only [pS, List.set] | simp only [pN]
    refine tkH 14 ?_
    try first | simp only [pS, List.set] | simp only [pN]
    refine tkH 15 ?_
    try first | simp only [pS, List.set] | simp only [pN]
    refine tkH 16 ?_
    try first | simp only [pS, List.set] | simp only [pN]
    refine wpAnyH_done (by kernel_rfl) ?_ _
    have hbz := Lib.hid hSd.1
    clear hSd hHeld
    go_wp2_with fail
    go_ret2
    have hh : headB1 ⟨kd, pr, pe, off, dl, ow, code⟩ = false := by rw [HB.out]; simp [t1, t2]
    refine ⟨_, by rw [hh]; rfl, (fun h => by rw [hh] at h; cases h), ?_, hbz.out⟩
    rw [ByteArray.size_append, ByteArray.size_append]
    show 4 + 9 + S.size ≤ 1000000
    omega
theorem rhead_any (t : Tk) (A : Option Addr) (n c : Nat) (w : World) : Calls Tryz.prog 19 #[tkV t A n c] w (HeadR t w) := by
  obtain ⟨kd, pr, pe, off, dl, ow, code⟩ := t
  by_cases h1 : kd = 1
  · subst h1; exact rhead_one pr pe off dl ow code A n c w
  · by_cases h2 : kd = 2
    · subst h2; exact rhead_two pr pe off dl ow code A n c w
    · exact rhead_no kd pr pe off dl ow code A n c w (by omega)

end Go.Proofs.YtfgmebjbibbpdaaGreatDoor
