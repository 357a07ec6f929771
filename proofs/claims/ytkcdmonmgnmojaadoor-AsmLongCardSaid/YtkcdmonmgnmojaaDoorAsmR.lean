/- isa.Right, isa.Word, isa.Kind. -/
import Derived.Test.YtkcdmonmgnmojaaDoorAsmT
import Derived.Deep.RegionHeld3
namespace Go.Proofs.YtkcdmonmgnmojaaDoor
open Go.RowKit

def ShBox (W : World) (B : Nat) (v0 v1 v2 v3 v4 v5 v6 : Value) : Prop := W.heap[B]? = some (.cells #[v0, v1, v2, v3, v4, v5, v6] 108 (0, 0))
section
variable {W W' : World} {B N : Nat} {v0 v1 v2 v3 v4 v5 v6 : Value}
theorem ShBox.lt (h : ShBox W B v0 v1 v2 v3 v4 v5 v6) : B < W.heap.size := (Array.getElem?_eq_some_iff.1 h).1
theorem ShBox.cells (h : ShBox W B v0 v1 v2 v3 v4 v5 v6) : W.cell? ⟨B, 0, none⟩ = some v0 ∧ W.cell? ⟨B, 1, none⟩ = some v1 ∧ W.cell? ⟨B, 2, none⟩ = some v2 ∧ W.cell? ⟨B, 3, none⟩ = some v3 ∧ W.cell? ⟨B, 4, none⟩ = some v4 ∧ W.cell? ⟨B, 5, none⟩ = some v5 ∧ W.cell? ⟨B, 6, none⟩ = some v6 := by
  refine ⟨?_, ?_, ?_, ?_, ?_, ?_, ?_⟩ <;> simp [World.cell?, show W.heap[B]? = _ from h]
theorem ShBox.frozen (h : ShBox W B v0 v1 v2 v3 v4 v5 v6) (j : Nat) : W.frozen? ⟨B, j, none⟩ = false := by simp [World.frozen?, show W.heap[B]? = _ from h]
theorem ShBox.below (h : ShBox W B v0 v1 v2 v3 v4 v5 v6) (hb : Below N W W') (hB : B < N) : ShBox W' B v0 v1 v2 v3 v4 v5 v6 := (hb.block B hB).trans h
theorem ShBox.kept (h : ShBox W B v0 v1 v2 v3 v4 v5 v6) (hb : Below W.heap.size W W') : ShBox W' B v0 v1 v2 v3 v4 v5 v6 := h.below hb h.lt
theorem ShBox.set7 (h : ShBox W B v0 v1 v2 v3 v4 v5 v6) (u0 u1 u2 u3 u4 u5 u6 : Value) : ShBox (((((((W.setCell ⟨B, 0, none⟩ u0).setCell ⟨B, 1, none⟩ u1).setCell ⟨B, 2, none⟩ u2).setCell ⟨B, 3, none⟩ u3).setCell ⟨B, 4, none⟩ u4).setCell ⟨B, 5, none⟩ u5).setCell ⟨B, 6, none⟩ u6) B u0 u1 u2 u3 u4 u5 u6 := by
  have h0 : W.heap[B]? = some (.cells #[v0, v1, v2, v3, v4, v5, v6] 108 (0, 0)) := h
  unfold ShBox
  rw [setCell_eq_setRow _ B 0 _ _ _ _ h0, show (#[v0, v1, v2, v3, v4, v5, v6] : Array Value).setIfInBounds 0 u0 = #[u0, v1, v2, v3, v4, v5, v6] from rfl]
  have h1 := setRow_heap _ B _ (#[u0, v1, v2, v3, v4, v5, v6]) _ _ h0
  rw [setCell_eq_setRow _ B 1 _ _ _ _ h1, show (#[u0, v1, v2, v3, v4, v5, v6] : Array Value).setIfInBounds 1 u1 = #[u0, u1, v2, v3, v4, v5, v6] from rfl]
  have h2 := setRow_heap _ B _ (#[u0, u1, v2, v3, v4, v5, v6]) _ _ h1
  rw [setCell_eq_setRow _ B 2 _ _ _ _ h2, show (#[u0, u1, v2, v3, v4, v5, v6] : Array Value).setIfInBounds 2 u2 = #[u0, u1, u2, v3, v4, v5, v6] from rfl]
  have h3 := setRow_heap _ B _ (#[u0, u1, u2, v3, v4, v5, v6]) _ _ h2
  rw [setCell_eq_setRow _ B 3 _ _ _ _ h3, show (#[u0, u1, u2, v3, v4, v5, v6] : Array Value).setIfInBounds 3 u3 = #[u0, u1, u2, u3, v4, v5, v6] from rfl]
  have h4 := setRow_heap _ B _ (#[u0, u1, u2, u3, v4, v5, v6]) _ _ h3
  rw [setCell_eq_setRow _ B 4 _ _ _ _ h4, show (#[u0, u1, u2, u3, v4, v5, v6] : Array Value).setIfInBounds 4 u4 = #[u0, u1, u2, u3, u4, v5, v6] from rfl]
  have h5 := setRow_heap _ B _ (#[u0, u1, u2, u3, u4, v5, v6]) _ _ h4
  rw [setCell_eq_setRow _ B 5 _ _ _ _ h5, show (#[u0, u1, u2, u3, u4, v5, v6] : Array Value).setIfInBounds 5 u5 = #[u0, u1, u2, u3, u4, u5, v6] from rfl]
  have h6 := setRow_heap _ B _ (#[u0, u1, u2, u3, u4, u5, v6]) _ _ h5
  rw [setCell_eq_setRow _ B 6 _ _ _ _ h6, show (#[u0, u1, u2, u3, u4, u5, v6] : Array Value).setIfInBounds 6 u6 = #[u0, u1, u2, u3, u4, u5, u6] from rfl]
  exact setRow_heap _ B _ _ _ _ h6
theorem below_set7 (h : Below N W W') (hB : N ≤ B) (u0 u1 u2 u3 u4 u5 u6 : Value) : Below N W (((((((W'.setCell ⟨B, 0, none⟩ u0).setCell ⟨B, 1, none⟩ u1).setCell ⟨B, 2, none⟩ u2).setCell ⟨B, 3, none⟩ u3).setCell ⟨B, 4, none⟩ u4).setCell ⟨B, 5, none⟩ u5).setCell ⟨B, 6, none⟩ u6) :=
  below_set (below_set (below_set (below_set (below_set (below_set (below_set h B 0 hB u0) B 1 hB u1) B 2 hB u2) B 3 hB u3) B 4 hB u4) B 5 hB u5) B 6 hB u6
theorem heap_set7 {j : Nat} (hj : j ≠ B) (u0 u1 u2 u3 u4 u5 u6 : Value) : (((((((W.setCell ⟨B, 0, none⟩ u0).setCell ⟨B, 1, none⟩ u1).setCell ⟨B, 2, none⟩ u2).setCell ⟨B, 3, none⟩ u3).setCell ⟨B, 4, none⟩ u4).setCell ⟨B, 5, none⟩ u5).setCell ⟨B, 6, none⟩ u6).heap[j]? = W.heap[j]? := by
  have hk : ∀ (W : World) (i : Nat) (v : Value), (W.setCell ⟨B, i, none⟩ v).heap[j]? = W.heap[j]? := fun W i v => Below.heap_setCell _ _ _ _ hj
  rw [hk, hk, hk, hk, hk, hk, hk]
end

def RgSt (w1 : World) (n : Nat) (e : Ins) (w' : World) : Prop := Below w1.heap.size w1 w' ∧ InBox w' n e ∧ w'.cell? ⟨n, 0, none⟩ = some (.int .i64 e.op)
theorem RgSt.below {w1 w w' : World} {n : Nat} {e : Ins} (h : RgSt w1 n e w) (hb : Below w.heap.size w w') : RgSt w1 n e w' := ⟨h.1.trans (hb.mono h.1.size), h.2.1.kept hb, (h.2.1.kept hb).cells.1⟩
def RgSt2 (w1 : World) (n nb : Nat) (e : Ins) (w' : World) : Prop := RgSt w1 n e w' ∧ ∃ v0 v1 v2 v3 v4 v5 v6, ShBox w' nb v0 v1 v2 v3 v4 v5 v6
theorem RgSt2.below {w1 w w' : World} {n nb : Nat} {e : Ins} (h : RgSt2 w1 n nb e w) (hb : Below w.heap.size w w') : RgSt2 w1 n nb e w' := by
  obtain ⟨h1, v0, v1, v2, v3, v4, v5, v6, h2⟩ := h
  exact ⟨h1.below hb, v0, v1, v2, v3, v4, v5, v6, h2.kept hb⟩
theorem RgSt2.set {w1 w : World} {n nb : Nat} {e : Ins} {v0 v1 v2 v3 v4 v5 v6 : Value} (h : RgSt w1 n e w) (hz : ShBox w nb v0 v1 v2 v3 v4 v5 v6) (hn : n < w1.heap.size) (hnb : w1.heap.size ≤ nb) (u0 u1 u2 u3 u4 u5 u6 : Value) : RgSt2 w1 n nb e (((((((w.setCell ⟨nb, 0, none⟩ u0).setCell ⟨nb, 1, none⟩ u1).setCell ⟨nb, 2, none⟩ u2).setCell ⟨nb, 3, none⟩ u3).setCell ⟨nb, 4, none⟩ u4).setCell ⟨nb, 5, none⟩ u5).setCell ⟨nb, 6, none⟩ u6) :=
  have hb : InBox (((((((w.setCell ⟨nb, 0, none⟩ u0).setCell ⟨nb, 1, none⟩ u1).setCell ⟨nb, 2, none⟩ u2).setCell ⟨nb, 3, none⟩ u3).setCell ⟨nb, 4, none⟩ u4).setCell ⟨nb, 5, none⟩ u5).setCell ⟨nb, 6, none⟩ u6) n e := (heap_set7 (by omega) _ _ _ _ _ _ _).trans h.2.1
  ⟨⟨below_set7 h.1 hnb _ _ _ _ _ _ _, hb, hb.cells.1⟩, _, _, _, _, _, _, _, hz.set7 _ _ _ _ _ _ _⟩

theorem sh_rng {op : Int} (h : known op = true) : (0 ≤ (shOf op).a ∧ (shOf op).a ≤ 6) ∧ (0 ≤ (shOf op).b ∧ (shOf op).b ≤ 6) ∧ (0 ≤ (shOf op).c ∧ (shOf op).c ≤ 6) ∧ (0 ≤ (shOf op).n ∧ (shOf op).n ≤ 6) := by
  refine op_all (P := fun op => (0 ≤ (shOf op).a ∧ (shOf op).a ≤ 6) ∧ (0 ≤ (shOf op).b ∧ (shOf op).b ≤ 6) ∧ (0 ≤ (shOf op).c ∧ (shOf op).c ≤ 6) ∧ (0 ≤ (shOf op).n ∧ (shOf op).n ≤ 6)) ?_ op h
  decide

theorem right_no (e : Ins) (w : World) (h : known e.op = false) : Calls Tryd.prog 37 #[insV e] w fun r w' => r = .returned (.bool false) ∧ Below w.heap.size w w' := by
  obtain ⟨op, a, b, c, m⟩ := e
  unfold insV
  simp only at h ⊢
  go_enter Tryd.func37, Tryd.ntmps37
  go_wp2_with (go_at_call 76; refine (known_any _ _).mono ?_; rintro e w1 ⟨rfl, rfl⟩)
  go_ret
  exact ⟨rfl, (Below.refl _ w).alloc (Nat.le_refl _) _⟩

set_option maxRecDepth 100000 in
set_option maxHeartbeats 4000000 in
theorem right_yes (e : Ins) (w : World) (h : known e.op = true) (hm : 0 ≤ e.n ∧ e.n < 4294967296) : Calls Tryd.prog 37 #[insV e] w fun r w' => r = .returned (.bool (fitB (shOf e.op).a e.a && fitB (shOf e.op).b e.b && fitB (shOf e.op).c e.c && fitB (shOf e.op).n e.n)) ∧ Below w.heap.size w w' := by
  obtain ⟨op, a, b, c, m⟩ := e
  unfold insV
  simp only at h hm ⊢
  have hew : IntKind.i64.wrap m = m := by simp [IntKind.wrap, IntKind.signed, IntKind.bits]; omega
  have hix := fun W => shape_at op h W
  have hsh := shE_sh h
  have hrg := sh_rng h
  unfold shCells at hix
  rw [hsh] at hix
  obtain ⟨S, hS⟩ : ∃ S, shOf op = S := ⟨_, rfl⟩
  rw [hS] at hix hrg ⊢
  obtain ⟨sw, sa, sb, sc, sn⟩ := S
  obtain ⟨us, hus⟩ : ∃ x, (shE op).2.1 = x := ⟨_, rfl⟩
  obtain ⟨ts, hts⟩ : ∃ x, (shE op).2.2 = x := ⟨_, rfl⟩
  rw [hus, hts] at hix
  simp only at hix hrg ⊢
  obtain ⟨ra, rb, rc, rn⟩ := hrg
  clear hsh hS hus hts
  go_enter Tryd.func37, Tryd.ntmps37
  go_wp2_with (go_at_call 76; refine (known_any _ _).mono ?_; rintro e w1 ⟨rfl, rfl⟩)
  have hbx := InBox.new w ⟨op, a, b, c, m⟩
  simp only at hbx
  obtain ⟨w1, hw1⟩ : ∃ x, w.alloc (.cells #[.int .i64 op, .int .i64 a, .int .i64 b, .int .i64 c, .int .u32 m] 24) = x := ⟨_, rfl⟩
  obtain ⟨n, hn⟩ : ∃ n, w.heap.size = n := ⟨_, rfl⟩
  have hs1 : w1.heap.size = n + 1 := by rw [← hw1, World.size_alloc, hn]
  have hb1 : Below n w w1 := by rw [← hw1, ← hn]; exact (Below.refl _ w).alloc (Nat.le_refl _) _
  rw [hw1, hn] at hbx
  rw [hw1]
  simp only [hn]
  clear hw1
  have hSd : RgSt w1 n ⟨op, a, b, c, m⟩ w1.drew := ⟨(Below.refl _ _).drew, hbx, hbx.cells.1⟩
  refine region_to (fun nb => { tmps := #[.agg #[.int .i64 op, .int .i64 a, .int .i64 b, .int .i64 c, .int .u32 m], .pointer (some ⟨n, 0, none⟩), .bool false, .pointer (some ⟨nb, 0, none⟩), .pointer (some ⟨n, 0, none⟩), .int .i64 op, .bool true, .bool false, .agg shapesV, .pointer (some ⟨n, 0, none⟩), .int .i64 op, .agg #[.string ⟨sw.toArray⟩, .int .i64 sa, .int .i64 sb, .int .i64 sc, .int .i64 sn, .string ⟨us.toArray⟩, .string ⟨ts.toArray⟩], undef, undef, undef, undef, undef, undef, undef, undef, undef, undef, undef, undef, undef, undef, undef, undef, undef, undef, undef, undef, undef, undef, undef, undef, undef, undef, undef], defers := [] }) (fun nb w => w1.heap.size ≤ nb ∧ ShBox w nb (.string ⟨sw.toArray⟩) (.int .i64 sa) (.int .i64 sb) (.int .i64 sc) (.int .i64 sn) (.string ⟨us.toArray⟩) (.string ⟨ts.toArray⟩) ∧ InBox w n ⟨op, a, b, c, m⟩ ∧ Below w1.heap.size w1 w) ?reg ?cont
  case reg =>
    refine wp_region_held_drew (S := fun w' => Below w1.heap.size w1 w' ∧ InBox w' n ⟨op, a, b, c, m⟩ ∧ w'.cell? ⟨n, 0, none⟩ = some (.int .i64 op)) (by kernel_rfl) hSd (fun hHeld => ?_)
    generalize w1.drew = wd at hHeld ⊢
    refine wpAnyH_take (i := 1) (oi := ?_) (v := ?_) ?_ (by kernel_rfl) (by kernel_rfl) (by kernel_rfl) ?_ (Or.inl ⟨?_, ?_⟩) (by assumption) ?_
    rotate_left 2
    · (simp only [List.getElem?_toArray, List.getElem?_cons_succ, List.getElem?_cons_zero]; rfl)
    · first | exact fun _ _ _ h => h | exact fun _ _ _ h => by cases h.1
    · rfl
    · ((intro wq hSq; (try dsimp only at hSq); go_simp); (try with_reducible rfl))
    try simp only [Act.put, List.setIfInBounds_toArray, List.set_cons_zero, List.set_cons_succ]
    refine wpAnyH_take (i := 2) (oi := ?_) (v := ?_) ?_ (by kernel_rfl) (by kernel_rfl) (by kernel_rfl) ?_ (Or.inl ⟨?_, ?_⟩) (by assumption) ?_
    rotate_left 2
    · (simp only [List.getElem?_toArray, List.getElem?_cons_succ, List.getElem?_cons_zero]; rfl)
    · first | exact fun _ _ _ h => h | exact fun _ _ _ h => by cases h.1
    · rfl
    · ((intro wq hSq; (try dsimp only at hSq); go_simp); (try with_reducible rfl))
    try simp only [Act.put, List.setIfInBounds_toArray, List.set_cons_zero, List.set_cons_succ]
    refine wpAnyH_ready (rs := [0, 4]) (by kernel_rfl) (by simp) ?_
    refine AllReadyH.cons (o := ?_) ?_ (fun K hK => ?_) ?_
    rotate_left
    · (simp only [List.getElem?_toArray, List.getElem?_cons_zero]; rfl)
    · go_simp
      go_at_call 77
      refine (shapes_any _).mono ?_
      rintro e wx ⟨rfl, hbx⟩
      have hSx := RgSt.below (w1 := w1) (n := n) (e := ⟨op, a, b, c, m⟩) hHeld hbx
      refine hK.out _ _ hSx (fun hHeld => ?_)
      clear hK K
      try simp only [Act.put, List.setIfInBounds_toArray, List.set_cons_zero, List.set_cons_succ]
      refine wpAnyH_take (i := 3) (oi := ?_) (v := ?_) ?_ (by kernel_rfl) (by kernel_rfl) (by kernel_rfl) ?_ (Or.inl ⟨?_, ?_⟩) (by assumption) ?_
      rotate_left 2
      · (simp only [List.getElem?_toArray, List.getElem?_cons_succ, List.getElem?_cons_zero]; rfl)
      · first | exact fun _ _ _ h => h | exact fun _ _ _ h => by cases h.1
      · rfl
      · ((intro wq hSq; (try dsimp only at hSq); go_simp); (try with_reducible rfl))
      try simp only [Act.put, List.setIfInBounds_toArray, List.set_cons_zero, List.set_cons_succ]
      refine wpAnyH_ready (rs := [4]) (by kernel_rfl) (by simp) ?_
      refine AllReadyH.cons (o := ?_) ?_ (fun K hK => ?_) AllReadyH.nil
      rotate_left
      · (simp only [List.getElem?_toArray, List.getElem?_cons_succ, List.getElem?_cons_zero]; rfl)
      go_simp
      have hnew : ShBox ((wx).alloc (.cells #[.string ⟨#[]⟩, .int .i64 0, .int .i64 0, .int .i64 0, .int .i64 0, .string ⟨#[]⟩, .string ⟨#[]⟩] 108)) (wx).heap.size (.string ⟨#[]⟩) (.int .i64 0) (.int .i64 0) (.int .i64 0) (.int .i64 0) (.string ⟨#[]⟩) (.string ⟨#[]⟩) := heap_alloc_new (wx) _
      have hsz := hHeld.1.size
      have hSx := RgSt.below (w1 := w1) (n := n) (e := ⟨op, a, b, c, m⟩) hHeld ((Below.refl _ (wx)).alloc (Nat.le_refl _) (.cells #[.string ⟨#[]⟩, .int .i64 0, .int .i64 0, .int .i64 0, .int .i64 0, .string ⟨#[]⟩, .string ⟨#[]⟩] 108))
      refine hK.out _ _ hSx (fun hHeld => ?_)
      clear hK K
      try simp only [Act.put, List.setIfInBounds_toArray, List.set_cons_zero, List.set_cons_succ]
      obtain ⟨wa, hwa⟩ : ∃ x, (wx).alloc (.cells #[.string ⟨#[]⟩, .int .i64 0, .int .i64 0, .int .i64 0, .int .i64 0, .string ⟨#[]⟩, .string ⟨#[]⟩] 108) = x := ⟨_, rfl⟩
      obtain ⟨nb, hnb⟩ : ∃ x, (wx).heap.size = x := ⟨_, rfl⟩
      rw [hwa, hnb] at hnew
      rw [hwa] at hHeld ⊢
      rw [hnb] at hsz ⊢
      clear hwa hnb
      have hS2 : RgSt2 w1 n nb ⟨op, a, b, c, m⟩ wa := ⟨hHeld, _, _, _, _, _, _, _, hnew⟩
      clear hnew hHeld
      refine wpAnyH_strong (S' := fun w' => (Below w1.heap.size w1 w' ∧ InBox w' n ⟨op, a, b, c, m⟩ ∧ w'.cell? ⟨n, 0, none⟩ = some (.int .i64 op)) ∧ ∃ v0 v1 v2 v3 v4 v5 v6, ShBox w' nb v0 v1 v2 v3 v4 v5 v6) (fun w h => h.1) _ _ _ _ ?_
      have hHeld := hS2
      obtain ⟨hq1, z0, z1, z2, z3, z4, z5, z6, hz⟩ := hHeld
      obtain ⟨b0, b1, b2, b3, b4, b5, b6⟩ := hz.cells
      have f0 := hz.frozen 0
      have f1 := hz.frozen 1
      have f2 := hz.frozen 2
      have f3 := hz.frozen 3
      have f4 := hz.frozen 4
      have f5 := hz.frozen 5
      have f6 := hz.frozen 6
      refine wpAnyH_ready (rs := [5]) (by kernel_rfl) (by simp) ?_
      refine AllReadyH.cons (o := ?_) ?_ (fun K hK => ?_) AllReadyH.nil
      rotate_left
      · (simp only [List.getElem?_toArray, List.getElem?_cons_succ, List.getElem?_cons_zero]; rfl)
      go_simp
      have hSx := RgSt2.set hq1 hz (by omega) hsz (.string ⟨sw.toArray⟩) (.int .i64 sa) (.int .i64 sb) (.int .i64 sc) (.int .i64 sn) (.string ⟨us.toArray⟩) (.string ⟨ts.toArray⟩)
      have hzz := hz.set7 (.string ⟨sw.toArray⟩) (.int .i64 sa) (.int .i64 sb) (.int .i64 sc) (.int .i64 sn) (.string ⟨us.toArray⟩) (.string ⟨ts.toArray⟩)
      refine hK.out _ _ hSx (fun hHeld => ?_)
      clear hK K
      try simp only [Act.put, List.setIfInBounds_toArray, List.set_cons_zero, List.set_cons_succ]
      refine wpAnyH_done (by kernel_rfl) ?_ _
      exact ⟨rfl, nb, rfl, hsz, hzz, hSx.1.2.1, hSx.1.1⟩
    · refine AllReadyH.cons (o := ?_) ?_ (fun K hK => ?_) AllReadyH.nil
      rotate_left
      · (simp only [List.getElem?_toArray, List.getElem?_cons_succ, List.getElem?_cons_zero]; rfl)
      · go_simp
        have hnew : ShBox ((wd).alloc (.cells #[.string ⟨#[]⟩, .int .i64 0, .int .i64 0, .int .i64 0, .int .i64 0, .string ⟨#[]⟩, .string ⟨#[]⟩] 108)) (wd).heap.size (.string ⟨#[]⟩) (.int .i64 0) (.int .i64 0) (.int .i64 0) (.int .i64 0) (.string ⟨#[]⟩) (.string ⟨#[]⟩) := heap_alloc_new (wd) _
        have hsz := hHeld.1.size
        have hSx := RgSt.below (w1 := w1) (n := n) (e := ⟨op, a, b, c, m⟩) hHeld ((Below.refl _ (wd)).alloc (Nat.le_refl _) (.cells #[.string ⟨#[]⟩, .int .i64 0, .int .i64 0, .int .i64 0, .int .i64 0, .string ⟨#[]⟩, .string ⟨#[]⟩] 108))
        refine hK.out _ _ hSx (fun hHeld => ?_)
        clear hK K
        try simp only [Act.put, List.setIfInBounds_toArray, List.set_cons_zero, List.set_cons_succ]
        obtain ⟨wa, hwa⟩ : ∃ x, (wd).alloc (.cells #[.string ⟨#[]⟩, .int .i64 0, .int .i64 0, .int .i64 0, .int .i64 0, .string ⟨#[]⟩, .string ⟨#[]⟩] 108) = x := ⟨_, rfl⟩
        obtain ⟨nb, hnb⟩ : ∃ x, (wd).heap.size = x := ⟨_, rfl⟩
        rw [hwa, hnb] at hnew
        rw [hwa] at hHeld ⊢
        rw [hnb] at hsz ⊢
        clear hwa hnb
        have hS2 : RgSt2 w1 n nb ⟨op, a, b, c, m⟩ wa := ⟨hHeld, _, _, _, _, _, _, _, hnew⟩
        clear hnew hHeld
        refine wpAnyH_strong (S' := fun w' => (Below w1.heap.size w1 w' ∧ InBox w' n ⟨op, a, b, c, m⟩ ∧ w'.cell? ⟨n, 0, none⟩ = some (.int .i64 op)) ∧ ∃ v0 v1 v2 v3 v4 v5 v6, ShBox w' nb v0 v1 v2 v3 v4 v5 v6) (fun w h => h.1) _ _ _ _ ?_
        have hHeld := hS2
        refine wpAnyH_ready (rs := [0]) (by kernel_rfl) (by simp) ?_
        refine AllReadyH.cons (o := ?_) ?_ (fun K hK => ?_) AllReadyH.nil
        rotate_left
        · (simp only [List.getElem?_toArray, List.getElem?_cons_zero]; rfl)
        go_simp
        go_at_call 77
        refine (shapes_any _).mono ?_
        rintro e wx ⟨rfl, hbx⟩
        have hSx := RgSt2.below (w1 := w1) (n := n) (nb := nb) (e := ⟨op, a, b, c, m⟩) hHeld hbx
        refine hK.out _ _ hSx (fun hHeld => ?_)
        clear hK K
        try simp only [Act.put, List.setIfInBounds_toArray, List.set_cons_zero, List.set_cons_succ]
        refine wpAnyH_take (i := 3) (oi := ?_) (v := ?_) ?_ (by kernel_rfl) (by kernel_rfl) (by kernel_rfl) ?_ (Or.inl ⟨?_, ?_⟩) (by assumption) ?_
        rotate_left 2
        · (simp only [List.getElem?_toArray, List.getElem?_cons_succ, List.getElem?_cons_zero]; rfl)
        · first | exact fun _ _ _ h => h | exact fun _ _ _ h => by cases h.1
        · rfl
        · ((intro wq hSq; (try dsimp only at hSq); go_simp); (try with_reducible rfl))
        try simp only [Act.put, List.setIfInBounds_toArray, List.set_cons_zero, List.set_cons_succ]
        obtain ⟨hq1, z0, z1, z2, z3, z4, z5, z6, hz⟩ := hHeld
        obtain ⟨b0, b1, b2, b3, b4, b5, b6⟩ := hz.cells
        have f0 := hz.frozen 0
        have f1 := hz.frozen 1
        have f2 := hz.frozen 2
        have f3 := hz.frozen 3
        have f4 := hz.frozen 4
        have f5 := hz.frozen 5
        have f6 := hz.frozen 6
        refine wpAnyH_ready (rs := [5]) (by kernel_rfl) (by simp) ?_
        refine AllReadyH.cons (o := ?_) ?_ (fun K hK => ?_) AllReadyH.nil
        rotate_left
        · (simp only [List.getElem?_toArray, List.getElem?_cons_succ, List.getElem?_cons_zero]; rfl)
        go_simp
        have hSx := RgSt2.set hq1 hz (by omega) hsz (.string ⟨sw.toArray⟩) (.int .i64 sa) (.int .i64 sb) (.int .i64 sc) (.int .i64 sn) (.string ⟨us.toArray⟩) (.string ⟨ts.toArray⟩)
        have hzz := hz.set7 (.string ⟨sw.toArray⟩) (.int .i64 sa) (.int .i64 sb) (.int .i64 sc) (.int .i64 sn) (.string ⟨us.toArray⟩) (.string ⟨ts.toArray⟩)
        refine hK.out _ _ hSx (fun hHeld => ?_)
        clear hK K
        try simp only [Act.put, List.setIfInBounds_toArray, List.set_cons_zero, List.set_cons_succ]
        refine wpAnyH_done (by kernel_rfl) ?_ _
        exact ⟨rfl, nb, rfl, hsz, hzz, hSx.1.2.1, hSx.1.1⟩
  rintro nb w4 ⟨hnb, hz, hbx4, hb4⟩
  dsimp only
  clear hSd hix
  obtain ⟨c0, c1, c2, c3, c4, c5, c6⟩ := hz.cells
  obtain ⟨d0, d1, d2, d3, d4⟩ := hbx4.cells
  have hbf := hb1.trans (hb4.mono (by omega))
  have hbf' := Lib.hid hbf
  clear hbf hb4 hb1 hz hbx4 hbx
  rcases h1 : fitB sa a with _ | _
  · go_wp2_with (go_at_call 78; refine (fits_any _ _ _ (by assumption)).mono ?_; rintro e w1 ⟨rfl, rfl⟩)
    go_ret
    exact ⟨ret_bool (by simp [*]), by rw [hn]; exact hbf'.out⟩
  rcases h2 : fitB sb b with _ | _
  · go_wp2_with (go_at_call 78; refine (fits_any _ _ _ (by assumption)).mono ?_; rintro e w1 ⟨rfl, rfl⟩)
    go_ret
    exact ⟨ret_bool (by simp [*]), by rw [hn]; exact hbf'.out⟩
  rcases h3 : fitB sc c with _ | _
  · go_wp2_with (go_at_call 78; refine (fits_any _ _ _ (by assumption)).mono ?_; rintro e w1 ⟨rfl, rfl⟩)
    go_ret
    exact ⟨ret_bool (by simp [*]), by rw [hn]; exact hbf'.out⟩
  rcases h4 : fitB sn m with _ | _
  all_goals
    go_wp2_with (go_at_call 78; refine (fits_any _ _ _ (by assumption)).mono ?_; rintro e w1 ⟨rfl, rfl⟩)
    go_ret
    exact ⟨ret_bool (by simp [*]), by rw [hn]; exact hbf'.out⟩

theorem right_any (e : Ins) (w : World) (hm : 0 ≤ e.n ∧ e.n < 4294967296) : Calls Tryd.prog 37 #[insV e] w fun r w' => r = .returned (.bool (insB e)) ∧ Below w.heap.size w w' := by
  unfold insB
  rcases h : known e.op with _ | _
  · exact right_no e w h
  · exact right_yes e w h hm

end Go.Proofs.YtkcdmonmgnmojaaDoor
