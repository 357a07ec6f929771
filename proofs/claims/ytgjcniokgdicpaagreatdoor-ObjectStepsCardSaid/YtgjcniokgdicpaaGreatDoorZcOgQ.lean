/- An operation begins. -/
import Derived.Test.YtgjcniokgdicpaaGreatDoorZcOgP
import Derived.Great.Ranges
namespace Go.Proofs.YtgjcniokgdicpaaGreatDoor
open Go.RowKit
attribute [local go_sem] Oper.semAt_some
set_option maxHeartbeats 4000000
set_option maxRecDepth 100000
abbrev QOgQ0 (a0 : Nat) (a1 : Ob) (w' : World) : Prop := w'.cell? ⟨a0, 0, none⟩ = some (.int .i64 a1.k) ∧ w'.cell? ⟨a0, 1, none⟩ = some (.int .i64 a1.wd) ∧ w'.cell? ⟨a0, 2, none⟩ = some (.int .i64 a1.s) ∧ w'.cell? ⟨a0, 3, none⟩ = some (.int .i64 a1.c) ∧ w'.cell? ⟨a0, 4, none⟩ = some (.int .u32 a1.st) ∧ w'.cell? ⟨a0, 5, none⟩ = some (.slice a1.I a1.ni a1.ci) ∧ w'.cell? ⟨a0, 6, none⟩ = some (.int .i64 a1.wr) ∧ w'.cell? ⟨a0, 7, none⟩ = some (.slice a1.R a1.nr a1.cr)
def zCore : Array Value := #[.int .i64 0, .int .i64 0, .int .i64 0, .int .i64 0, .int .u32 0, .slice none 0 0, .int .i64 0, .slice none 0 0, .int .i64 0, .int .i64 0, .int .i64 0, .int .i64 0, .int .i64 0, .int .u32 0, .int .u32 0, .int .u64 0, .slice none 0 0, .pointer none, .int .i64 0, .int .i64 0, .int .i64 0, .int .i64 0, .bool false]
def newCore (o : Ob) (op rd at' sz : Int) (v : Value) : Array Value := #[.int .i64 o.k, .int .i64 o.wd, .int .i64 o.s, .int .i64 o.c, .int .u32 o.st, .slice o.I o.ni o.ci, .int .i64 o.wr, .slice o.R o.nr o.cr, .int .i64 op, .int .i64 rd, .int .i64 0, .int .i64 0, .int .i64 0, .int .u32 0, .int .u32 0, .int .u64 0, v, .pointer none, .int .i64 at', .int .i64 sz, .int .i64 0, .int .i64 0, .bool false]
theorem res_mb (tmps : Array Value) (w : World) (arr : Array Value) {b : Nat} {z : Int} (ha : tmps.getD 14 undef = .pointer (some ⟨b, 0, none⟩)) (hz : tmps.getD 15 undef = .int .i64 z) (hg : RowB w b arr 113) (hs : arr.size = 23) :
  (results Tryz.f120 tmps).run Tryz.prog w = .ok (.tuple #[.agg arr, .int .i64 z]) w := by
 have h : Tryz.f120.results = #[.cell 14 113, .tmp 15] := rfl
 have h2 := run_loadVar_row (P := Tryz.prog) w b 113 113 arr (0, 0) _ hg Tryz.underlying113 rfl (by rw [hs]; kernel_rfl)
 unfold results
 rw [h]
 simp only [List.mapM_toArray, List.mapM_cons, List.mapM_nil, ha, hz, asAddr, bind_pure_comp]
 simp [h2]
section
variable (o : Ob) (sz at' op rd : Int) (A : Option Addr) (cap : Nat) (r : List Int) (a b : Int)
theorem mbegin_e1 (w : World) (h1 : sz < 1) : Calls Tryz.prog 120 #[.agg (obA o), .int .i64 sz, .int .i64 at', .int .i64 op, .int .i64 rd, .slice A r.length cap, .agg #[.int .i64 a, .int .i64 b]] w fun e w' => e = .returned (.tuple #[.agg zCore, .int .i64 1]) ∧ Below w.heap.size w w' := by
 have d1 : decide (sz < 1) = true := decide_eq_true h1
 have hn0 := RowB.new w (obA o) 36
 have hb1 := (Below.refl _ (w.alloc (.cells (obA o) 36))).alloc (Nat.le_refl _) (.cells #[.int .i64 a, .int .i64 b] 116)
 have hp0 := RowB.new (w.alloc (.cells (obA o) 36)) #[.int .i64 a, .int .i64 b] 116
 have hb2 := (Below.refl _ ((w.alloc (.cells (obA o) 36)).alloc (.cells #[.int .i64 a, .int .i64 b] 116))).alloc (Nat.le_refl _) (.cells zCore 113)
 have hc0 := RowB.new ((w.alloc (.cells (obA o) 36)).alloc (.cells #[.int .i64 a, .int .i64 b] 116)) zCore 113
 have hn := (hn0.kept hb1).kept hb2
 have hp := hp0.kept hb2
 have hB := ((Below.refl w.heap.size w).alloc (Nat.le_refl _) (.cells (obA o) 36)).alloc (by simp) (.cells #[.int .i64 a, .int .i64 b] 116) |>.alloc (by simp; omega) (.cells zCore 113)
 rw [World.size_alloc] at hp
 rw [World.size_alloc, World.size_alloc] at hc0
 obtain ⟨n, hn'⟩ : ∃ n, w.heap.size = n := ⟨_, rfl⟩
 rw [hn'] at hn hp hc0 hB ⊢
 clear hn0 hb1 hb2 hp0
 have HN := Lib.hid hn
 have HP := Lib.hid hp
 have HC := Lib.hid hc0
 have HB := Lib.hid hB
 clear hn hp hc0 hB
 unfold obA zCore at HN HP HC HB
 unfold obA
 go_enter Tryz.func120, Tryz.ntmps120
 go_wp2_with (first
  | (refine wpList_build rfl 113 _ rfl (by kernel_rfl) ?_
     refine wpList_store_row rfl 113 (.tmp 14) (.tmp 24) rfl (n + 1 + 1) zCore rfl (by kernel_rfl) 113 _ HC.out (by kernel_rfl) rfl (by simp [zCore, Value.oneCell']) ?_))
 refine bodyPost_ret (res_mb _ _ zCore rfl rfl (RowB.row HC.out) rfl) rfl ?_
 exact ⟨rfl, below_setRow HB.out _ _ (by omega)⟩
theorem mbegin_e1b (w : World) (h1 : 1 ≤ sz) (h2 : at' < 0) : Calls Tryz.prog 120 #[.agg (obA o), .int .i64 sz, .int .i64 at', .int .i64 op, .int .i64 rd, .slice A r.length cap, .agg #[.int .i64 a, .int .i64 b]] w fun e w' => e = .returned (.tuple #[.agg zCore, .int .i64 1]) ∧ Below w.heap.size w w' := by
 have d1 : decide (sz < 1) = false := decide_eq_false (by omega)
 have d2 : decide (at' < 0) = true := decide_eq_true h2
 have hn0 := RowB.new w (obA o) 36
 have hb1 := (Below.refl _ (w.alloc (.cells (obA o) 36))).alloc (Nat.le_refl _) (.cells #[.int .i64 a, .int .i64 b] 116)
 have hp0 := RowB.new (w.alloc (.cells (obA o) 36)) #[.int .i64 a, .int .i64 b] 116
 have hb2 := (Below.refl _ ((w.alloc (.cells (obA o) 36)).alloc (.cells #[.int .i64 a, .int .i64 b] 116))).alloc (Nat.le_refl _) (.cells zCore 113)
 have hc0 := RowB.new ((w.alloc (.cells (obA o) 36)).alloc (.cells #[.int .i64 a, .int .i64 b] 116)) zCore 113
 have hn := (hn0.kept hb1).kept hb2
 have hp := hp0.kept hb2
 have hB := ((Below.refl w.heap.size w).alloc (Nat.le_refl _) (.cells (obA o) 36)).alloc (by simp) (.cells #[.int .i64 a, .int .i64 b] 116) |>.alloc (by simp; omega) (.cells zCore 113)
 rw [World.size_alloc] at hp
 rw [World.size_alloc, World.size_alloc] at hc0
 obtain ⟨n, hn'⟩ : ∃ n, w.heap.size = n := ⟨_, rfl⟩
 rw [hn'] at hn hp hc0 hB ⊢
 clear hn0 hb1 hb2 hp0
 have HN := Lib.hid hn
 have HP := Lib.hid hp
 have HC := Lib.hid hc0
 have HB := Lib.hid hB
 clear hn hp hc0 hB
 unfold obA zCore at HN HP HC HB
 unfold obA
 go_enter Tryz.func120, Tryz.ntmps120
 go_wp2_with (first
  | (refine wpList_build rfl 113 _ rfl (by kernel_rfl) ?_
     refine wpList_store_row rfl 113 (.tmp 14) (.tmp 24) rfl (n + 1 + 1) zCore rfl (by kernel_rfl) 113 _ HC.out (by kernel_rfl) rfl (by simp [zCore, Value.oneCell']) ?_))
 refine bodyPost_ret (res_mb _ _ zCore rfl rfl (RowB.row HC.out) rfl) rfl ?_
 exact ⟨rfl, below_setRow HB.out _ _ (by omega)⟩
theorem mbegin_e9 (w : World) (h1 : 1 ≤ sz) (h2 : 0 ≤ at') (h3 : op ≠ a) (h4 : op ≠ b) : Calls Tryz.prog 120 #[.agg (obA o), .int .i64 sz, .int .i64 at', .int .i64 op, .int .i64 rd, .slice A r.length cap, .agg #[.int .i64 a, .int .i64 b]] w fun e w' => e = .returned (.tuple #[.agg zCore, .int .i64 9]) ∧ Below w.heap.size w w' := by
 have d1 : decide (sz < 1) = false := decide_eq_false (by omega)
 have d2 : decide (at' < 0) = false := decide_eq_false (by omega)
 have d3 : (op == a) = false := by simpa using h3
 have d4 : (op == b) = false := by simpa using h4
 have hn0 := RowB.new w (obA o) 36
 have hb1 := (Below.refl _ (w.alloc (.cells (obA o) 36))).alloc (Nat.le_refl _) (.cells #[.int .i64 a, .int .i64 b] 116)
 have hp0 := RowB.new (w.alloc (.cells (obA o) 36)) #[.int .i64 a, .int .i64 b] 116
 have hb2 := (Below.refl _ ((w.alloc (.cells (obA o) 36)).alloc (.cells #[.int .i64 a, .int .i64 b] 116))).alloc (Nat.le_refl _) (.cells zCore 113)
 have hc0 := RowB.new ((w.alloc (.cells (obA o) 36)).alloc (.cells #[.int .i64 a, .int .i64 b] 116)) zCore 113
 have hn := (hn0.kept hb1).kept hb2
 have hp := hp0.kept hb2
 have hB := ((Below.refl w.heap.size w).alloc (Nat.le_refl _) (.cells (obA o) 36)).alloc (by simp) (.cells #[.int .i64 a, .int .i64 b] 116) |>.alloc (by simp; omega) (.cells zCore 113)
 rw [World.size_alloc] at hp
 rw [World.size_alloc, World.size_alloc] at hc0
 obtain ⟨n, hn'⟩ : ∃ n, w.heap.size = n := ⟨_, rfl⟩
 rw [hn'] at hn hp hc0 hB ⊢
 clear hn0 hb1 hb2 hp0
 have HN := Lib.hid hn
 have HP := Lib.hid hp
 have HC := Lib.hid hc0
 have HB := Lib.hid hB
 clear hn hp hc0 hB
 unfold obA zCore at HN HP HC HB
 unfold obA
 go_enter Tryz.func120, Tryz.ntmps120
 go_wp2_with (first
  | (refine wpList_build rfl 113 _ rfl (by kernel_rfl) ?_
     refine wpList_store_row rfl 113 (.tmp 14) (.tmp 29) rfl (n + 1 + 1) zCore rfl (by kernel_rfl) 113 _ HC.out (by kernel_rfl) rfl (by simp [zCore, Value.oneCell']) ?_))
 refine bodyPost_ret (res_mb _ _ zCore rfl rfl (RowB.row HC.out) rfl) rfl ?_
 exact ⟨rfl, below_setRow HB.out _ _ (by omega)⟩
theorem mbegin_w5 (w : World) (h1 : 1 ≤ sz) (h2 : 0 ≤ at') (h3 : op = a) (h5 : rd < 0) : Calls Tryz.prog 120 #[.agg (obA o), .int .i64 sz, .int .i64 at', .int .i64 op, .int .i64 rd, .slice A r.length cap, .agg #[.int .i64 a, .int .i64 b]] w fun e w' => e = .returned (.tuple #[.agg zCore, .int .i64 5]) ∧ Below w.heap.size w w' := by
 have d1 : decide (sz < 1) = false := decide_eq_false (by omega)
 have d2 : decide (at' < 0) = false := decide_eq_false (by omega)
 have d3 : (op == a) = true := by simpa using h3
 have d5 : decide (rd < 0) = true := decide_eq_true h5
 have h3x := Lib.hid h3
 clear h3
 have hn0 := RowB.new w (obA o) 36
 have hb1 := (Below.refl _ (w.alloc (.cells (obA o) 36))).alloc (Nat.le_refl _) (.cells #[.int .i64 a, .int .i64 b] 116)
 have hp0 := RowB.new (w.alloc (.cells (obA o) 36)) #[.int .i64 a, .int .i64 b] 116
 have hb2 := (Below.refl _ ((w.alloc (.cells (obA o) 36)).alloc (.cells #[.int .i64 a, .int .i64 b] 116))).alloc (Nat.le_refl _) (.cells zCore 113)
 have hc0 := RowB.new ((w.alloc (.cells (obA o) 36)).alloc (.cells #[.int .i64 a, .int .i64 b] 116)) zCore 113
 have hn := (hn0.kept hb1).kept hb2
 have hp := hp0.kept hb2
 have hB := ((Below.refl w.heap.size w).alloc (Nat.le_refl _) (.cells (obA o) 36)).alloc (by simp) (.cells #[.int .i64 a, .int .i64 b] 116) |>.alloc (by simp; omega) (.cells zCore 113)
 rw [World.size_alloc] at hp
 rw [World.size_alloc, World.size_alloc] at hc0
 obtain ⟨n, hn'⟩ : ∃ n, w.heap.size = n := ⟨_, rfl⟩
 rw [hn'] at hn hp hc0 hB ⊢
 clear hn0 hb1 hb2 hp0
 have HN := Lib.hid hn
 have HP := Lib.hid hp
 have HC := Lib.hid hc0
 have HB := Lib.hid hB
 clear hn hp hc0 hB
 unfold obA zCore at HN HP HC HB
 unfold obA
 go_enter Tryz.func120, Tryz.ntmps120
 go_wp2_with fail
 obtain ⟨w1, hw1⟩ : ∃ x, ((w.alloc (.cells #[.int .i64 o.k, .int .i64 o.wd, .int .i64 o.s, .int .i64 o.c, .int .u32 o.st, .slice o.I o.ni o.ci, .int .i64 o.wr, .slice o.R o.nr o.cr] 36)).alloc (.cells #[.int .i64 a, .int .i64 b] 116)).alloc (.cells #[.int .i64 0, .int .i64 0, .int .i64 0, .int .i64 0, .int .u32 0, .slice none 0 0, .int .i64 0, .slice none 0 0, .int .i64 0, .int .i64 0, .int .i64 0, .int .i64 0, .int .i64 0, .int .u32 0, .int .u32 0, .int .u64 0, .slice none 0 0, .pointer none, .int .i64 0, .int .i64 0, .int .i64 0, .int .i64 0, .bool false] 113) = x := ⟨_, rfl⟩
 rw [hw1] at HN HP HC HB ⊢
 clear hw1
 have d1 : w1.drew.cell? ⟨n, 1, none⟩ = some (.int .i64 o.wd) := ((HN.out.kept (Below.refl _ w1).drew).cell 1).trans rfl
 have HN2 := Lib.hid (HN.out.kept (Below.refl _ w1).drew)
 have HC2 := Lib.hid (HC.out.kept (Below.refl _ w1).drew)
 have HB2 := Lib.hid HB.out.drew
 clear HN HC HB HP
 have hSd : (fun w' : World => w'.cell? ⟨n, 1, none⟩ = some (.int .i64 o.wd)) w1.drew := d1
 refine wp_region_held_drew (S := (fun w' : World => w'.cell? ⟨n, 1, none⟩ = some (.int .i64 o.wd))) (by kernel_rfl) hSd (fun hHeld => ?_)
 clear hSd
 generalize w1.drew = wd at hHeld HN2 HC2 HB2 ⊢
 have hHeld : (fun w' : World => w'.cell? ⟨n, 1, none⟩ = some (.int .i64 o.wd)) wd := hHeld
 refine tk4 0 1 2 3 ?_
 refine wpAnyH_done (by kernel_rfl) ?_ _
 have HN := HN2
 have HC := HC2
 have HB := HB2
 clear HN2 HC2 HB2 hHeld
 go_wp2_with (first
  | (refine wpList_build rfl 113 _ rfl (by kernel_rfl) ?_
     refine wpList_store_row rfl 113 (.tmp 14) (.tmp 48) rfl (n + 1 + 1) zCore rfl (by kernel_rfl) 113 _ HC.out (by kernel_rfl) rfl (by simp [zCore, Value.oneCell']) ?_))
 refine bodyPost_ret (res_mb _ _ zCore rfl rfl (RowB.row HC.out) rfl) rfl ?_
 exact ⟨rfl, below_setRow HB.out _ _ (by omega)⟩
theorem mbegin_w5b (w : World) (h1 : 1 ≤ sz) (h2 : 0 ≤ at') (h3 : op = a) (_h5 : 0 ≤ rd) (h6 : 1 ≤ rd) : Calls Tryz.prog 120 #[.agg (obA o), .int .i64 sz, .int .i64 at', .int .i64 op, .int .i64 rd, .slice A r.length cap, .agg #[.int .i64 a, .int .i64 b]] w fun e w' => e = .returned (.tuple #[.agg zCore, .int .i64 5]) ∧ Below w.heap.size w w' := by
 have d1 : decide (sz < 1) = false := decide_eq_false (by omega)
 have d2 : decide (at' < 0) = false := decide_eq_false (by omega)
 have d3 : (op == a) = true := by simpa using h3
 have d5 : decide (rd < 0) = false := decide_eq_false (by omega)
 have d6 : decide (1 ≤ rd) = true := decide_eq_true h6
 have h3x := Lib.hid h3
 clear h3
 have hn0 := RowB.new w (obA o) 36
 have hb1 := (Below.refl _ (w.alloc (.cells (obA o) 36))).alloc (Nat.le_refl _) (.cells #[.int .i64 a, .int .i64 b] 116)
 have hp0 := RowB.new (w.alloc (.cells (obA o) 36)) #[.int .i64 a, .int .i64 b] 116
 have hb2 := (Below.refl _ ((w.alloc (.cells (obA o) 36)).alloc (.cells #[.int .i64 a, .int .i64 b] 116))).alloc (Nat.le_refl _) (.cells zCore 113)
 have hc0 := RowB.new ((w.alloc (.cells (obA o) 36)).alloc (.cells #[.int .i64 a, .int .i64 b] 116)) zCore 113
 have hn := (hn0.kept hb1).kept hb2
 have hp := hp0.kept hb2
 have hB := ((Below.refl w.heap.size w).alloc (Nat.le_refl _) (.cells (obA o) 36)).alloc (by simp) (.cells #[.int .i64 a, .int .i64 b] 116) |>.alloc (by simp; omega) (.cells zCore 113)
 rw [World.size_alloc] at hp
 rw [World.size_alloc, World.size_alloc] at hc0
 obtain ⟨n, hn'⟩ : ∃ n, w.heap.size = n := ⟨_, rfl⟩
 rw [hn'] at hn hp hc0 hB ⊢
 clear hn0 hb1 hb2 hp0
 have HN := Lib.hid hn
 have HP := Lib.hid hp
 have HC := Lib.hid hc0
 have HB := Lib.hid hB
 clear hn hp hc0 hB
 unfold obA zCore at HN HP HC HB
 unfold obA
 go_enter Tryz.func120, Tryz.ntmps120
 go_wp2_with fail
 obtain ⟨w1, hw1⟩ : ∃ x, ((w.alloc (.cells #[.int .i64 o.k, .int .i64 o.wd, .int .i64 o.s, .int .i64 o.c, .int .u32 o.st, .slice o.I o.ni o.ci, .int .i64 o.wr, .slice o.R o.nr o.cr] 36)).alloc (.cells #[.int .i64 a, .int .i64 b] 116)).alloc (.cells #[.int .i64 0, .int .i64 0, .int .i64 0, .int .i64 0, .int .u32 0, .slice none 0 0, .int .i64 0, .slice none 0 0, .int .i64 0, .int .i64 0, .int .i64 0, .int .i64 0, .int .i64 0, .int .u32 0, .int .u32 0, .int .u64 0, .slice none 0 0, .pointer none, .int .i64 0, .int .i64 0, .int .i64 0, .int .i64 0, .bool false] 113) = x := ⟨_, rfl⟩
 rw [hw1] at HN HP HC HB ⊢
 clear hw1
 have d1 : w1.drew.cell? ⟨n, 1, none⟩ = some (.int .i64 o.wd) := ((HN.out.kept (Below.refl _ w1).drew).cell 1).trans rfl
 have HN2 := Lib.hid (HN.out.kept (Below.refl _ w1).drew)
 have HC2 := Lib.hid (HC.out.kept (Below.refl _ w1).drew)
 have HB2 := Lib.hid HB.out.drew
 clear HN HC HB HP
 have hSd : (fun w' : World => w'.cell? ⟨n, 1, none⟩ = some (.int .i64 o.wd)) w1.drew := d1
 refine wp_region_held_drew (S := (fun w' : World => w'.cell? ⟨n, 1, none⟩ = some (.int .i64 o.wd))) (by kernel_rfl) hSd (fun hHeld => ?_)
 clear hSd
 generalize w1.drew = wd at hHeld HN2 HC2 HB2 ⊢
 have hHeld : (fun w' : World => w'.cell? ⟨n, 1, none⟩ = some (.int .i64 o.wd)) wd := hHeld
 refine tk4 0 1 2 3 ?_
 refine wpAnyH_done (by kernel_rfl) ?_ _
 have HN := HN2
 have HC := HC2
 have HB := HB2
 clear HN2 HC2 HB2 hHeld
 go_wp2_with (first
  | (refine wpList_build rfl 113 _ rfl (by kernel_rfl) ?_
     refine wpList_store_row rfl 113 (.tmp 14) (.tmp 48) rfl (n + 1 + 1) zCore rfl (by kernel_rfl) 113 _ HC.out (by kernel_rfl) rfl (by simp [zCore, Value.oneCell']) ?_))
 refine bodyPost_ret (res_mb _ _ zCore rfl rfl (RowB.row HC.out) rfl) rfl ?_
 exact ⟨rfl, below_setRow HB.out _ _ (by omega)⟩
theorem mbegin_w4 (w : World) (h1 : 1 ≤ sz) (h2 : 0 ≤ at') (h3 : op = a) (h5 : 0 ≤ rd) (h6 : rd < 1) (h7 : (r.length : Int) ≠ o.wd) : Calls Tryz.prog 120 #[.agg (obA o), .int .i64 sz, .int .i64 at', .int .i64 op, .int .i64 rd, .slice A r.length cap, .agg #[.int .i64 a, .int .i64 b]] w fun e w' => e = .returned (.tuple #[.agg zCore, .int .i64 4]) ∧ Below w.heap.size w w' := by
 have d1 : decide (sz < 1) = false := decide_eq_false (by omega)
 have d2 : decide (at' < 0) = false := decide_eq_false (by omega)
 have d3 : (op == a) = true := by simpa using h3
 have d5 : decide (rd < 0) = false := decide_eq_false (by omega)
 have d6 : decide (1 ≤ rd) = false := decide_eq_false (by omega)
 have d7 : ((r.length : Int) != o.wd) = true := by simpa using h7
 have h3x := Lib.hid h3
 clear h3
 have hn0 := RowB.new w (obA o) 36
 have hb1 := (Below.refl _ (w.alloc (.cells (obA o) 36))).alloc (Nat.le_refl _) (.cells #[.int .i64 a, .int .i64 b] 116)
 have hp0 := RowB.new (w.alloc (.cells (obA o) 36)) #[.int .i64 a, .int .i64 b] 116
 have hb2 := (Below.refl _ ((w.alloc (.cells (obA o) 36)).alloc (.cells #[.int .i64 a, .int .i64 b] 116))).alloc (Nat.le_refl _) (.cells zCore 113)
 have hc0 := RowB.new ((w.alloc (.cells (obA o) 36)).alloc (.cells #[.int .i64 a, .int .i64 b] 116)) zCore 113
 have hn := (hn0.kept hb1).kept hb2
 have hp := hp0.kept hb2
 have hB := ((Below.refl w.heap.size w).alloc (Nat.le_refl _) (.cells (obA o) 36)).alloc (by simp) (.cells #[.int .i64 a, .int .i64 b] 116) |>.alloc (by simp; omega) (.cells zCore 113)
 rw [World.size_alloc] at hp
 rw [World.size_alloc, World.size_alloc] at hc0
 obtain ⟨n, hn'⟩ : ∃ n, w.heap.size = n := ⟨_, rfl⟩
 rw [hn'] at hn hp hc0 hB ⊢
 clear hn0 hb1 hb2 hp0
 have HN := Lib.hid hn
 have HP := Lib.hid hp
 have HC := Lib.hid hc0
 have HB := Lib.hid hB
 clear hn hp hc0 hB
 unfold obA zCore at HN HP HC HB
 unfold obA
 go_enter Tryz.func120, Tryz.ntmps120
 go_wp2_with fail
 obtain ⟨w1, hw1⟩ : ∃ x, ((w.alloc (.cells #[.int .i64 o.k, .int .i64 o.wd, .int .i64 o.s, .int .i64 o.c, .int .u32 o.st, .slice o.I o.ni o.ci, .int .i64 o.wr, .slice o.R o.nr o.cr] 36)).alloc (.cells #[.int .i64 a, .int .i64 b] 116)).alloc (.cells #[.int .i64 0, .int .i64 0, .int .i64 0, .int .i64 0, .int .u32 0, .slice none 0 0, .int .i64 0, .slice none 0 0, .int .i64 0, .int .i64 0, .int .i64 0, .int .i64 0, .int .i64 0, .int .u32 0, .int .u32 0, .int .u64 0, .slice none 0 0, .pointer none, .int .i64 0, .int .i64 0, .int .i64 0, .int .i64 0, .bool false] 113) = x := ⟨_, rfl⟩
 rw [hw1] at HN HP HC HB ⊢
 clear hw1
 have d1 : w1.drew.cell? ⟨n, 1, none⟩ = some (.int .i64 o.wd) := ((HN.out.kept (Below.refl _ w1).drew).cell 1).trans rfl
 have HN2 := Lib.hid (HN.out.kept (Below.refl _ w1).drew)
 have HC2 := Lib.hid (HC.out.kept (Below.refl _ w1).drew)
 have HB2 := Lib.hid HB.out.drew
 clear HN HC HB HP
 have hSd : (fun w' : World => w'.cell? ⟨n, 1, none⟩ = some (.int .i64 o.wd)) w1.drew := d1
 refine wp_region_held_drew (S := (fun w' : World => w'.cell? ⟨n, 1, none⟩ = some (.int .i64 o.wd))) (by kernel_rfl) hSd (fun hHeld => ?_)
 clear hSd
 generalize w1.drew = wd at hHeld HN2 HC2 HB2 ⊢
 have hHeld : (fun w' : World => w'.cell? ⟨n, 1, none⟩ = some (.int .i64 o.wd)) wd := hHeld
 refine tk4 0 1 2 3 ?_
 refine wpAnyH_done (by kernel_rfl) ?_ _
 have HN := HN2
 have HC := HC2
 have HB := HB2
 clear HN2 HC2 HB2 hHeld
 go_wp2_with (first
  | (refine wpList_build rfl 113 _ rfl (by kernel_rfl) ?_
     refine wpList_store_row rfl 113 (.tmp 14) (.tmp 54) rfl (n + 1 + 1) zCore rfl (by kernel_rfl) 113 _ HC.out (by kernel_rfl) rfl (by simp [zCore, Value.oneCell']) ?_))
 refine bodyPost_ret (res_mb _ _ zCore rfl rfl (RowB.row HC.out) rfl) rfl ?_
 exact ⟨rfl, below_setRow HB.out _ _ (by omega)⟩
theorem mbegin_w0 (w : World) (hl : r.length ≤ 1000000) (hr : Ws w w.heap.size A r) (h1 : 1 ≤ sz) (h2 : 0 ≤ at') (h3 : op = a) (h5 : 0 ≤ rd) (h6 : rd < 1) (h7 : (r.length : Int) = o.wd) : Calls Tryz.prog 120 #[.agg (obA o), .int .i64 sz, .int .i64 at', .int .i64 op, .int .i64 rd, .slice A r.length cap, .agg #[.int .i64 a, .int .i64 b]] w fun e w' => ∃ v, e = .returned (.tuple #[.agg (newCore o op rd at' sz v), .int .i64 0]) ∧ OwnW w.heap.size w' v r ∧ Below w.heap.size w w' := by
 have d1 : decide (sz < 1) = false := decide_eq_false (by omega)
 have d2 : decide (at' < 0) = false := decide_eq_false (by omega)
 have d3 : (op == a) = true := by simpa using h3
 have d5 : decide (rd < 0) = false := decide_eq_false (by omega)
 have d6 : decide (1 ≤ rd) = false := decide_eq_false (by omega)
 have d7 : ((r.length : Int) != o.wd) = false := by simpa using h7
 have h7x := Lib.hid h7
 clear h7
 have h3x := Lib.hid h3
 clear h3
 have hn0 := RowB.new w (obA o) 36
 have hb1 := (Below.refl _ (w.alloc (.cells (obA o) 36))).alloc (Nat.le_refl _) (.cells #[.int .i64 a, .int .i64 b] 116)
 have hp0 := RowB.new (w.alloc (.cells (obA o) 36)) #[.int .i64 a, .int .i64 b] 116
 have hb2 := (Below.refl _ ((w.alloc (.cells (obA o) 36)).alloc (.cells #[.int .i64 a, .int .i64 b] 116))).alloc (Nat.le_refl _) (.cells zCore 113)
 have hc0 := RowB.new ((w.alloc (.cells (obA o) 36)).alloc (.cells #[.int .i64 a, .int .i64 b] 116)) zCore 113
 have hn := (hn0.kept hb1).kept hb2
 have hp := hp0.kept hb2
 have hB := ((Below.refl w.heap.size w).alloc (Nat.le_refl _) (.cells (obA o) 36)).alloc (by simp) (.cells #[.int .i64 a, .int .i64 b] 116) |>.alloc (by simp; omega) (.cells zCore 113)
 rw [World.size_alloc] at hp
 rw [World.size_alloc, World.size_alloc] at hc0
 obtain ⟨n, hn'⟩ : ∃ n, w.heap.size = n := ⟨_, rfl⟩
 have HR := Lib.hid (hr.below hB (by have := hB.size; omega))
 have HL := Lib.hid hl
 clear hr hl
 rw [hn'] at hn hp hc0 hB ⊢
 clear hn0 hb1 hb2 hp0
 have HN := Lib.hid hn
 have HP := Lib.hid hp
 have HC := Lib.hid hc0
 have HB := Lib.hid hB
 clear hn hp hc0 hB
 unfold obA zCore at HN HP HC HB HR
 unfold obA
 go_enter Tryz.func120, Tryz.ntmps120
 go_wp2_with fail
 obtain ⟨w1, hw1⟩ : ∃ x, ((w.alloc (.cells #[.int .i64 o.k, .int .i64 o.wd, .int .i64 o.s, .int .i64 o.c, .int .u32 o.st, .slice o.I o.ni o.ci, .int .i64 o.wr, .slice o.R o.nr o.cr] 36)).alloc (.cells #[.int .i64 a, .int .i64 b] 116)).alloc (.cells #[.int .i64 0, .int .i64 0, .int .i64 0, .int .i64 0, .int .u32 0, .slice none 0 0, .int .i64 0, .slice none 0 0, .int .i64 0, .int .i64 0, .int .i64 0, .int .i64 0, .int .i64 0, .int .u32 0, .int .u32 0, .int .u64 0, .slice none 0 0, .pointer none, .int .i64 0, .int .i64 0, .int .i64 0, .int .i64 0, .bool false] 113) = x := ⟨_, rfl⟩
 rw [hw1] at HN HP HC HB HR ⊢
 clear hw1
 have d1 : w1.drew.cell? ⟨n, 1, none⟩ = some (.int .i64 o.wd) := ((HN.out.kept (Below.refl _ w1).drew).cell 1).trans rfl
 have HN2 := Lib.hid (HN.out.kept (Below.refl _ w1).drew)
 have HC2 := Lib.hid (HC.out.kept (Below.refl _ w1).drew)
 have HB2 := Lib.hid HB.out.drew
 have HR2 := Lib.hid (show Ws w1.drew w1.drew.heap.size A r from HR.out.below (Below.refl _ w1).drew (Nat.le_refl _))
 clear HN HC HB HP HR
 have hSd : (fun w' : World => w'.cell? ⟨n, 1, none⟩ = some (.int .i64 o.wd)) w1.drew := d1
 refine wp_region_held_drew (S := (fun w' : World => w'.cell? ⟨n, 1, none⟩ = some (.int .i64 o.wd))) (by kernel_rfl) hSd (fun hHeld => ?_)
 clear hSd
 generalize w1.drew = wd at hHeld HN2 HC2 HB2 HR2 ⊢
 have hHeld : (fun w' : World => w'.cell? ⟨n, 1, none⟩ = some (.int .i64 o.wd)) wd := hHeld
 refine tk4 0 1 2 3 ?_
 refine wpAnyH_done (by kernel_rfl) ?_ _
 have HN := HN2
 have HC := HC2
 have HB := HB2
 have HR := HR2
 clear HN2 HC2 HB2 HR2 hHeld
 go_wp2_with fail
 have hlo := HN.out.lt
 have hlc := HC.out.lt
 have HN3 := Lib.hid (HN.out.kept (Below.refl _ wd).drew)
 have HC3 := Lib.hid (HC.out.kept (Below.refl _ wd).drew)
 have HB3 := Lib.hid HB.out.drew
 have HR3 := Lib.hid (show Ws wd.drew wd.drew.heap.size A r from HR.out.below (Below.refl _ wd).drew (Nat.le_refl _))
 clear HN HC HB HR
 have hSd : (QOgQ0 n o) wd.drew := (by and_intros <;> exact HN3.out.c rfl)
 refine wp_region_held_drew (S := (QOgQ0 n o)) (by kernel_rfl) hSd (fun hHeld => ?_)
 clear hSd
 generalize wd.drew = we at hHeld HN3 HC3 HB3 HR3 ⊢
 have hHeld : (QOgQ0 n o) we := hHeld
 refine tk4 0 1 2 3 ?_
 refine tk2 5 6 ?_
 refine clH 4 (fun K hK => ?_)
 go_simp
 go_at_call 154
 refine (clone_w A cap r _ HL.out HR3.out).mono ?_
 rintro ex wx ⟨v, rfl, hv, hbx⟩
 obtain ⟨A9, M9, c9, rfl⟩ := own_slice hv.1
 have HV := Lib.hid hv
 have HN4 := Lib.hid (HN3.out.kept hbx)
 have HC4 := Lib.hid (HC3.out.kept hbx)
 have HB4 := Lib.hid (HB3.out.trans (hbx.mono (by have := HB3.out.size; omega)))
 have HB5 := Lib.hid HB3.out.size
 have hSx : (QOgQ0 n o) wx := (by and_intros <;> exact HN4.out.c rfl)
 clear hv hbx
 refine kH hK hSx fun hHeld => ?_
 clear hK K
 refine tkH 7 ?_
 refine rdH [8] ?_
 refine cnH (fun K hK => ?_) AllReadyH.nil
 refine step_store_row rfl 113 (.tmp 14) (.tmp 62) rfl (n + 1 + 1) (newCore o op rd at' sz (.slice A9 M9 c9)) rfl rfl 113 _ HC4.out (by kernel_rfl) rfl (by simp [newCore, Value.oneCell']) ?_
 have hrr : RowB (wx.setRow (n + 1 + 1) (newCore o op rd at' sz (.slice A9 M9 c9))) (n + 1 + 1) (newCore o op rd at' sz (.slice A9 M9 c9)) 113 := HC4.out.row
 have hnn := HN4.out.far (g := n + 1 + 1) (cells := newCore o op rd at' sz (.slice A9 M9 c9)) (by omega)
 have hBr := below_setRow HB4.out (n + 1 + 1) (newCore o op rd at' sz (.slice A9 M9 c9)) (by omega)
 have hSx : (QOgQ0 n o) (wx.setRow (n + 1 + 1) (newCore o op rd at' sz (.slice A9 M9 c9))) := (by and_intros <;> exact hnn.c rfl)
 refine hK.out _ _ hSx (fun hHeld => ?_)
 clear hK K
 try simp only [Act.put]
 refine tkH 9 ?_
 refine wpAnyH_done (by kernel_rfl) ?_ _
 go_wp2_with fail
 refine bodyPost_ret (res_mb _ _ _ rfl rfl hrr rfl) rfl ?_
 refine ⟨.slice A9 M9 c9, rfl, ?_, hBr⟩
 have ho := HV.out
 refine ⟨?_, ho.2⟩
 refine own_tch (T := fun b => b = n + 1 + 1) (ho.1.mono (by have := HB3.out.size; omega)) ((Tch.refl (fun b => b = n + 1 + 1) wx).row (b := n + 1 + 1) rfl _) (fun b hb e => ?_)
 have := World.ownsRow.lt ho.1 b hb
 have := HC3.out.lt
 omega
theorem mbegin_r5 (w : World) (h1 : 1 ≤ sz) (h2 : 0 ≤ at') (h3 : op ≠ a) (h4 : op = b) (h5 : rd < 0) : Calls Tryz.prog 120 #[.agg (obA o), .int .i64 sz, .int .i64 at', .int .i64 op, .int .i64 rd, .slice A r.length cap, .agg #[.int .i64 a, .int .i64 b]] w fun e w' => e = .returned (.tuple #[.agg zCore, .int .i64 5]) ∧ Below w.heap.size w w' := by
 have d1 : decide (sz < 1) = false := decide_eq_false (by omega)
 have d2 : decide (at' < 0) = false := decide_eq_false (by omega)
 have d3 : (op == a) = false := by simpa using h3
 have d4 : (op == b) = true := by simpa using h4
 have d5 : decide (rd < 0) = true := decide_eq_true h5
 have h3x := Lib.hid h3
 clear h3
 have h4x := Lib.hid h4
 clear h4
 have hn0 := RowB.new w (obA o) 36
 have hb1 := (Below.refl _ (w.alloc (.cells (obA o) 36))).alloc (Nat.le_refl _) (.cells #[.int .i64 a, .int .i64 b] 116)
 have hp0 := RowB.new (w.alloc (.cells (obA o) 36)) #[.int .i64 a, .int .i64 b] 116
 have hb2 := (Below.refl _ ((w.alloc (.cells (obA o) 36)).alloc (.cells #[.int .i64 a, .int .i64 b] 116))).alloc (Nat.le_refl _) (.cells zCore 113)
 have hc0 := RowB.new ((w.alloc (.cells (obA o) 36)).alloc (.cells #[.int .i64 a, .int .i64 b] 116)) zCore 113
 have hn := (hn0.kept hb1).kept hb2
 have hp := hp0.kept hb2
 have hB := ((Below.refl w.heap.size w).alloc (Nat.le_refl _) (.cells (obA o) 36)).alloc (by simp) (.cells #[.int .i64 a, .int .i64 b] 116) |>.alloc (by simp; omega) (.cells zCore 113)
 rw [World.size_alloc] at hp
 rw [World.size_alloc, World.size_alloc] at hc0
 obtain ⟨n, hn'⟩ : ∃ n, w.heap.size = n := ⟨_, rfl⟩
 rw [hn'] at hn hp hc0 hB ⊢
 clear hn0 hb1 hb2 hp0
 have HN := Lib.hid hn
 have HP := Lib.hid hp
 have HC := Lib.hid hc0
 have HB := Lib.hid hB
 clear hn hp hc0 hB
 unfold obA zCore at HN HP HC HB
 unfold obA
 go_enter Tryz.func120, Tryz.ntmps120
 go_wp2_with (first
  | (refine wpList_build rfl 113 _ rfl (by kernel_rfl) ?_
     refine wpList_store_row rfl 113 (.tmp 14) (.tmp 48) rfl (n + 1 + 1) zCore rfl (by kernel_rfl) 113 _ HC.out (by kernel_rfl) rfl (by simp [zCore, Value.oneCell']) ?_))
 refine bodyPost_ret (res_mb _ _ zCore rfl rfl (RowB.row HC.out) rfl) rfl ?_
 exact ⟨rfl, below_setRow HB.out _ _ (by omega)⟩
theorem mbegin_r5b (w : World) (h1 : 1 ≤ sz) (h2 : 0 ≤ at') (h3 : op ≠ a) (h4 : op = b) (h5 : 0 ≤ rd) (h6 : (o.nr : Int) ≤ rd) : Calls Tryz.prog 120 #[.agg (obA o), .int .i64 sz, .int .i64 at', .int .i64 op, .int .i64 rd, .slice A r.length cap, .agg #[.int .i64 a, .int .i64 b]] w fun e w' => e = .returned (.tuple #[.agg zCore, .int .i64 5]) ∧ Below w.heap.size w w' := by
 have d1 : decide (sz < 1) = false := decide_eq_false (by omega)
 have d2 : decide (at' < 0) = false := decide_eq_false (by omega)
 have d3 : (op == a) = false := by simpa using h3
 have d4 : (op == b) = true := by simpa using h4
 have d5 : decide (rd < 0) = false := decide_eq_false (by omega)
 have d6 : decide ((o.nr : Int) ≤ rd) = true := decide_eq_true h6
 have h3x := Lib.hid h3
 clear h3
 have h4x := Lib.hid h4
 clear h4
 have hn0 := RowB.new w (obA o) 36
 have hb1 := (Below.refl _ (w.alloc (.cells (obA o) 36))).alloc (Nat.le_refl _) (.cells #[.int .i64 a, .int .i64 b] 116)
 have hp0 := RowB.new (w.alloc (.cells (obA o) 36)) #[.int .i64 a, .int .i64 b] 116
 have hb2 := (Below.refl _ ((w.alloc (.cells (obA o) 36)).alloc (.cells #[.int .i64 a, .int .i64 b] 116))).alloc (Nat.le_refl _) (.cells zCore 113)
 have hc0 := RowB.new ((w.alloc (.cells (obA o) 36)).alloc (.cells #[.int .i64 a, .int .i64 b] 116)) zCore 113
 have hn := (hn0.kept hb1).kept hb2
 have hp := hp0.kept hb2
 have hB := ((Below.refl w.heap.size w).alloc (Nat.le_refl _) (.cells (obA o) 36)).alloc (by simp) (.cells #[.int .i64 a, .int .i64 b] 116) |>.alloc (by simp; omega) (.cells zCore 113)
 rw [World.size_alloc] at hp
 rw [World.size_alloc, World.size_alloc] at hc0
 obtain ⟨n, hn'⟩ : ∃ n, w.heap.size = n := ⟨_, rfl⟩
 rw [hn'] at hn hp hc0 hB ⊢
 clear hn0 hb1 hb2 hp0
 have HN := Lib.hid hn
 have HP := Lib.hid hp
 have HC := Lib.hid hc0
 have HB := Lib.hid hB
 clear hn hp hc0 hB
 unfold obA zCore at HN HP HC HB
 unfold obA
 go_enter Tryz.func120, Tryz.ntmps120
 go_wp2_with (first
  | (refine wpList_build rfl 113 _ rfl (by kernel_rfl) ?_
     refine wpList_store_row rfl 113 (.tmp 14) (.tmp 48) rfl (n + 1 + 1) zCore rfl (by kernel_rfl) 113 _ HC.out (by kernel_rfl) rfl (by simp [zCore, Value.oneCell']) ?_))
 refine bodyPost_ret (res_mb _ _ zCore rfl rfl (RowB.row HC.out) rfl) rfl ?_
 exact ⟨rfl, below_setRow HB.out _ _ (by omega)⟩
theorem mbegin_r4 (w : World) (h1 : 1 ≤ sz) (h2 : 0 ≤ at') (h3 : op ≠ a) (h4 : op = b) (h5 : 0 ≤ rd) (h6 : rd < (o.nr : Int)) (h7 : (r.length : Int) ≠ 0) : Calls Tryz.prog 120 #[.agg (obA o), .int .i64 sz, .int .i64 at', .int .i64 op, .int .i64 rd, .slice A r.length cap, .agg #[.int .i64 a, .int .i64 b]] w fun e w' => e = .returned (.tuple #[.agg zCore, .int .i64 4]) ∧ Below w.heap.size w w' := by
 have d1 : decide (sz < 1) = false := decide_eq_false (by omega)
 have d2 : decide (at' < 0) = false := decide_eq_false (by omega)
 have d3 : (op == a) = false := by simpa using h3
 have d4 : (op == b) = true := by simpa using h4
 have d5 : decide (rd < 0) = false := decide_eq_false (by omega)
 have d6 : decide ((o.nr : Int) ≤ rd) = false := decide_eq_false (by omega)
 have d7 : ((r.length : Int) != 0) = true := by simpa using h7
 have h3x := Lib.hid h3
 clear h3
 have h4x := Lib.hid h4
 clear h4
 have hn0 := RowB.new w (obA o) 36
 have hb1 := (Below.refl _ (w.alloc (.cells (obA o) 36))).alloc (Nat.le_refl _) (.cells #[.int .i64 a, .int .i64 b] 116)
 have hp0 := RowB.new (w.alloc (.cells (obA o) 36)) #[.int .i64 a, .int .i64 b] 116
 have hb2 := (Below.refl _ ((w.alloc (.cells (obA o) 36)).alloc (.cells #[.int .i64 a, .int .i64 b] 116))).alloc (Nat.le_refl _) (.cells zCore 113)
 have hc0 := RowB.new ((w.alloc (.cells (obA o) 36)).alloc (.cells #[.int .i64 a, .int .i64 b] 116)) zCore 113
 have hn := (hn0.kept hb1).kept hb2
 have hp := hp0.kept hb2
 have hB := ((Below.refl w.heap.size w).alloc (Nat.le_refl _) (.cells (obA o) 36)).alloc (by simp) (.cells #[.int .i64 a, .int .i64 b] 116) |>.alloc (by simp; omega) (.cells zCore 113)
 rw [World.size_alloc] at hp
 rw [World.size_alloc, World.size_alloc] at hc0
 obtain ⟨n, hn'⟩ : ∃ n, w.heap.size = n := ⟨_, rfl⟩
 rw [hn'] at hn hp hc0 hB ⊢
 clear hn0 hb1 hb2 hp0
 have HN := Lib.hid hn
 have HP := Lib.hid hp
 have HC := Lib.hid hc0
 have HB := Lib.hid hB
 clear hn hp hc0 hB
 unfold obA zCore at HN HP HC HB
 unfold obA
 go_enter Tryz.func120, Tryz.ntmps120
 go_wp2_with (first
  | (refine wpList_build rfl 113 _ rfl (by kernel_rfl) ?_
     refine wpList_store_row rfl 113 (.tmp 14) (.tmp 54) rfl (n + 1 + 1) zCore rfl (by kernel_rfl) 113 _ HC.out (by kernel_rfl) rfl (by simp [zCore, Value.oneCell']) ?_))
 refine bodyPost_ret (res_mb _ _ zCore rfl rfl (RowB.row HC.out) rfl) rfl ?_
 exact ⟨rfl, below_setRow HB.out _ _ (by omega)⟩
theorem mbegin_r0 (w : World) (hl : r.length ≤ 1000000) (hr : Ws w w.heap.size A r) (h1 : 1 ≤ sz) (h2 : 0 ≤ at') (h3 : op ≠ a) (h4 : op = b) (h5 : 0 ≤ rd) (h6 : rd < (o.nr : Int)) (h7 : (r.length : Int) = 0) : Calls Tryz.prog 120 #[.agg (obA o), .int .i64 sz, .int .i64 at', .int .i64 op, .int .i64 rd, .slice A r.length cap, .agg #[.int .i64 a, .int .i64 b]] w fun e w' => ∃ v, e = .returned (.tuple #[.agg (newCore o op rd at' sz v), .int .i64 0]) ∧ OwnW w.heap.size w' v r ∧ Below w.heap.size w w' := by
 have d1 : decide (sz < 1) = false := decide_eq_false (by omega)
 have d2 : decide (at' < 0) = false := decide_eq_false (by omega)
 have d3 : (op == a) = false := by simpa using h3
 have d4 : (op == b) = true := by simpa using h4
 have d5 : decide (rd < 0) = false := decide_eq_false (by omega)
 have d6 : decide ((o.nr : Int) ≤ rd) = false := decide_eq_false (by omega)
 have d7 : ((r.length : Int) != 0) = false := by simpa using h7
 have h7x := Lib.hid h7
 clear h7
 have h3x := Lib.hid h3
 clear h3
 have h4x := Lib.hid h4
 clear h4
 have hn0 := RowB.new w (obA o) 36
 have hb1 := (Below.refl _ (w.alloc (.cells (obA o) 36))).alloc (Nat.le_refl _) (.cells #[.int .i64 a, .int .i64 b] 116)
 have hp0 := RowB.new (w.alloc (.cells (obA o) 36)) #[.int .i64 a, .int .i64 b] 116
 have hb2 := (Below.refl _ ((w.alloc (.cells (obA o) 36)).alloc (.cells #[.int .i64 a, .int .i64 b] 116))).alloc (Nat.le_refl _) (.cells zCore 113)
 have hc0 := RowB.new ((w.alloc (.cells (obA o) 36)).alloc (.cells #[.int .i64 a, .int .i64 b] 116)) zCore 113
 have hn := (hn0.kept hb1).kept hb2
 have hp := hp0.kept hb2
 have hB := ((Below.refl w.heap.size w).alloc (Nat.le_refl _) (.cells (obA o) 36)).alloc (by simp) (.cells #[.int .i64 a, .int .i64 b] 116) |>.alloc (by simp; omega) (.cells zCore 113)
 rw [World.size_alloc] at hp
 rw [World.size_alloc, World.size_alloc] at hc0
 obtain ⟨n, hn'⟩ : ∃ n, w.heap.size = n := ⟨_, rfl⟩
 have HR := Lib.hid (hr.below hB (by have := hB.size; omega))
 have HL := Lib.hid hl
 clear hr hl
 rw [hn'] at hn hp hc0 hB ⊢
 clear hn0 hb1 hb2 hp0
 have HN := Lib.hid hn
 have HP := Lib.hid hp
 have HC := Lib.hid hc0
 have HB := Lib.hid hB
 clear hn hp hc0 hB
 unfold obA zCore at HN HP HC HB HR
 unfold obA
 go_enter Tryz.func120, Tryz.ntmps120
 go_wp2_with fail
 obtain ⟨w1, hw1⟩ : ∃ x, ((w.alloc (.cells #[.int .i64 o.k, .int .i64 o.wd, .int .i64 o.s, .int .i64 o.c, .int .u32 o.st, .slice o.I o.ni o.ci, .int .i64 o.wr, .slice o.R o.nr o.cr] 36)).alloc (.cells #[.int .i64 a, .int .i64 b] 116)).alloc (.cells #[.int .i64 0, .int .i64 0, .int .i64 0, .int .i64 0, .int .u32 0, .slice none 0 0, .int .i64 0, .slice none 0 0, .int .i64 0, .int .i64 0, .int .i64 0, .int .i64 0, .int .i64 0, .int .u32 0, .int .u32 0, .int .u64 0, .slice none 0 0, .pointer none, .int .i64 0, .int .i64 0, .int .i64 0, .int .i64 0, .bool false] 113) = x := ⟨_, rfl⟩
 rw [hw1] at HN HP HC HB HR ⊢
 clear hw1
 have hlo := HN.out.lt
 have hlc := HC.out.lt
 have HN3 := Lib.hid (HN.out.kept (Below.refl _ w1).drew)
 have HC3 := Lib.hid (HC.out.kept (Below.refl _ w1).drew)
 have HB3 := Lib.hid HB.out.drew
 have HR3 := Lib.hid (show Ws w1.drew w1.drew.heap.size A r from HR.out.below (Below.refl _ w1).drew (Nat.le_refl _))
 clear HN HC HB HR
 have hSd : (QOgQ0 n o) w1.drew := (by and_intros <;> exact HN3.out.c rfl)
 refine wp_region_held_drew (S := (QOgQ0 n o)) (by kernel_rfl) hSd (fun hHeld => ?_)
 clear hSd
 generalize w1.drew = we at hHeld HN3 HC3 HB3 HR3 ⊢
 have hHeld : (QOgQ0 n o) we := hHeld
 refine tk4 0 1 2 3 ?_
 refine tk2 5 6 ?_
 refine clH 4 (fun K hK => ?_)
 go_simp
 go_at_call 154
 refine (clone_w A cap r _ HL.out HR3.out).mono ?_
 rintro ex wx ⟨v, rfl, hv, hbx⟩
 obtain ⟨A9, M9, c9, rfl⟩ := own_slice hv.1
 have HV := Lib.hid hv
 have HN4 := Lib.hid (HN3.out.kept hbx)
 have HC4 := Lib.hid (HC3.out.kept hbx)
 have HB4 := Lib.hid (HB3.out.trans (hbx.mono (by have := HB3.out.size; omega)))
 have HB5 := Lib.hid HB3.out.size
 have hSx : (QOgQ0 n o) wx := (by and_intros <;> exact HN4.out.c rfl)
 clear hv hbx
 refine kH hK hSx fun hHeld => ?_
 clear hK K
 refine tkH 7 ?_
 refine rdH [8] ?_
 refine cnH (fun K hK => ?_) AllReadyH.nil
 refine step_store_row rfl 113 (.tmp 14) (.tmp 62) rfl (n + 1 + 1) (newCore o op rd at' sz (.slice A9 M9 c9)) rfl rfl 113 _ HC4.out (by kernel_rfl) rfl (by simp [newCore, Value.oneCell']) ?_
 have hrr : RowB (wx.setRow (n + 1 + 1) (newCore o op rd at' sz (.slice A9 M9 c9))) (n + 1 + 1) (newCore o op rd at' sz (.slice A9 M9 c9)) 113 := HC4.out.row
 have hnn := HN4.out.far (g := n + 1 + 1) (cells := newCore o op rd at' sz (.slice A9 M9 c9)) (by omega)
 have hBr := below_setRow HB4.out (n + 1 + 1) (newCore o op rd at' sz (.slice A9 M9 c9)) (by omega)
 have hSx : (QOgQ0 n o) (wx.setRow (n + 1 + 1) (newCore o op rd at' sz (.slice A9 M9 c9))) := (by and_intros <;> exact hnn.c rfl)
 refine hK.out _ _ hSx (fun hHeld => ?_)
 clear hK K
 try simp only [Act.put]
 refine tkH 9 ?_
 refine wpAnyH_done (by kernel_rfl) ?_ _
 go_wp2_with fail
 refine bodyPost_ret (res_mb _ _ _ rfl rfl hrr rfl) rfl ?_
 refine ⟨.slice A9 M9 c9, rfl, ?_, hBr⟩
 have ho := HV.out
 refine ⟨?_, ho.2⟩
 refine own_tch (T := fun b => b = n + 1 + 1) (ho.1.mono (by have := HB3.out.size; omega)) ((Tch.refl (fun b => b = n + 1 + 1) wx).row (b := n + 1 + 1) rfl _) (fun b hb e => ?_)
 have := World.ownsRow.lt ho.1 b hb
 have := HC3.out.lt
 omega
end
end Go.Proofs.YtgjcniokgdicpaaGreatDoor
