/- Layer 20, the chapter's example: how it begins. -/
import Derived.Test.YtgjcniokgdicpaaGreatDoorObA
namespace Go.Proofs.YtgjcniokgdicpaaGreatDoor
open Go.RowKit
attribute [local go_sem] Oper.semAt_some

theorem step_store_row {P : Program} {w : World} {ops : Array Oper} {o : Oper} {a : Act} {K : Act → World → Prop} {Q : Exit → Act → World → Prop} {E : Prop} (hgd : o.guard = none) (ty : TypeId) (x y : Operand) (ho : o.op = .store ty x y)
    (g : Nat) (cells : Array Value) (hx : a.eval x = .pointer (some ⟨g, 0, none⟩)) (hy : a.eval y = .agg cells)
    (t : TypeId) (old : Array Value) (hg : w.heap[g]? = some (.cells old t (0, 0))) (hi : (P.info? ty).map (·.size) = some cells.size)
    (hold : old.size = cells.size) (h1 : cells.all (·.oneCell') = true)
    (h : K (a.put o.dst undef) (w.setRow g cells)) : if Region.wanted o (yielded ops a.tmps) = true then Oper.wp P o a w K Q else E := by
  have hw : Region.wanted o (yielded ops a.tmps) = true := by simp [Region.wanted, hgd]
  rw [if_pos hw]
  exact wp_store_row ty x y ho g cells hx hy t old hg hi hold h1 h
theorem below_setRow {N : Nat} {W W' : World} (h : Below N W W') (g : Nat) (cs : Array Value) (hg : N ≤ g) : Below N W (W'.setRow g cs) :=
  ⟨h.1, h.2, h.3, by rw [setRow_size]; exact h.size, fun i hi => (setRow_other _ _ _ _ (by omega)).trans (h.block i hi)⟩
/-- A row in a block. -/
def RowB (w : World) (n : Nat) (arr : Array Value) (t : TypeId) : Prop := w.heap[n]? = some (.cells arr t (0, 0))
theorem RowB.lt {w : World} {n : Nat} {arr : Array Value} {t : TypeId} (h : RowB w n arr t) : n < w.heap.size := (Array.getElem?_eq_some_iff.1 h).1
theorem RowB.new (w : World) (arr : Array Value) (t : TypeId) : RowB (w.alloc (.cells arr t)) w.heap.size arr t := heap_alloc_new w _
theorem RowB.kept {w w' : World} {n : Nat} {arr : Array Value} {t : TypeId} (h : RowB w n arr t) (hb : Below w.heap.size w w') : RowB w' n arr t := (hb.block n h.lt).trans h
theorem RowB.below {w w' : World} {n N : Nat} {arr : Array Value} {t : TypeId} (h : RowB w n arr t) (hb : Below N w w') (hn : n < N) : RowB w' n arr t := (hb.block n hn).trans h
theorem RowB.row {w : World} {n : Nat} {arr cells : Array Value} {t : TypeId} (h : RowB w n arr t) : RowB (w.setRow n cells) n cells t := setRow_heap w n arr cells t _ h
theorem RowB.far {w : World} {n g : Nat} {arr cells : Array Value} {t : TypeId} (h : RowB w n arr t) (hn : n ≠ g) : RowB (w.setRow g cells) n arr t := (setRow_other _ _ _ _ hn).trans h
theorem RowB.cell {w : World} {n : Nat} {arr : Array Value} {t : TypeId} (h : RowB w n arr t) (j : Nat) : w.cell? ⟨n, j, none⟩ = arr[j]? := by simp [World.cell?, show w.heap[n]? = _ from h]
theorem RowB.frozen {w : World} {n : Nat} {arr : Array Value} {t : TypeId} (h : RowB w n arr t) (j : Nat) : w.frozen? ⟨n, j, none⟩ = false := by simp [World.frozen?, show w.heap[n]? = _ from h]
theorem RowB.set {w : World} {n : Nat} {arr : Array Value} {t : TypeId} (h : RowB w n arr t) (j : Nat) (v : Value) : RowB (w.setCell ⟨n, j, none⟩ v) n (arr.setIfInBounds j v) t := by
  unfold RowB
  rw [setCell_eq_setRow w n j _ _ _ _ h]
  exact setRow_heap _ n _ _ _ _ h
theorem heap_set (W : World) (b j : Nat) (v : Value) (n : Nat) (h : n ≠ b) : (W.setCell ⟨b, j, none⟩ v).heap[n]? = W.heap[n]? := by
  show (W.heap.modify b _)[n]? = _
  rw [Array.getElem?_modify, if_neg (fun e => h e.symm)]
theorem size_set (W : World) (b j : Nat) (v : Value) : (W.setCell ⟨b, j, none⟩ v).heap.size = W.heap.size := by
  show (W.heap.modify b _).size = _
  rw [Array.size_modify]
theorem RowB.other {w : World} {n : Nat} {arr : Array Value} {t : TypeId} (h : RowB w n arr t) (b j : Nat) (v : Value) (hn : n ≠ b) : RowB (w.setCell ⟨b, j, none⟩ v) n arr t := (heap_set w b j v n hn).trans h
theorem below_set1 {N : Nat} {W W' : World} (h : Below N W W') (B j : Nat) (hB : N ≤ B) (v : Value) : Below N W (W'.setCell ⟨B, j, none⟩ v) := h.setCell (p := ⟨B, j, none⟩) hB v
theorem core_cells {I R : Option Addr} {ph a st : Int} {mp : Value} {w : World} {n : Nat} {t : TypeId} (h : RowB w n (coreA I R ph a mp st) t) : w.cell? ⟨n, 0, none⟩ = some (.int .i64 3) ∧ w.cell? ⟨n, 1, none⟩ = some (.int .i64 1) ∧ w.cell? ⟨n, 2, none⟩ = some (.int .i64 0) ∧ w.cell? ⟨n, 3, none⟩ = some (.int .i64 1) ∧ w.cell? ⟨n, 4, none⟩ = some (.int .u32 0) ∧ w.cell? ⟨n, 5, none⟩ = some (.slice I 1 1) ∧ w.cell? ⟨n, 6, none⟩ = some (.int .i64 0) ∧ w.cell? ⟨n, 7, none⟩ = some (.slice R 1 1) ∧ w.cell? ⟨n, 8, none⟩ = some (.int .i64 1) ∧ w.cell? ⟨n, 9, none⟩ = some (.int .i64 0) ∧ w.cell? ⟨n, 10, none⟩ = some (.int .i64 ph) ∧ w.cell? ⟨n, 11, none⟩ = some (.int .i64 0) ∧ w.cell? ⟨n, 12, none⟩ = some (.int .i64 0) ∧ w.cell? ⟨n, 13, none⟩ = some (.int .u32 a) ∧ w.cell? ⟨n, 14, none⟩ = some (.int .u32 0) ∧ w.cell? ⟨n, 15, none⟩ = some (.int .u64 0) ∧ w.cell? ⟨n, 16, none⟩ = some (.slice none 0 0) ∧ w.cell? ⟨n, 17, none⟩ = some (mp) ∧ w.cell? ⟨n, 18, none⟩ = some (.int .i64 0) ∧ w.cell? ⟨n, 19, none⟩ = some (.int .i64 2) ∧ w.cell? ⟨n, 20, none⟩ = some (.int .i64 0) ∧ w.cell? ⟨n, 21, none⟩ = some (.int .i64 st) ∧ w.cell? ⟨n, 22, none⟩ = some (.bool false) :=
  ⟨(h.cell 0).trans rfl, (h.cell 1).trans rfl, (h.cell 2).trans rfl, (h.cell 3).trans rfl, (h.cell 4).trans rfl, (h.cell 5).trans rfl, (h.cell 6).trans rfl, (h.cell 7).trans rfl, (h.cell 8).trans rfl, (h.cell 9).trans rfl, (h.cell 10).trans rfl, (h.cell 11).trans rfl, (h.cell 12).trans rfl, (h.cell 13).trans rfl, (h.cell 14).trans rfl, (h.cell 15).trans rfl, (h.cell 16).trans rfl, (h.cell 17).trans rfl, (h.cell 18).trans rfl, (h.cell 19).trans rfl, (h.cell 20).trans rfl, (h.cell 21).trans rfl, (h.cell 22).trans rfl⟩
theorem res_mbegin (tmps : Array Value) (w : World) (arr : Array Value) {b : Nat} {z : Int} (ha : tmps.getD 14 undef = .pointer (some ⟨b, 0, none⟩)) (hz : tmps.getD 15 undef = .int .i64 z) (hg : RowB w b arr 113) (hs : arr.size = 23) :
    (results Tryz.f120 tmps).run Tryz.prog w = .ok (.tuple #[.agg arr, .int .i64 z]) w := by
  have h : Tryz.f120.results = #[.cell 14 113, .tmp 15] := rfl
  have h2 := run_loadVar_row (P := Tryz.prog) w b 113 113 arr (0, 0) _ hg Tryz.underlying113 rfl (by rw [hs]; kernel_rfl)
  unfold results
  rw [h]
  simp only [List.mapM_toArray, List.mapM_cons, List.mapM_nil, ha, hz, asAddr, bind_pure_comp]
  simp [h2]

section
variable (I R : Option Addr)
set_option maxRecDepth 100000 in
set_option maxHeartbeats 4000000 in
theorem mbegin_c (w : World) : Calls Tryz.prog 120 #[.agg (oS I R), .int .i64 2, .int .i64 0, .int .i64 1, .int .i64 0, .slice none 0 0, .agg #[.int .i64 2, .int .i64 1]] w fun e w' => e = .returned (.tuple #[.agg (coreA I R 0 0 (.pointer none) 0), .int .i64 0]) ∧ Below w.heap.size w w' := by
  have hn0 := (RowB.new w (oS I R) 36)
  have hb1 := (Below.refl _ (w.alloc (.cells (oS I R) 36))).alloc (Nat.le_refl _) (.cells #[.int .i64 2, .int .i64 1] 116)
  have hb2 := (Below.refl _ ((w.alloc (.cells (oS I R) 36)).alloc (.cells #[.int .i64 2, .int .i64 1] 116))).alloc (Nat.le_refl _) (.cells #[.int .i64 0, .int .i64 0, .int .i64 0, .int .i64 0, .int .u32 0, .slice none 0 0, .int .i64 0, .slice none 0 0, .int .i64 0, .int .i64 0, .int .i64 0, .int .i64 0, .int .i64 0, .int .u32 0, .int .u32 0, .int .u64 0, .slice none 0 0, .pointer none, .int .i64 0, .int .i64 0, .int .i64 0, .int .i64 0, .bool false] 113)
  have hn2 := (RowB.new ((w.alloc (.cells (oS I R) 36)).alloc (.cells #[.int .i64 2, .int .i64 1] 116)) #[.int .i64 0, .int .i64 0, .int .i64 0, .int .i64 0, .int .u32 0, .slice none 0 0, .int .i64 0, .slice none 0 0, .int .i64 0, .int .i64 0, .int .i64 0, .int .i64 0, .int .i64 0, .int .u32 0, .int .u32 0, .int .u64 0, .slice none 0 0, .pointer none, .int .i64 0, .int .i64 0, .int .i64 0, .int .i64 0, .bool false] 113)
  have hn := (hn0.kept hb1).kept hb2
  have hB := ((Below.refl w.heap.size w).alloc (Nat.le_refl _) (.cells (oS I R) 36)).alloc (by simp) (.cells #[.int .i64 2, .int .i64 1] 116) |>.alloc (by simp; omega) (.cells #[.int .i64 0, .int .i64 0, .int .i64 0, .int .i64 0, .int .u32 0, .slice none 0 0, .int .i64 0, .slice none 0 0, .int .i64 0, .int .i64 0, .int .i64 0, .int .i64 0, .int .i64 0, .int .u32 0, .int .u32 0, .int .u64 0, .slice none 0 0, .pointer none, .int .i64 0, .int .i64 0, .int .i64 0, .int .i64 0, .bool false] 113)
  rw [World.size_alloc, World.size_alloc] at hn2
  obtain ⟨n, hn'⟩ : ∃ n, w.heap.size = n := ⟨_, rfl⟩
  rw [hn'] at hn hn2
  clear hn0 hb1 hb2
  unfold oS at hn hn2 hB
  have HN := Lib.hid hn
  have HN2 := Lib.hid hn2
  have HB := Lib.hid hB
  clear hn hn2 hB
  unfold oS
  go_enter Tryz.func120, Tryz.ntmps120
  go_wp2_with fail
  try rw [hn']
  obtain ⟨w1, hw1⟩ : ∃ x, ((w.alloc (.cells #[.int .i64 3, .int .i64 1, .int .i64 0, .int .i64 1, .int .u32 0, .slice I 1 1, .int .i64 0, .slice R 1 1] 36)).alloc (.cells #[.int .i64 2, .int .i64 1] 116)).alloc (.cells #[.int .i64 0, .int .i64 0, .int .i64 0, .int .i64 0, .int .u32 0, .slice none 0 0, .int .i64 0, .slice none 0 0, .int .i64 0, .int .i64 0, .int .i64 0, .int .i64 0, .int .i64 0, .int .u32 0, .int .u32 0, .int .u64 0, .slice none 0 0, .pointer none, .int .i64 0, .int .i64 0, .int .i64 0, .int .i64 0, .bool false] 113) = x := ⟨_, rfl⟩
  have hn := HN.out
  have hn2 := HN2.out
  have hB := HB.out
  rw [hw1] at hn hn2 hB ⊢
  clear HN HN2 HB hw1
  have hSd : (fun w' => Below w.heap.size w w' ∧ (∃ arr, RowB w' (n + 1 + 1) arr 113) ∧ w'.cell? ⟨n, 0, none⟩ = some (.int .i64 3) ∧ w'.cell? ⟨n, 1, none⟩ = some (.int .i64 1) ∧ w'.cell? ⟨n, 2, none⟩ = some (.int .i64 0) ∧ w'.cell? ⟨n, 3, none⟩ = some (.int .i64 1) ∧ w'.cell? ⟨n, 4, none⟩ = some (.int .u32 0) ∧ w'.cell? ⟨n, 5, none⟩ = some (.slice I 1 1) ∧ w'.cell? ⟨n, 6, none⟩ = some (.int .i64 0) ∧ w'.cell? ⟨n, 7, none⟩ = some (.slice R 1 1)) w1.drew := ⟨hB.drew, ⟨_, hn2.kept (Below.refl _ _).drew⟩, ((hn.kept (Below.refl _ _).drew).cell 0).trans rfl, ((hn.kept (Below.refl _ _).drew).cell 1).trans rfl, ((hn.kept (Below.refl _ _).drew).cell 2).trans rfl, ((hn.kept (Below.refl _ _).drew).cell 3).trans rfl, ((hn.kept (Below.refl _ _).drew).cell 4).trans rfl, ((hn.kept (Below.refl _ _).drew).cell 5).trans rfl, ((hn.kept (Below.refl _ _).drew).cell 6).trans rfl, ((hn.kept (Below.refl _ _).drew).cell 7).trans rfl⟩
  refine wp_region_held_drew (S := fun w' => Below w.heap.size w w' ∧ (∃ arr, RowB w' (n + 1 + 1) arr 113) ∧ w'.cell? ⟨n, 0, none⟩ = some (.int .i64 3) ∧ w'.cell? ⟨n, 1, none⟩ = some (.int .i64 1) ∧ w'.cell? ⟨n, 2, none⟩ = some (.int .i64 0) ∧ w'.cell? ⟨n, 3, none⟩ = some (.int .i64 1) ∧ w'.cell? ⟨n, 4, none⟩ = some (.int .u32 0) ∧ w'.cell? ⟨n, 5, none⟩ = some (.slice I 1 1) ∧ w'.cell? ⟨n, 6, none⟩ = some (.int .i64 0) ∧ w'.cell? ⟨n, 7, none⟩ = some (.slice R 1 1)) (by kernel_rfl) hSd (fun hHeld => ?_)
  have hn2 := hn2.kept (Below.refl _ _).drew
  have hn := hn.kept (Below.refl _ _).drew
  have hB := hB.drew
  generalize w1.drew = wd at hHeld hn2 hn hB ⊢
  have hHeld : (fun w' => Below w.heap.size w w' ∧ (∃ arr, RowB w' (n + 1 + 1) arr 113) ∧ w'.cell? ⟨n, 0, none⟩ = some (.int .i64 3) ∧ w'.cell? ⟨n, 1, none⟩ = some (.int .i64 1) ∧ w'.cell? ⟨n, 2, none⟩ = some (.int .i64 0) ∧ w'.cell? ⟨n, 3, none⟩ = some (.int .i64 1) ∧ w'.cell? ⟨n, 4, none⟩ = some (.int .u32 0) ∧ w'.cell? ⟨n, 5, none⟩ = some (.slice I 1 1) ∧ w'.cell? ⟨n, 6, none⟩ = some (.int .i64 0) ∧ w'.cell? ⟨n, 7, none⟩ = some (.slice R 1 1)) wd := hHeld
  refine wpAnyH_take (i := 0) (oi := ?_) (v := ?_) ?_ (by kernel_rfl) (by kernel_rfl) (by kernel_rfl) ?_ (Or.inl ⟨?_, ?_⟩) (by assumption) ?_
  rotate_left 2
  · (simp only [List.getElem?_toArray, List.getElem?_cons_zero]; rfl)
  · first | exact fun _ _ _ h => h | exact fun _ _ _ h => by cases h.1
  · rfl
  · ((intro wq hSq; (try dsimp only at hSq); go_simp); (try with_reducible rfl))
  try simp only [Act.put, List.setIfInBounds_toArray, List.set_cons_zero, List.set_cons_succ]
  refine wpAnyH_take (i := 1) (oi := ?_) (v := ?_) ?_ (by kernel_rfl) (by kernel_rfl) (by kernel_rfl) ?_ (Or.inl ⟨?_, ?_⟩) (by assumption) ?_
  rotate_left 2
  · (simp only [List.getElem?_toArray, List.getElem?_cons_succ, List.getElem?_cons_zero]; rfl)
  · first | exact fun _ _ _ h => h | exact fun _ _ _ h => by cases h.1
  · rfl
  · ((intro wq hSq; (try dsimp only at hSq); go_simp); (try with_reducible rfl))
  try simp only [Act.put, List.setIfInBounds_toArray, List.set_cons_zero, List.set_cons_succ]
  refine wpAnyH_take (i := 2) (oi := ?_) (v := ?_) ?_ (by kernel_rfl) (by kernel_rfl) (by kernel_rfl) ?_ (Or.inl ⟨?_, ?_⟩) (by assumption) ?_
  rotate_left 2
  · (simp only [List.getElem?_toArray, List.getElem?_cons_succ, List.getElem?_cons_zero]; rfl)
  · first | exact fun _ _ _ h => h | exact fun _ _ _ h => by cases h.1
  · rfl
  · ((intro wq hSq; (try dsimp only at hSq); go_simp); (try with_reducible rfl))
  try simp only [Act.put, List.setIfInBounds_toArray, List.set_cons_zero, List.set_cons_succ]
  refine wpAnyH_take (i := 3) (oi := ?_) (v := ?_) ?_ (by kernel_rfl) (by kernel_rfl) (by kernel_rfl) ?_ (Or.inl ⟨?_, ?_⟩) (by assumption) ?_
  rotate_left 2
  · (simp only [List.getElem?_toArray, List.getElem?_cons_succ, List.getElem?_cons_zero]; rfl)
  · first | exact fun _ _ _ h => h | exact fun _ _ _ h => by cases h.1
  · rfl
  · ((intro wq hSq; (try dsimp only at hSq); go_simp); (try with_reducible rfl))
  try simp only [Act.put, List.setIfInBounds_toArray, List.set_cons_zero, List.set_cons_succ]
  refine wpAnyH_take (i := 5) (oi := ?_) (v := ?_) ?_ (by kernel_rfl) (by kernel_rfl) (by kernel_rfl) ?_ (Or.inl ⟨?_, ?_⟩) (by assumption) ?_
  rotate_left 2
  · (simp only [List.getElem?_toArray, List.getElem?_cons_succ, List.getElem?_cons_zero]; rfl)
  · first | exact fun _ _ _ h => h | exact fun _ _ _ h => by cases h.1
  · rfl
  · ((intro wq hSq; (try dsimp only at hSq); go_simp); (try with_reducible rfl))
  try simp only [Act.put, List.setIfInBounds_toArray, List.set_cons_zero, List.set_cons_succ]
  refine wpAnyH_take (i := 6) (oi := ?_) (v := ?_) ?_ (by kernel_rfl) (by kernel_rfl) (by kernel_rfl) ?_ (Or.inl ⟨?_, ?_⟩) (by assumption) ?_
  rotate_left 2
  · (simp only [List.getElem?_toArray, List.getElem?_cons_succ, List.getElem?_cons_zero]; rfl)
  · first | exact fun _ _ _ h => h | exact fun _ _ _ h => by cases h.1
  · rfl
  · ((intro wq hSq; (try dsimp only at hSq); go_simp); (try with_reducible rfl))
  try simp only [Act.put, List.setIfInBounds_toArray, List.set_cons_zero, List.set_cons_succ]
  refine wpAnyH_ready (rs := [4]) (by kernel_rfl) (by simp) ?_
  refine AllReadyH.cons (o := ?_) ?_ (fun K hK => ?_) AllReadyH.nil
  rotate_left
  · (simp only [List.getElem?_toArray, List.getElem?_cons_succ, List.getElem?_cons_zero]; rfl)
  go_simp
  go_at_call 154
  refine (clone_nil _).mono ?_
  rintro ex wx ⟨rfl, rfl⟩
  have hSx := hHeld
  refine hK.out _ _ hSx (fun hHeld => ?_)
  clear hK K
  try simp only [Act.put, List.setIfInBounds_toArray, List.set_cons_zero, List.set_cons_succ]
  refine wpAnyH_take (i := 7) (oi := ?_) (v := ?_) ?_ (by kernel_rfl) (by kernel_rfl) (by kernel_rfl) ?_ (Or.inl ⟨?_, ?_⟩) (by assumption) ?_
  rotate_left 2
  · (simp only [List.getElem?_toArray, List.getElem?_cons_succ, List.getElem?_cons_zero]; rfl)
  · first | exact fun _ _ _ h => h | exact fun _ _ _ h => by cases h.1
  · rfl
  · ((intro wq hSq; (try dsimp only at hSq); go_simp); (try with_reducible rfl))
  try simp only [Act.put, List.setIfInBounds_toArray, List.set_cons_zero, List.set_cons_succ]
  refine wpAnyH_ready (rs := [8]) (by kernel_rfl) (by simp) ?_
  refine AllReadyH.cons (o := ?_) ?_ (fun K hK => ?_) AllReadyH.nil
  rotate_left
  · (simp only [List.getElem?_toArray, List.getElem?_cons_succ, List.getElem?_cons_zero]; rfl)
  refine step_store_row rfl 113 (.tmp 14) (.tmp 62) rfl (n + 1 + 1) (coreA I R 0 0 (.pointer none) 0) rfl rfl 113 _ hn2 (by kernel_rfl) rfl (by simp [coreA, Value.oneCell']) ?_
  have hr : RowB (wx.setRow (n + 1 + 1) (coreA I R 0 0 (.pointer none) 0)) (n + 1 + 1) (coreA I R 0 0 (.pointer none) 0) 113 := hn2.row
  have hnn : RowB (wx.setRow (n + 1 + 1) (coreA I R 0 0 (.pointer none) 0)) n #[.int .i64 3, .int .i64 1, .int .i64 0, .int .i64 1, .int .u32 0, .slice I 1 1, .int .i64 0, .slice R 1 1] 36 := hn.far (by omega)
  have hBr := below_setRow hB (n + 1 + 1) (coreA I R 0 0 (.pointer none) 0) (by omega)
  have hSx : (fun w' => Below w.heap.size w w' ∧ (∃ arr, RowB w' (n + 1 + 1) arr 113) ∧ w'.cell? ⟨n, 0, none⟩ = some (.int .i64 3) ∧ w'.cell? ⟨n, 1, none⟩ = some (.int .i64 1) ∧ w'.cell? ⟨n, 2, none⟩ = some (.int .i64 0) ∧ w'.cell? ⟨n, 3, none⟩ = some (.int .i64 1) ∧ w'.cell? ⟨n, 4, none⟩ = some (.int .u32 0) ∧ w'.cell? ⟨n, 5, none⟩ = some (.slice I 1 1) ∧ w'.cell? ⟨n, 6, none⟩ = some (.int .i64 0) ∧ w'.cell? ⟨n, 7, none⟩ = some (.slice R 1 1)) (wx.setRow (n + 1 + 1) (coreA I R 0 0 (.pointer none) 0)) := ⟨hBr, ⟨_, hr⟩, (hnn.cell 0).trans rfl, (hnn.cell 1).trans rfl, (hnn.cell 2).trans rfl, (hnn.cell 3).trans rfl, (hnn.cell 4).trans rfl, (hnn.cell 5).trans rfl, (hnn.cell 6).trans rfl, (hnn.cell 7).trans rfl⟩
  refine hK.out _ _ hSx (fun hHeld => ?_)
  clear hK K
  try simp only [Act.put]
  refine wpAnyH_take (i := 9) (oi := ?_) (v := ?_) ?_ (by kernel_rfl) (by kernel_rfl) (by kernel_rfl) ?_ (Or.inl ⟨?_, ?_⟩) (by assumption) ?_
  rotate_left 2
  · (simp only [List.getElem?_toArray, List.getElem?_cons_succ, List.getElem?_cons_zero]; rfl)
  · first | exact fun _ _ _ h => h | exact fun _ _ _ h => by cases h.1
  · rfl
  · ((intro wq hSq; (try dsimp only at hSq); go_simp); (try with_reducible rfl))
  try simp only [Act.put, List.setIfInBounds_toArray, List.set_cons_zero, List.set_cons_succ]
  refine wpAnyH_done (by kernel_rfl) ?_ _
  go_wp2_with fail
  refine bodyPost_ret (res_mbegin _ _ _ rfl rfl hr rfl) rfl ?_
  exact ⟨rfl, by first | exact hBr | (rw [hn'] at hBr; exact hBr)⟩
end

end Go.Proofs.YtgjcniokgdicpaaGreatDoor
