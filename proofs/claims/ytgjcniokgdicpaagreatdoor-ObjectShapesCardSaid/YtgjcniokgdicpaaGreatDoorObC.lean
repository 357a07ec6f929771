/- Layer 20, the chapter's example: how it begins, from without. -/
import Derived.Test.YtgjcniokgdicpaaGreatDoorObB
import Derived.Great.Ranges
namespace Go.Proofs.YtgjcniokgdicpaaGreatDoor
open Go.RowKit
attribute [local go_sem] Oper.semAt_some

def SbSt (w1 : World) (n : Nat) (I R : Option Addr) (w' : World) : Prop := Below w1.heap.size w1 w' ∧ w'.cell? ⟨n, 0, none⟩ = some (.int .i64 3) ∧ w'.cell? ⟨n, 1, none⟩ = some (.int .i64 1) ∧ w'.cell? ⟨n, 2, none⟩ = some (.int .i64 0) ∧ w'.cell? ⟨n, 3, none⟩ = some (.int .i64 1) ∧ w'.cell? ⟨n, 4, none⟩ = some (.int .u32 0) ∧ w'.cell? ⟨n, 5, none⟩ = some (.slice I 1 1) ∧ w'.cell? ⟨n, 6, none⟩ = some (.int .i64 0) ∧ w'.cell? ⟨n, 7, none⟩ = some (.slice R 1 1)
section
variable {w1 w w' : World} {n : Nat} {I R : Option Addr}
theorem SbSt.of (hb : Below w1.heap.size w1 w) (h : RowB w n #[.int .i64 3, .int .i64 1, .int .i64 0, .int .i64 1, .int .u32 0, .slice I 1 1, .int .i64 0, .slice R 1 1] 36) : SbSt w1 n I R w := ⟨hb, (h.cell 0).trans rfl, (h.cell 1).trans rfl, (h.cell 2).trans rfl, (h.cell 3).trans rfl, (h.cell 4).trans rfl, (h.cell 5).trans rfl, (h.cell 6).trans rfl, (h.cell 7).trans rfl⟩
theorem SbSt.below (h : SbSt w1 n I R w) (hb : Below w.heap.size w w') : SbSt w1 n I R w' := by
  obtain ⟨h1, a0, a1, a2, a3, a4, a5, a6, a7⟩ := h
  have hk : ∀ {i : Nat} {u : Value}, w.cell? ⟨n, i, none⟩ = some u → w'.cell? ⟨n, i, none⟩ = some u := fun {i u} hc => (hb.cell (p := ⟨n, i, none⟩) (cell_lt hc)).trans hc
  exact ⟨h1.trans (hb.mono h1.size), hk a0, hk a1, hk a2, hk a3, hk a4, hk a5, hk a6, hk a7⟩
def SbSt2 (w1 : World) (n : Nat) (I R : Option Addr) (nb : Nat) (w' : World) : Prop := SbSt w1 n I R w' ∧ ∃ arr, RowB w' nb arr 113
theorem SbSt2.below {nb : Nat} (h : SbSt2 w1 n I R nb w) (hb : Below w.heap.size w w') : SbSt2 w1 n I R nb w' := ⟨h.1.below hb, h.2.elim fun arr ha => ⟨arr, ha.kept hb⟩⟩
theorem SbSt2.row {nb : Nat} (h : SbSt2 w1 n I R nb w) (hn : w1.heap.size ≤ nb) (hn2 : n < w1.heap.size) (cells : Array Value) : SbSt2 w1 n I R nb (w.setRow nb cells) := by
  obtain ⟨⟨h1, a0, a1, a2, a3, a4, a5, a6, a7⟩, arr, ha⟩ := h
  have hk : ∀ {i : Nat} {u : Value}, w.cell? ⟨n, i, none⟩ = some u → (w.setRow nb cells).cell? ⟨n, i, none⟩ = some u := fun {i u} hc => by
    unfold World.cell? at hc ⊢
    rw [setRow_other _ _ _ _ (show n ≠ nb by omega)]
    exact hc
  exact ⟨⟨below_setRow h1 nb cells hn, hk a0, hk a1, hk a2, hk a3, hk a4, hk a5, hk a6, hk a7⟩, _, ha.row⟩
end
section
variable (I R : Option Addr)
set_option maxRecDepth 100000 in
set_option maxHeartbeats 8000000 in
theorem sbegin_c (w : World) : Calls Tryz.prog 44 #[.agg (oS I R), .int .i64 0, .int .i64 1, .int .i64 0, .slice none 0 0] w fun e w' => ∃ b, e = .returned (.tuple #[.pointer (some ⟨b, 0, none⟩), .int .i64 0]) ∧ w.heap.size ≤ b ∧ RowB w' b (coreA I R 0 0 (.pointer none) 0) 120 ∧ Below w.heap.size w w' := by
  have hn := RowB.new w (oS I R) 36
  have hB := (Below.refl w.heap.size w).alloc (Nat.le_refl _) (.cells (oS I R) 36)
  have hsz := fun W => seqSize_c I R W
  have hmb := fun W => mbegin_c I R W
  unfold oS at hn hB hsz hmb
  obtain ⟨CA, hCA⟩ : ∃ x, coreA I R 0 0 (.pointer none) 0 = x := ⟨_, rfl⟩
  rw [hCA] at hmb ⊢
  have hcs : CA.size = 23 := by rw [← hCA]; rfl
  have hc1 : CA.all (·.oneCell') = true := by rw [← hCA]; simp [coreA, Value.oneCell']
  have HSZ := Lib.hid hsz
  have HMB := Lib.hid hmb
  have HCS := Lib.hid hcs
  have HC1 := Lib.hid hc1
  have HCA := Lib.hid hCA
  obtain ⟨n, hn'⟩ : ∃ n, w.heap.size = n := ⟨_, rfl⟩
  rw [hn'] at hn hB
  have HN := Lib.hid hn
  have HB := Lib.hid hB
  clear hsz hmb hcs hc1 hn hB hCA
  unfold oS
  go_enter Tryz.func44, Tryz.ntmps44
  go_wp2_with fail
  obtain ⟨w1, hw1⟩ : ∃ x, w.alloc (.cells #[.int .i64 3, .int .i64 1, .int .i64 0, .int .i64 1, .int .u32 0, .slice I 1 1, .int .i64 0, .slice R 1 1] 36) = x := ⟨_, rfl⟩
  have hn := HN.out
  have hB := HB.out
  rw [hw1] at hn hB ⊢
  have hs1 : w1.heap.size = n + 1 := by rw [← hw1, World.size_alloc, hn']
  clear HN HB hw1
  have hn1 : n < w1.heap.size := by omega
  have hSd : SbSt w1 n I R w1.drew := .of (Below.refl _ w1).drew (hn.kept (Below.refl _ w1).drew)
  refine region_to (fun nb => { tmps := #[.agg #[.int .i64 3, .int .i64 1, .int .i64 0, .int .i64 1, .int .u32 0, .slice I 1 1, .int .i64 0, .slice R 1 1], .int .i64 0, .int .i64 1, .int .i64 0, .slice none 0 0, .pointer (some ⟨n, 0, none⟩), undef, undef, undef, undef, .pointer none, .int .i64 0, .pointer (some ⟨nb, 0, none⟩), .int .i64 0, .tuple #[.agg CA, .int .i64 0], .agg #[.int .i64 3, .int .i64 1, .int .i64 0, .int .i64 1, .int .u32 0, .slice I 1 1, .int .i64 0, .slice R 1 1], .agg #[.int .i64 3, .int .i64 1, .int .i64 0, .int .i64 1, .int .u32 0, .slice I 1 1, .int .i64 0, .slice R 1 1], .int .i64 2, .int .i64 0, .int .i64 1, .int .i64 0, .slice none 0 0, .agg #[.int .i64 2, .int .i64 1], .tuple #[.agg CA, .int .i64 0], .agg CA, .int .i64 0, undef, undef, undef, undef, undef, undef], defers := [] }) (fun nb w => w1.heap.size ≤ nb ∧ RowB w nb CA 113 ∧ Below w1.heap.size w1 w) ?reg ?cont
  case reg =>
    refine wp_region_held_drew (S := fun w' => Below w1.heap.size w1 w' ∧ w'.cell? ⟨n, 0, none⟩ = some (.int .i64 3) ∧ w'.cell? ⟨n, 1, none⟩ = some (.int .i64 1) ∧ w'.cell? ⟨n, 2, none⟩ = some (.int .i64 0) ∧ w'.cell? ⟨n, 3, none⟩ = some (.int .i64 1) ∧ w'.cell? ⟨n, 4, none⟩ = some (.int .u32 0) ∧ w'.cell? ⟨n, 5, none⟩ = some (.slice I 1 1) ∧ w'.cell? ⟨n, 6, none⟩ = some (.int .i64 0) ∧ w'.cell? ⟨n, 7, none⟩ = some (.slice R 1 1)) (by kernel_rfl) hSd (fun hHeld => ?_)
    generalize w1.drew = wd at hHeld ⊢
    have hHeld : SbSt w1 n I R wd := hHeld
    refine wpAnyH_take (i := 0) (oi := ?_) (v := ?_) ?_ (by kernel_rfl) (by kernel_rfl) (by kernel_rfl) ?_ (Or.inl ⟨?_, ?_⟩) (by assumption) ?_
    rotate_left 2
    · (simp only [List.getElem?_toArray, List.getElem?_cons_zero]; rfl)
    · first | exact fun _ _ _ h => h | exact fun _ _ _ h => by cases h.1
    · rfl
    · ((intro wq hSq; (try dsimp only at hSq); go_simp); (try with_reducible rfl))
    try simp only [Act.put, List.setIfInBounds_toArray, List.set_cons_zero, List.set_cons_succ]
    refine wpAnyH_take (i := 1) (oi := ?_) (v := ?_) ?_ (by kernel_rfl) (by kernel_rfl) (by kernel_rfl) ?_ (Or.inl ⟨?_, ?_⟩) (by assumption) ?_
    rotate_left 2
    · (simp only [List.getElem?_toArray, List.getElem?_cons_succ, List.getElem?_cons_zero]; rfl)
    · first | exact fun _ _ _ h => h | exact fun _ _ _ h => by cases h.1
    · rfl
    · ((intro wq hSq; (try dsimp only at hSq); go_simp); (try with_reducible rfl))
    try simp only [Act.put, List.setIfInBounds_toArray, List.set_cons_zero, List.set_cons_succ]
    refine wpAnyH_take (i := 3) (oi := ?_) (v := ?_) ?_ (by kernel_rfl) (by kernel_rfl) (by kernel_rfl) ?_ (Or.inl ⟨?_, ?_⟩) (by assumption) ?_
    rotate_left 2
    · (simp only [List.getElem?_toArray, List.getElem?_cons_succ, List.getElem?_cons_zero]; rfl)
    · first | exact fun _ _ _ h => h | exact fun _ _ _ h => by cases h.1
    · rfl
    · ((intro wq hSq; (try dsimp only at hSq); go_simp); (try with_reducible rfl))
    try simp only [Act.put, List.setIfInBounds_toArray, List.set_cons_zero, List.set_cons_succ]
    refine wpAnyH_take (i := 4) (oi := ?_) (v := ?_) ?_ (by kernel_rfl) (by kernel_rfl) (by kernel_rfl) ?_ (Or.inl ⟨?_, ?_⟩) (by assumption) ?_
    rotate_left 2
    · (simp only [List.getElem?_toArray, List.getElem?_cons_succ, List.getElem?_cons_zero]; rfl)
    · first | exact fun _ _ _ h => h | exact fun _ _ _ h => by cases h.1
    · rfl
    · ((intro wq hSq; (try dsimp only at hSq); go_simp); (try with_reducible rfl))
    try simp only [Act.put, List.setIfInBounds_toArray, List.set_cons_zero, List.set_cons_succ]
    refine wpAnyH_take (i := 5) (oi := ?_) (v := ?_) ?_ (by kernel_rfl) (by kernel_rfl) (by kernel_rfl) ?_ (Or.inl ⟨?_, ?_⟩) (by assumption) ?_
    rotate_left 2
    · (simp only [List.getElem?_toArray, List.getElem?_cons_succ, List.getElem?_cons_zero]; rfl)
    · first | exact fun _ _ _ h => h | exact fun _ _ _ h => by cases h.1
    · rfl
    · ((intro wq hSq; (try dsimp only at hSq); go_simp); (try with_reducible rfl))
    try simp only [Act.put, List.setIfInBounds_toArray, List.set_cons_zero, List.set_cons_succ]
    refine wpAnyH_take (i := 6) (oi := ?_) (v := ?_) ?_ (by kernel_rfl) (by kernel_rfl) (by kernel_rfl) ?_ (Or.inl ⟨?_, ?_⟩) (by assumption) ?_
    rotate_left 2
    · (simp only [List.getElem?_toArray, List.getElem?_cons_succ, List.getElem?_cons_zero]; rfl)
    · first | exact fun _ _ _ h => h | exact fun _ _ _ h => by cases h.1
    · rfl
    · ((intro wq hSq; (try dsimp only at hSq); go_simp); (try with_reducible rfl))
    try simp only [Act.put, List.setIfInBounds_toArray, List.set_cons_zero, List.set_cons_succ]
    refine wpAnyH_take (i := 7) (oi := ?_) (v := ?_) ?_ (by kernel_rfl) (by kernel_rfl) (by kernel_rfl) ?_ (Or.inl ⟨?_, ?_⟩) (by assumption) ?_
    rotate_left 2
    · (simp only [List.getElem?_toArray, List.getElem?_cons_succ, List.getElem?_cons_zero]; rfl)
    · first | exact fun _ _ _ h => h | exact fun _ _ _ h => by cases h.1
    · rfl
    · ((intro wq hSq; (try dsimp only at hSq); go_simp); (try with_reducible rfl))
    try simp only [Act.put, List.setIfInBounds_toArray, List.set_cons_zero, List.set_cons_succ]
    refine wpAnyH_ready (rs := [2, 12]) (by kernel_rfl) (by simp) ?_
    refine AllReadyH.cons (o := ?_) ?_ (fun K hK => ?_) ?_
    rotate_left
    · (simp only [List.getElem?_toArray, List.getElem?_cons_succ, List.getElem?_cons_zero]; rfl)
    · go_simp
      go_at_call 50
      refine (HSZ.out _).mono ?_
      rintro ex wx ⟨rfl, hbx⟩
      have hSx := SbSt.below (w1 := w1) (n := n) (I := I) (R := R) hHeld hbx
      refine hK.out _ _ hSx (fun hHeld => ?_)
      clear hK K
      try simp only [Act.put, List.setIfInBounds_toArray, List.set_cons_zero, List.set_cons_succ]
      refine wpAnyH_ready (rs := [8, 12]) (by kernel_rfl) (by simp) ?_
      refine AllReadyH.cons (o := ?_) ?_ (fun K hK => ?_) ?_
      rotate_left
      · (simp only [List.getElem?_toArray, List.getElem?_cons_succ, List.getElem?_cons_zero]; rfl)
      · go_simp
        go_at_call 120
        refine (HMB.out _).mono ?_
        rintro ex wx ⟨rfl, hbx⟩
        have hSx := SbSt.below (w1 := w1) (n := n) (I := I) (R := R) hHeld hbx
        refine hK.out _ _ hSx (fun hHeld => ?_)
        clear hK K
        try simp only [Act.put, List.setIfInBounds_toArray, List.set_cons_zero, List.set_cons_succ]
        refine wpAnyH_take (i := 9) (oi := ?_) (v := ?_) ?_ (by kernel_rfl) (by kernel_rfl) (by kernel_rfl) ?_ (Or.inl ⟨?_, ?_⟩) (by assumption) ?_
        rotate_left 2
        · (simp only [List.getElem?_toArray, List.getElem?_cons_succ, List.getElem?_cons_zero]; rfl)
        · first | exact fun _ _ _ h => h | exact fun _ _ _ h => by cases h.1
        · rfl
        · ((intro wq hSq; (try dsimp only at hSq); go_simp); (try with_reducible rfl))
        try simp only [Act.put, List.setIfInBounds_toArray, List.set_cons_zero, List.set_cons_succ]
        refine wpAnyH_take (i := 10) (oi := ?_) (v := ?_) ?_ (by kernel_rfl) (by kernel_rfl) (by kernel_rfl) ?_ (Or.inl ⟨?_, ?_⟩) (by assumption) ?_
        rotate_left 2
        · (simp only [List.getElem?_toArray, List.getElem?_cons_succ, List.getElem?_cons_zero]; rfl)
        · first | exact fun _ _ _ h => h | exact fun _ _ _ h => by cases h.1
        · rfl
        · ((intro wq hSq; (try dsimp only at hSq); go_simp); (try with_reducible rfl))
        try simp only [Act.put, List.setIfInBounds_toArray, List.set_cons_zero, List.set_cons_succ]
        refine wpAnyH_take (i := 11) (oi := ?_) (v := ?_) ?_ (by kernel_rfl) (by kernel_rfl) (by kernel_rfl) ?_ (Or.inl ⟨?_, ?_⟩) (by assumption) ?_
        rotate_left 2
        · (simp only [List.getElem?_toArray, List.getElem?_cons_succ, List.getElem?_cons_zero]; rfl)
        · first | exact fun _ _ _ h => h | exact fun _ _ _ h => by cases h.1
        · rfl
        · ((intro wq hSq; (try dsimp only at hSq); go_simp); (try with_reducible rfl))
        try simp only [Act.put, List.setIfInBounds_toArray, List.set_cons_zero, List.set_cons_succ]
        refine wpAnyH_ready (rs := [12]) (by kernel_rfl) (by simp) ?_
        refine AllReadyH.cons (o := ?_) ?_ (fun K hK => ?_) AllReadyH.nil
        rotate_left
        · (simp only [List.getElem?_toArray, List.getElem?_cons_succ, List.getElem?_cons_zero]; rfl)
        go_simp
        have hnew := RowB.new (wx) #[.int .i64 0, .int .i64 0, .int .i64 0, .int .i64 0, .int .u32 0, .slice none 0 0, .int .i64 0, .slice none 0 0, .int .i64 0, .int .i64 0, .int .i64 0, .int .i64 0, .int .i64 0, .int .u32 0, .int .u32 0, .int .u64 0, .slice none 0 0, .pointer none, .int .i64 0, .int .i64 0, .int .i64 0, .int .i64 0, .bool false] 113
        have hsz := hHeld.1.size
        have hSx := SbSt.below (w1 := w1) (n := n) (I := I) (R := R) hHeld ((Below.refl _ (wx)).alloc (Nat.le_refl _) (.cells #[.int .i64 0, .int .i64 0, .int .i64 0, .int .i64 0, .int .u32 0, .slice none 0 0, .int .i64 0, .slice none 0 0, .int .i64 0, .int .i64 0, .int .i64 0, .int .i64 0, .int .i64 0, .int .u32 0, .int .u32 0, .int .u64 0, .slice none 0 0, .pointer none, .int .i64 0, .int .i64 0, .int .i64 0, .int .i64 0, .bool false] 113))
        refine hK.out _ _ hSx (fun hHeld => ?_)
        clear hK K
        try simp only [Act.put, List.setIfInBounds_toArray, List.set_cons_zero, List.set_cons_succ]
        obtain ⟨wa, hwa⟩ : ∃ x, (wx).alloc (.cells #[.int .i64 0, .int .i64 0, .int .i64 0, .int .i64 0, .int .u32 0, .slice none 0 0, .int .i64 0, .slice none 0 0, .int .i64 0, .int .i64 0, .int .i64 0, .int .i64 0, .int .i64 0, .int .u32 0, .int .u32 0, .int .u64 0, .slice none 0 0, .pointer none, .int .i64 0, .int .i64 0, .int .i64 0, .int .i64 0, .bool false] 113) = x := ⟨_, rfl⟩
        obtain ⟨nb, hnb⟩ : ∃ x, (wx).heap.size = x := ⟨_, rfl⟩
        have hnew2 : RowB wa nb #[.int .i64 0, .int .i64 0, .int .i64 0, .int .i64 0, .int .u32 0, .slice none 0 0, .int .i64 0, .slice none 0 0, .int .i64 0, .int .i64 0, .int .i64 0, .int .i64 0, .int .i64 0, .int .u32 0, .int .u32 0, .int .u64 0, .slice none 0 0, .pointer none, .int .i64 0, .int .i64 0, .int .i64 0, .int .i64 0, .bool false] 113 := by rw [← hwa, ← hnb]; exact hnew
        rw [hwa] at hHeld ⊢
        rw [hnb] at hsz ⊢
        clear hwa hnb hnew
        have hnew3 : Array.size (α := Value) #[.int .i64 0, .int .i64 0, .int .i64 0, .int .i64 0, .int .u32 0, .slice none 0 0, .int .i64 0, .slice none 0 0, .int .i64 0, .int .i64 0, .int .i64 0, .int .i64 0, .int .i64 0, .int .u32 0, .int .u32 0, .int .u64 0, .slice none 0 0, .pointer none, .int .i64 0, .int .i64 0, .int .i64 0, .int .i64 0, .bool false] = 23 := rfl
        generalize (#[.int .i64 0, .int .i64 0, .int .i64 0, .int .i64 0, .int .u32 0, .slice none 0 0, .int .i64 0, .slice none 0 0, .int .i64 0, .int .i64 0, .int .i64 0, .int .i64 0, .int .i64 0, .int .u32 0, .int .u32 0, .int .u64 0, .slice none 0 0, .pointer none, .int .i64 0, .int .i64 0, .int .i64 0, .int .i64 0, .bool false] : Array Value) = Zr at hnew2 hnew3
        have hS2 : SbSt2 w1 n I R nb wa := ⟨hHeld, _, hnew2⟩
        clear hHeld
        refine wpAnyH_strong (S' := fun w' => (Below w1.heap.size w1 w' ∧ w'.cell? ⟨n, 0, none⟩ = some (.int .i64 3) ∧ w'.cell? ⟨n, 1, none⟩ = some (.int .i64 1) ∧ w'.cell? ⟨n, 2, none⟩ = some (.int .i64 0) ∧ w'.cell? ⟨n, 3, none⟩ = some (.int .i64 1) ∧ w'.cell? ⟨n, 4, none⟩ = some (.int .u32 0) ∧ w'.cell? ⟨n, 5, none⟩ = some (.slice I 1 1) ∧ w'.cell? ⟨n, 6, none⟩ = some (.int .i64 0) ∧ w'.cell? ⟨n, 7, none⟩ = some (.slice R 1 1)) ∧ ∃ arr, RowB w' nb arr 113) (fun w h => h.1) _ _ _ _ ?_
        have hHeld := hS2
        have hrow := hnew2
        refine wpAnyH_ready (rs := [13]) (by kernel_rfl) (by simp) ?_
        refine AllReadyH.cons (o := ?_) ?_ (fun K hK => ?_) AllReadyH.nil
        rotate_left
        · (simp only [List.getElem?_toArray, List.getElem?_cons_succ, List.getElem?_cons_zero]; rfl)
        refine step_store_row rfl 113 (.tmp 12) (.tmp 24) rfl nb CA rfl rfl 113 _ hrow (by rw [HCS.out]; kernel_rfl) (by rw [HCS.out]; exact hnew3) HC1.out ?_
        have hr : RowB (World.setRow wa nb CA) nb CA 113 := hrow.row
        have hSx := SbSt2.row (w1 := w1) (n := n) (I := I) (R := R) (nb := nb) hHeld hsz hn1 CA
        refine hK.out _ _ hSx (fun hHeld => ?_)
        clear hK K
        try simp only [Act.put]
        refine wpAnyH_take (i := 14) (oi := ?_) (v := ?_) ?_ (by kernel_rfl) (by kernel_rfl) (by kernel_rfl) ?_ (Or.inl ⟨?_, ?_⟩) (by assumption) ?_
        rotate_left 2
        · (simp only [List.getElem?_toArray, List.getElem?_cons_succ, List.getElem?_cons_zero]; rfl)
        · first | exact fun _ _ _ h => h | exact fun _ _ _ h => by cases h.1
        · rfl
        · ((intro wq hSq; (try dsimp only at hSq); go_simp); (try with_reducible rfl))
        try simp only [Act.put, List.setIfInBounds_toArray, List.set_cons_zero, List.set_cons_succ]
        refine wpAnyH_done (by kernel_rfl) ?_ _
        exact ⟨rfl, nb, rfl, hsz, hr, hHeld.1.1⟩
      · refine AllReadyH.cons (o := ?_) ?_ (fun K hK => ?_) AllReadyH.nil
        rotate_left
        · (simp only [List.getElem?_toArray, List.getElem?_cons_succ, List.getElem?_cons_zero]; rfl)
        · go_simp
          have hnew := RowB.new (wx) #[.int .i64 0, .int .i64 0, .int .i64 0, .int .i64 0, .int .u32 0, .slice none 0 0, .int .i64 0, .slice none 0 0, .int .i64 0, .int .i64 0, .int .i64 0, .int .i64 0, .int .i64 0, .int .u32 0, .int .u32 0, .int .u64 0, .slice none 0 0, .pointer none, .int .i64 0, .int .i64 0, .int .i64 0, .int .i64 0, .bool false] 113
          have hsz := hHeld.1.size
          have hSx := SbSt.below (w1 := w1) (n := n) (I := I) (R := R) hHeld ((Below.refl _ (wx)).alloc (Nat.le_refl _) (.cells #[.int .i64 0, .int .i64 0, .int .i64 0, .int .i64 0, .int .u32 0, .slice none 0 0, .int .i64 0, .slice none 0 0, .int .i64 0, .int .i64 0, .int .i64 0, .int .i64 0, .int .i64 0, .int .u32 0, .int .u32 0, .int .u64 0, .slice none 0 0, .pointer none, .int .i64 0, .int .i64 0, .int .i64 0, .int .i64 0, .bool false] 113))
          refine hK.out _ _ hSx (fun hHeld => ?_)
          clear hK K
          try simp only [Act.put, List.setIfInBounds_toArray, List.set_cons_zero, List.set_cons_succ]
          obtain ⟨wa, hwa⟩ : ∃ x, (wx).alloc (.cells #[.int .i64 0, .int .i64 0, .int .i64 0, .int .i64 0, .int .u32 0, .slice none 0 0, .int .i64 0, .slice none 0 0, .int .i64 0, .int .i64 0, .int .i64 0, .int .i64 0, .int .i64 0, .int .u32 0, .int .u32 0, .int .u64 0, .slice none 0 0, .pointer none, .int .i64 0, .int .i64 0, .int .i64 0, .int .i64 0, .bool false] 113) = x := ⟨_, rfl⟩
          obtain ⟨nb, hnb⟩ : ∃ x, (wx).heap.size = x := ⟨_, rfl⟩
          have hnew2 : RowB wa nb #[.int .i64 0, .int .i64 0, .int .i64 0, .int .i64 0, .int .u32 0, .slice none 0 0, .int .i64 0, .slice none 0 0, .int .i64 0, .int .i64 0, .int .i64 0, .int .i64 0, .int .i64 0, .int .u32 0, .int .u32 0, .int .u64 0, .slice none 0 0, .pointer none, .int .i64 0, .int .i64 0, .int .i64 0, .int .i64 0, .bool false] 113 := by rw [← hwa, ← hnb]; exact hnew
          rw [hwa] at hHeld ⊢
          rw [hnb] at hsz ⊢
          clear hwa hnb hnew
          have hnew3 : Array.size (α := Value) #[.int .i64 0, .int .i64 0, .int .i64 0, .int .i64 0, .int .u32 0, .slice none 0 0, .int .i64 0, .slice none 0 0, .int .i64 0, .int .i64 0, .int .i64 0, .int .i64 0, .int .i64 0, .int .u32 0, .int .u32 0, .int .u64 0, .slice none 0 0, .pointer none, .int .i64 0, .int .i64 0, .int .i64 0, .int .i64 0, .bool false] = 23 := rfl
          generalize (#[.int .i64 0, .int .i64 0, .int .i64 0, .int .i64 0, .int .u32 0, .slice none 0 0, .int .i64 0, .slice none 0 0, .int .i64 0, .int .i64 0, .int .i64 0, .int .i64 0, .int .i64 0, .int .u32 0, .int .u32 0, .int .u64 0, .slice none 0 0, .pointer none, .int .i64 0, .int .i64 0, .int .i64 0, .int .i64 0, .bool false] : Array Value) = Zr at hnew2 hnew3
          have hS2 : SbSt2 w1 n I R nb wa := ⟨hHeld, _, hnew2⟩
          clear hHeld
          refine wpAnyH_strong (S' := fun w' => (Below w1.heap.size w1 w' ∧ w'.cell? ⟨n, 0, none⟩ = some (.int .i64 3) ∧ w'.cell? ⟨n, 1, none⟩ = some (.int .i64 1) ∧ w'.cell? ⟨n, 2, none⟩ = some (.int .i64 0) ∧ w'.cell? ⟨n, 3, none⟩ = some (.int .i64 1) ∧ w'.cell? ⟨n, 4, none⟩ = some (.int .u32 0) ∧ w'.cell? ⟨n, 5, none⟩ = some (.slice I 1 1) ∧ w'.cell? ⟨n, 6, none⟩ = some (.int .i64 0) ∧ w'.cell? ⟨n, 7, none⟩ = some (.slice R 1 1)) ∧ ∃ arr, RowB w' nb arr 113) (fun w h => h.1) _ _ _ _ ?_
          have hHeld := hS2
          have hrow := hnew2
          refine wpAnyH_ready (rs := [8]) (by kernel_rfl) (by simp) ?_
          refine AllReadyH.cons (o := ?_) ?_ (fun K hK => ?_) AllReadyH.nil
          rotate_left
          · (simp only [List.getElem?_toArray, List.getElem?_cons_succ, List.getElem?_cons_zero]; rfl)
          go_simp
          go_at_call 120
          refine (HMB.out _).mono ?_
          rintro ex wx ⟨rfl, hbx⟩
          have hSx := SbSt2.below (w1 := w1) (n := n) (I := I) (R := R) (nb := nb) hHeld hbx
          have hrow := hrow.kept hbx
          refine hK.out _ _ hSx (fun hHeld => ?_)
          clear hK K
          try simp only [Act.put, List.setIfInBounds_toArray, List.set_cons_zero, List.set_cons_succ]
          refine wpAnyH_take (i := 9) (oi := ?_) (v := ?_) ?_ (by kernel_rfl) (by kernel_rfl) (by kernel_rfl) ?_ (Or.inl ⟨?_, ?_⟩) (by assumption) ?_
          rotate_left 2
          · (simp only [List.getElem?_toArray, List.getElem?_cons_succ, List.getElem?_cons_zero]; rfl)
          · first | exact fun _ _ _ h => h | exact fun _ _ _ h => by cases h.1
          · rfl
          · ((intro wq hSq; (try dsimp only at hSq); go_simp); (try with_reducible rfl))
          try simp only [Act.put, List.setIfInBounds_toArray, List.set_cons_zero, List.set_cons_succ]
          refine wpAnyH_take (i := 10) (oi := ?_) (v := ?_) ?_ (by kernel_rfl) (by kernel_rfl) (by kernel_rfl) ?_ (Or.inl ⟨?_, ?_⟩) (by assumption) ?_
          rotate_left 2
          · (simp only [List.getElem?_toArray, List.getElem?_cons_succ, List.getElem?_cons_zero]; rfl)
          · first | exact fun _ _ _ h => h | exact fun _ _ _ h => by cases h.1
          · rfl
          · ((intro wq hSq; (try dsimp only at hSq); go_simp); (try with_reducible rfl))
          try simp only [Act.put, List.setIfInBounds_toArray, List.set_cons_zero, List.set_cons_succ]
          refine wpAnyH_take (i := 11) (oi := ?_) (v := ?_) ?_ (by kernel_rfl) (by kernel_rfl) (by kernel_rfl) ?_ (Or.inl ⟨?_, ?_⟩) (by assumption) ?_
          rotate_left 2
          · (simp only [List.getElem?_toArray, List.getElem?_cons_succ, List.getElem?_cons_zero]; rfl)
          · first | exact fun _ _ _ h => h | exact fun _ _ _ h => by cases h.1
          · rfl
          · ((intro wq hSq; (try dsimp only at hSq); go_simp); (try with_reducible rfl))
          try simp only [Act.put, List.setIfInBounds_toArray, List.set_cons_zero, List.set_cons_succ]
          refine wpAnyH_ready (rs := [13]) (by kernel_rfl) (by simp) ?_
          refine AllReadyH.cons (o := ?_) ?_ (fun K hK => ?_) AllReadyH.nil
          rotate_left
          · (simp only [List.getElem?_toArray, List.getElem?_cons_succ, List.getElem?_cons_zero]; rfl)
          refine step_store_row rfl 113 (.tmp 12) (.tmp 24) rfl nb CA rfl rfl 113 _ hrow (by rw [HCS.out]; kernel_rfl) (by rw [HCS.out]; exact hnew3) HC1.out ?_
          have hr : RowB (World.setRow wx nb CA) nb CA 113 := hrow.row
          have hSx := SbSt2.row (w1 := w1) (n := n) (I := I) (R := R) (nb := nb) hHeld hsz hn1 CA
          refine hK.out _ _ hSx (fun hHeld => ?_)
          clear hK K
          try simp only [Act.put]
          refine wpAnyH_take (i := 14) (oi := ?_) (v := ?_) ?_ (by kernel_rfl) (by kernel_rfl) (by kernel_rfl) ?_ (Or.inl ⟨?_, ?_⟩) (by assumption) ?_
          rotate_left 2
          · (simp only [List.getElem?_toArray, List.getElem?_cons_succ, List.getElem?_cons_zero]; rfl)
          · first | exact fun _ _ _ h => h | exact fun _ _ _ h => by cases h.1
          · rfl
          · ((intro wq hSq; (try dsimp only at hSq); go_simp); (try with_reducible rfl))
          try simp only [Act.put, List.setIfInBounds_toArray, List.set_cons_zero, List.set_cons_succ]
          refine wpAnyH_done (by kernel_rfl) ?_ _
          exact ⟨rfl, nb, rfl, hsz, hr, hHeld.1.1⟩
    · refine AllReadyH.cons (o := ?_) ?_ (fun K hK => ?_) AllReadyH.nil
      rotate_left
      · (simp only [List.getElem?_toArray, List.getElem?_cons_succ, List.getElem?_cons_zero]; rfl)
      · go_simp
        have hnew := RowB.new (wd) #[.int .i64 0, .int .i64 0, .int .i64 0, .int .i64 0, .int .u32 0, .slice none 0 0, .int .i64 0, .slice none 0 0, .int .i64 0, .int .i64 0, .int .i64 0, .int .i64 0, .int .i64 0, .int .u32 0, .int .u32 0, .int .u64 0, .slice none 0 0, .pointer none, .int .i64 0, .int .i64 0, .int .i64 0, .int .i64 0, .bool false] 113
        have hsz := hHeld.1.size
        have hSx := SbSt.below (w1 := w1) (n := n) (I := I) (R := R) hHeld ((Below.refl _ (wd)).alloc (Nat.le_refl _) (.cells #[.int .i64 0, .int .i64 0, .int .i64 0, .int .i64 0, .int .u32 0, .slice none 0 0, .int .i64 0, .slice none 0 0, .int .i64 0, .int .i64 0, .int .i64 0, .int .i64 0, .int .i64 0, .int .u32 0, .int .u32 0, .int .u64 0, .slice none 0 0, .pointer none, .int .i64 0, .int .i64 0, .int .i64 0, .int .i64 0, .bool false] 113))
        refine hK.out _ _ hSx (fun hHeld => ?_)
        clear hK K
        try simp only [Act.put, List.setIfInBounds_toArray, List.set_cons_zero, List.set_cons_succ]
        obtain ⟨wa, hwa⟩ : ∃ x, (wd).alloc (.cells #[.int .i64 0, .int .i64 0, .int .i64 0, .int .i64 0, .int .u32 0, .slice none 0 0, .int .i64 0, .slice none 0 0, .int .i64 0, .int .i64 0, .int .i64 0, .int .i64 0, .int .i64 0, .int .u32 0, .int .u32 0, .int .u64 0, .slice none 0 0, .pointer none, .int .i64 0, .int .i64 0, .int .i64 0, .int .i64 0, .bool false] 113) = x := ⟨_, rfl⟩
        obtain ⟨nb, hnb⟩ : ∃ x, (wd).heap.size = x := ⟨_, rfl⟩
        have hnew2 : RowB wa nb #[.int .i64 0, .int .i64 0, .int .i64 0, .int .i64 0, .int .u32 0, .slice none 0 0, .int .i64 0, .slice none 0 0, .int .i64 0, .int .i64 0, .int .i64 0, .int .i64 0, .int .i64 0, .int .u32 0, .int .u32 0, .int .u64 0, .slice none 0 0, .pointer none, .int .i64 0, .int .i64 0, .int .i64 0, .int .i64 0, .bool false] 113 := by rw [← hwa, ← hnb]; exact hnew
        rw [hwa] at hHeld ⊢
        rw [hnb] at hsz ⊢
        clear hwa hnb hnew
        have hnew3 : Array.size (α := Value) #[.int .i64 0, .int .i64 0, .int .i64 0, .int .i64 0, .int .u32 0, .slice none 0 0, .int .i64 0, .slice none 0 0, .int .i64 0, .int .i64 0, .int .i64 0, .int .i64 0, .int .i64 0, .int .u32 0, .int .u32 0, .int .u64 0, .slice none 0 0, .pointer none, .int .i64 0, .int .i64 0, .int .i64 0, .int .i64 0, .bool false] = 23 := rfl
        generalize (#[.int .i64 0, .int .i64 0, .int .i64 0, .int .i64 0, .int .u32 0, .slice none 0 0, .int .i64 0, .slice none 0 0, .int .i64 0, .int .i64 0, .int .i64 0, .int .i64 0, .int .i64 0, .int .u32 0, .int .u32 0, .int .u64 0, .slice none 0 0, .pointer none, .int .i64 0, .int .i64 0, .int .i64 0, .int .i64 0, .bool false] : Array Value) = Zr at hnew2 hnew3
        have hS2 : SbSt2 w1 n I R nb wa := ⟨hHeld, _, hnew2⟩
        clear hHeld
        refine wpAnyH_strong (S' := fun w' => (Below w1.heap.size w1 w' ∧ w'.cell? ⟨n, 0, none⟩ = some (.int .i64 3) ∧ w'.cell? ⟨n, 1, none⟩ = some (.int .i64 1) ∧ w'.cell? ⟨n, 2, none⟩ = some (.int .i64 0) ∧ w'.cell? ⟨n, 3, none⟩ = some (.int .i64 1) ∧ w'.cell? ⟨n, 4, none⟩ = some (.int .u32 0) ∧ w'.cell? ⟨n, 5, none⟩ = some (.slice I 1 1) ∧ w'.cell? ⟨n, 6, none⟩ = some (.int .i64 0) ∧ w'.cell? ⟨n, 7, none⟩ = some (.slice R 1 1)) ∧ ∃ arr, RowB w' nb arr 113) (fun w h => h.1) _ _ _ _ ?_
        have hHeld := hS2
        have hrow := hnew2
        refine wpAnyH_ready (rs := [2]) (by kernel_rfl) (by simp) ?_
        refine AllReadyH.cons (o := ?_) ?_ (fun K hK => ?_) AllReadyH.nil
        rotate_left
        · (simp only [List.getElem?_toArray, List.getElem?_cons_succ, List.getElem?_cons_zero]; rfl)
        go_simp
        go_at_call 50
        refine (HSZ.out _).mono ?_
        rintro ex wx ⟨rfl, hbx⟩
        have hSx := SbSt2.below (w1 := w1) (n := n) (I := I) (R := R) (nb := nb) hHeld hbx
        have hrow := hrow.kept hbx
        refine hK.out _ _ hSx (fun hHeld => ?_)
        clear hK K
        try simp only [Act.put, List.setIfInBounds_toArray, List.set_cons_zero, List.set_cons_succ]
        refine wpAnyH_ready (rs := [8]) (by kernel_rfl) (by simp) ?_
        refine AllReadyH.cons (o := ?_) ?_ (fun K hK => ?_) AllReadyH.nil
        rotate_left
        · (simp only [List.getElem?_toArray, List.getElem?_cons_succ, List.getElem?_cons_zero]; rfl)
        go_simp
        go_at_call 120
        refine (HMB.out _).mono ?_
        rintro ex wx ⟨rfl, hbx⟩
        have hSx := SbSt2.below (w1 := w1) (n := n) (I := I) (R := R) (nb := nb) hHeld hbx
        have hrow := hrow.kept hbx
        refine hK.out _ _ hSx (fun hHeld => ?_)
        clear hK K
        try simp only [Act.put, List.setIfInBounds_toArray, List.set_cons_zero, List.set_cons_succ]
        refine wpAnyH_take (i := 9) (oi := ?_) (v := ?_) ?_ (by kernel_rfl) (by kernel_rfl) (by kernel_rfl) ?_ (Or.inl ⟨?_, ?_⟩) (by assumption) ?_
        rotate_left 2
        · (simp only [List.getElem?_toArray, List.getElem?_cons_succ, List.getElem?_cons_zero]; rfl)
        · first | exact fun _ _ _ h => h | exact fun _ _ _ h => by cases h.1
        · rfl
        · ((intro wq hSq; (try dsimp only at hSq); go_simp); (try with_reducible rfl))
        try simp only [Act.put, List.setIfInBounds_toArray, List.set_cons_zero, List.set_cons_succ]
        refine wpAnyH_take (i := 10) (oi := ?_) (v := ?_) ?_ (by kernel_rfl) (by kernel_rfl) (by kernel_rfl) ?_ (Or.inl ⟨?_, ?_⟩) (by assumption) ?_
        rotate_left 2
        · (simp only [List.getElem?_toArray, List.getElem?_cons_succ, List.getElem?_cons_zero]; rfl)
        · first | exact fun _ _ _ h => h | exact fun _ _ _ h => by cases h.1
        · rfl
        · ((intro wq hSq; (try dsimp only at hSq); go_simp); (try with_reducible rfl))
        try simp only [Act.put, List.setIfInBounds_toArray, List.set_cons_zero, List.set_cons_succ]
        refine wpAnyH_take (i := 11) (oi := ?_) (v := ?_) ?_ (by kernel_rfl) (by kernel_rfl) (by kernel_rfl) ?_ (Or.inl ⟨?_, ?_⟩) (by assumption) ?_
        rotate_left 2
        · (simp only [List.getElem?_toArray, List.getElem?_cons_succ, List.getElem?_cons_zero]; rfl)
        · first | exact fun _ _ _ h => h | exact fun _ _ _ h => by cases h.1
        · rfl
        · ((intro wq hSq; (try dsimp only at hSq); go_simp); (try with_reducible rfl))
        try simp only [Act.put, List.setIfInBounds_toArray, List.set_cons_zero, List.set_cons_succ]
        refine wpAnyH_ready (rs := [13]) (by kernel_rfl) (by simp) ?_
        refine AllReadyH.cons (o := ?_) ?_ (fun K hK => ?_) AllReadyH.nil
        rotate_left
        · (simp only [List.getElem?_toArray, List.getElem?_cons_succ, List.getElem?_cons_zero]; rfl)
        refine step_store_row rfl 113 (.tmp 12) (.tmp 24) rfl nb CA rfl rfl 113 _ hrow (by rw [HCS.out]; kernel_rfl) (by rw [HCS.out]; exact hnew3) HC1.out ?_
        have hr : RowB (World.setRow wx nb CA) nb CA 113 := hrow.row
        have hSx := SbSt2.row (w1 := w1) (n := n) (I := I) (R := R) (nb := nb) hHeld hsz hn1 CA
        refine hK.out _ _ hSx (fun hHeld => ?_)
        clear hK K
        try simp only [Act.put]
        refine wpAnyH_take (i := 14) (oi := ?_) (v := ?_) ?_ (by kernel_rfl) (by kernel_rfl) (by kernel_rfl) ?_ (Or.inl ⟨?_, ?_⟩) (by assumption) ?_
        rotate_left 2
        · (simp only [List.getElem?_toArray, List.getElem?_cons_succ, List.getElem?_cons_zero]; rfl)
        · first | exact fun _ _ _ h => h | exact fun _ _ _ h => by cases h.1
        · rfl
        · ((intro wq hSq; (try dsimp only at hSq); go_simp); (try with_reducible rfl))
        try simp only [Act.put, List.setIfInBounds_toArray, List.set_cons_zero, List.set_cons_succ]
        refine wpAnyH_done (by kernel_rfl) ?_ _
        exact ⟨rfl, nb, rfl, hsz, hr, hHeld.1.1⟩
  rintro nb w2 ⟨hnb, hr, hb2⟩
  try dsimp only
  have hB2 := hB.trans (hb2.mono (by omega))
  obtain ⟨N, hN⟩ : ∃ N, w2.heap.size = N := ⟨_, rfl⟩
  rw [← HCA.out] at hr
  have hr' := Lib.hid hr
  clear hSd hb2 hB hn hr
  go_wp2_with (first
    | (refine wpList_load_row rfl 113 (.tmp 12) rfl nb rfl 113 (coreA I R 0 0 (.pointer none) 0) (0, 0) _ hr'.out Tryz.underlying113 rfl (by kernel_rfl) ?_
       refine wpList_build rfl 120 _ rfl (by kernel_rfl) ?_
       refine Great.wpList_boxTo rfl 120 (.tmp 30) rfl (some 31) rfl N hN (coreA I R 0 0 (.pointer none) 0) (by kernel_rfl) ?_))
  go_ret2
  refine ⟨_, rfl, ?_, ?_, ?_⟩
  · rw [hn']; have := hB2.size; omega
  · rw [← HCA.out, ← hN]; exact RowB.new w2 _ _
  · rw [hn']; exact hB2.alloc (by have := hB2.size; omega) _
end

end Go.Proofs.YtgjcniokgdicpaaGreatDoor
