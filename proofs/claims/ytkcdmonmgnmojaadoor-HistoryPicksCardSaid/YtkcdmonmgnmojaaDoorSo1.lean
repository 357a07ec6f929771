/- How history.Sort compares two calls. -/
import Derived.Test.YtkcdmonmgnmojaaDoorHis3
import Derived.Test.YtkcdmonmgnmojaaDoorHeld
import Derived.Test.YtkcdmonmgnmojaaDoorSortP
namespace Go.Proofs.YtkcdmonmgnmojaaDoor
open Go.RowKit
attribute [local go_sem] Oper.semAt_some

def cmpI (a b : Int) : Int := if a < b then -1 else if b < a then 1 else 0
def cmpC (x y : Cl) : Int := if cmpI x.b y.b ≠ 0 then cmpI x.b y.b else cmpI x.p y.p
theorem nan_any (a : Int) (w : World) : Calls Tryd.prog 96 #[.int .i64 a] w fun e w' => e = .returned (.bool false) ∧ w' = w := by
  have h : (a != a) = false := by simp
  go_enter Tryd.func96, Tryd.ntmps96
  go_wp2_with fail
  go_ret
  exact ⟨by first | rfl | rw [h], rfl⟩
theorem compare_any (a b : Int) (w : World) : Calls Tryd.prog 58 #[.int .i64 a, .int .i64 b] w fun e w' => e = .returned (.int .i64 (cmpI a b)) ∧ w' = w := by
  have h1 := Lib.hid (nan_any a w)
  have h2 := Lib.hid (nan_any b w)
  by_cases hab : a < b
  · have e : cmpI a b = -1 := by unfold cmpI; rw [if_pos hab]
    have t : decide (a < b) = true := decide_eq_true hab
    rw [e]
    clear e hab
    go_enter Tryd.func58, Tryd.ntmps58
    go_wp2_with fail
    refine h1.out.mono ?_
    rintro e w1 ⟨rfl, rfl⟩
    go_wp2_with fail
    refine h2.out.mono ?_
    rintro e w2 ⟨rfl, rfl⟩
    go_wp2_with fail
    go_ret
    exact ⟨rfl, rfl⟩
  · have t : decide (a < b) = false := decide_eq_false hab
    by_cases hba : b < a
    · have e : cmpI a b = 1 := by unfold cmpI; rw [if_neg hab, if_pos hba]
      have t2 : decide (b < a) = true := decide_eq_true hba
      rw [e]
      clear e hab hba
      go_enter Tryd.func58, Tryd.ntmps58
      go_wp2_with fail
      refine h1.out.mono ?_
      rintro e w1 ⟨rfl, rfl⟩
      go_wp2_with fail
      refine h2.out.mono ?_
      rintro e w2 ⟨rfl, rfl⟩
      go_wp2_with fail
      go_ret
      exact ⟨rfl, rfl⟩
    · have e : cmpI a b = 0 := by unfold cmpI; rw [if_neg hab, if_neg hba]
      have t2 : decide (b < a) = false := decide_eq_false hba
      rw [e]
      clear e hab hba
      go_enter Tryd.func58, Tryd.ntmps58
      go_wp2_with fail
      refine h1.out.mono ?_
      rintro e w1 ⟨rfl, rfl⟩
      go_wp2_with fail
      refine h2.out.mono ?_
      rintro e w2 ⟨rfl, rfl⟩
      go_wp2_with fail
      go_ret
      exact ⟨rfl, rfl⟩
theorem or_any (b : Nat) (x y : Int) (w : World) (h0 : w.cell? ⟨b, 0, none⟩ = some (.int .i64 x)) (h1 : w.cell? ⟨b, 1, none⟩ = some (.int .i64 y)) : Calls Tryd.prog 57 #[.slice (some ⟨b, 0, none⟩) 2 2] w fun e w' => e = .returned (.int .i64 (if x ≠ 0 then x else y)) ∧ w' = w := by
  by_cases hx : x = 0
  · rw [if_neg (fun h => h hx)]
    subst hx
    go_enter Tryd.func57, Tryd.ntmps57
    go_wp2_with fail
    go_loopw [5, 8] (fun _ j wr => ∃ k : Nat, k ≤ 2 ∧ j = .int .i64 k ∧ (k = 2 → y = 0) ∧ wr = w) (fun _ j _ => 2 - (intOf j).toNat)
    case atStart => exact ⟨0, by omega, rfl, fun h => absurd h (by omega), by first | trivial | rfl⟩
    case round =>
      obtain ⟨k, hk, rfl, hy, rfl⟩ := hrel
      have hkc : k = 0 ∨ k = 1 ∨ k = 2 := by omega
      rcases hkc with rfl | rfl | rfl
      · clear hy
        go_wp2_with fail
        go_roundw
        case rel => exact ⟨1, by omega, rfl, fun h => absurd h (by omega), by first | trivial | rfl⟩
        case measure => decide
      · clear hy
        by_cases hy0 : y = 0
        · subst hy0
          go_wp2_with fail
          go_roundw
          case rel => exact ⟨2, by omega, rfl, fun _ => by first | trivial | rfl, by first | trivial | rfl⟩
          case measure => decide
        · have t : (y != 0) = true := by simp [hy0]
          go_wp2_with fail
          go_ret
          exact ⟨rfl, rfl⟩
      · have hy' := hy rfl
        subst hy'
        clear hy
        go_wp2_with fail
        go_ret
        exact ⟨rfl, rfl⟩
  · rw [if_pos hx]
    have t : (x != 0) = true := by simp [hx]
    go_enter Tryd.func57, Tryd.ntmps57
    go_wp2_with fail
    go_loopw [5, 8] (fun _ j wr => j = .int .i64 0 ∧ wr = w) (fun _ j _ => 2 - (intOf j).toNat)
    case atStart => exact ⟨rfl, by first | trivial | rfl⟩
    case round =>
      obtain ⟨rfl, rfl⟩ := hrel
      go_wp2_with fail
      go_ret
      exact ⟨rfl, rfl⟩

def S2St (w1 : World) (n m : Nat) (x y : Cl) (w' : World) : Prop := Below w1.heap.size w1 w' ∧ w'.cell? ⟨n, 5, none⟩ = some (.int .i64 x.b) ∧ w'.cell? ⟨m, 5, none⟩ = some (.int .i64 y.b) ∧ w'.cell? ⟨n, 0, none⟩ = some (.int .i64 x.p) ∧ w'.cell? ⟨m, 0, none⟩ = some (.int .i64 y.p)
theorem S2St.below {w1 w w' : World} {n m : Nat} {x y : Cl} (h : S2St w1 n m x y w) (hb : Below w.heap.size w w') : S2St w1 n m x y w' := by
  obtain ⟨h1, a0, a1, a2, a3⟩ := h
  have hk : ∀ {i j : Nat} {u : Value}, w.cell? ⟨i, j, none⟩ = some u → w'.cell? ⟨i, j, none⟩ = some u := fun {i j u} hc => (hb.cell (p := ⟨i, j, none⟩) (cell_lt hc)).trans hc
  exact ⟨h1.trans (hb.mono h1.size), hk a0, hk a1, hk a2, hk a3⟩
set_option maxRecDepth 100000 in
set_option maxHeartbeats 4000000 in
theorem scmp_any (x y : Cl) (A A' : Option Addr) (c c' : Nat) (w : World) : Calls Tryd.prog 56 #[clV x A c, clV y A' c'] w fun e w' => e = .returned (.int .i64 (cmpC x y)) ∧ Below w.heap.size w w' := by
  have hx0 := ClBox.new w x A c
  have hb1 := (Below.refl _ (w.alloc (.cells #[.int .i64 x.p, .int .i64 x.o, .int .i64 x.q, .slice A x.r.length c, .int .i64 x.c, .int .i64 x.b, .int .i64 x.e] 45))).alloc (Nat.le_refl _) (.cells #[.int .i64 y.p, .int .i64 y.o, .int .i64 y.q, .slice A' y.r.length c', .int .i64 y.c, .int .i64 y.b, .int .i64 y.e] 45)
  have hx1 := hx0.kept hb1
  have hy1 := ClBox.new (w.alloc (.cells #[.int .i64 x.p, .int .i64 x.o, .int .i64 x.q, .slice A x.r.length c, .int .i64 x.c, .int .i64 x.b, .int .i64 x.e] 45)) y A' c'
  have hB := ((Below.refl w.heap.size w).alloc (Nat.le_refl _) (.cells #[.int .i64 x.p, .int .i64 x.o, .int .i64 x.q, .slice A x.r.length c, .int .i64 x.c, .int .i64 x.b, .int .i64 x.e] 45)).trans (hb1.mono (by simp))
  rw [World.size_alloc] at hy1
  obtain ⟨n, hn⟩ : ∃ n, w.heap.size = n := ⟨_, rfl⟩
  rw [hn] at hx1 hy1
  have HX := Lib.hid hx1
  have HY := Lib.hid hy1
  have HB := Lib.hid hB
  have hfin : (if cmpI x.b y.b ≠ 0 then cmpI x.b y.b else cmpI x.p y.p) = cmpC x y := rfl
  have c1 := Lib.hid fun W => compare_any x.b y.b W
  have c2 := Lib.hid fun W => compare_any x.p y.p W
  obtain ⟨p1, hp1⟩ : ∃ p, cmpI x.b y.b = p := ⟨_, rfl⟩
  obtain ⟨p2, hp2⟩ : ∃ p, cmpI x.p y.p = p := ⟨_, rfl⟩
  rw [hp1, hp2] at hfin
  rw [hp1] at c1
  rw [hp2] at c2
  rw [← hfin]
  obtain ⟨z, hz⟩ : ∃ z, (if p1 ≠ 0 then p1 else p2) = z := ⟨_, rfl⟩
  rw [hz]
  have HZ := Lib.hid hz
  clear hz
  clear hx0 hb1 hx1 hy1 hB hp1 hp2 hfin
  unfold clV
  go_enter Tryd.func56, Tryd.ntmps56
  go_wp2_with fail
  obtain ⟨w1, hw1⟩ : ∃ x', (w.alloc (.cells #[.int .i64 x.p, .int .i64 x.o, .int .i64 x.q, .slice A x.r.length c, .int .i64 x.c, .int .i64 x.b, .int .i64 x.e] 45)).alloc (.cells #[.int .i64 y.p, .int .i64 y.o, .int .i64 y.q, .slice A' y.r.length c', .int .i64 y.c, .int .i64 y.b, .int .i64 y.e] 45) = x' := ⟨_, rfl⟩
  have hx1 := HX.out
  have hy1 := HY.out
  have hB := HB.out
  rw [hw1] at hx1 hy1 hB ⊢
  clear HX HY HB hw1
  have hSd : S2St w1 n (n + 1) x y w1.drew := by
    obtain ⟨a0, _, _, _, _, a5, _⟩ := (hx1.kept (Below.refl _ w1).drew).cells
    obtain ⟨b0, _, _, _, _, b5, _⟩ := (hy1.kept (Below.refl _ w1).drew).cells
    exact ⟨(Below.refl _ w1).drew, a5, b5, a0, b0⟩
  clear hx1 hy1
  refine wp_region_held_drew (S := fun w' => Below w1.heap.size w1 w' ∧ w'.cell? ⟨n, 5, none⟩ = some (.int .i64 x.b) ∧ w'.cell? ⟨n + 1, 5, none⟩ = some (.int .i64 y.b) ∧ w'.cell? ⟨n, 0, none⟩ = some (.int .i64 x.p) ∧ w'.cell? ⟨n + 1, 0, none⟩ = some (.int .i64 y.p)) (by kernel_rfl) hSd (fun hHeld => ?_)
  generalize w1.drew = wd at hHeld ⊢
  have hHeld : S2St w1 n (n + 1) x y wd := hHeld
  refine wpAnyH_take (i := 0) (oi := ?_) (v := ?_) ?_ (by kernel_rfl) (by kernel_rfl) (by kernel_rfl) ?_ (Or.inl ⟨?_, ?_⟩) (by assumption) ?_
  rotate_left 2
  · (simp only [List.getElem?_toArray, List.getElem?_cons_zero]; rfl)
  · first | exact fun _ _ _ h => h | exact fun _ _ _ h => by cases h.1
  · rfl
  · ((intro wq hSq; (try dsimp only at hSq); go_simp); (try with_reducible rfl))
  try simp only [Act.put, List.setIfInBounds_toArray, List.set_cons_zero, List.set_cons_succ]
  refine wpAnyH_take (i := 1) (oi := ?_) (v := ?_) ?_ (by kernel_rfl) (by kernel_rfl) (by kernel_rfl) ?_ (Or.inl ⟨?_, ?_⟩) (by assumption) ?_
  rotate_left 2
  · (simp only [List.getElem?_toArray, List.getElem?_cons_succ, List.getElem?_cons_zero]; rfl)
  · first | exact fun _ _ _ h => h | exact fun _ _ _ h => by cases h.1
  · rfl
  · ((intro wq hSq; (try dsimp only at hSq); go_simp); (try with_reducible rfl))
  try simp only [Act.put, List.setIfInBounds_toArray, List.set_cons_zero, List.set_cons_succ]
  refine wpAnyH_take (i := 2) (oi := ?_) (v := ?_) ?_ (by kernel_rfl) (by kernel_rfl) (by kernel_rfl) ?_ (Or.inl ⟨?_, ?_⟩) (by assumption) ?_
  rotate_left 2
  · (simp only [List.getElem?_toArray, List.getElem?_cons_succ, List.getElem?_cons_zero]; rfl)
  · first | exact fun _ _ _ h => h | exact fun _ _ _ h => by cases h.1
  · rfl
  · ((intro wq hSq; (try dsimp only at hSq); go_simp); (try with_reducible rfl))
  try simp only [Act.put, List.setIfInBounds_toArray, List.set_cons_zero, List.set_cons_succ]
  refine wpAnyH_take (i := 3) (oi := ?_) (v := ?_) ?_ (by kernel_rfl) (by kernel_rfl) (by kernel_rfl) ?_ (Or.inl ⟨?_, ?_⟩) (by assumption) ?_
  rotate_left 2
  · (simp only [List.getElem?_toArray, List.getElem?_cons_succ, List.getElem?_cons_zero]; rfl)
  · first | exact fun _ _ _ h => h | exact fun _ _ _ h => by cases h.1
  · rfl
  · ((intro wq hSq; (try dsimp only at hSq); go_simp); (try with_reducible rfl))
  try simp only [Act.put, List.setIfInBounds_toArray, List.set_cons_zero, List.set_cons_succ]
  refine wpAnyH_take (i := 5) (oi := ?_) (v := ?_) ?_ (by kernel_rfl) (by kernel_rfl) (by kernel_rfl) ?_ (Or.inl ⟨?_, ?_⟩) (by assumption) ?_
  rotate_left 2
  · (simp only [List.getElem?_toArray, List.getElem?_cons_succ, List.getElem?_cons_zero]; rfl)
  · first | exact fun _ _ _ h => h | exact fun _ _ _ h => by cases h.1
  · rfl
  · ((intro wq hSq; (try dsimp only at hSq); go_simp); (try with_reducible rfl))
  try simp only [Act.put, List.setIfInBounds_toArray, List.set_cons_zero, List.set_cons_succ]
  refine wpAnyH_take (i := 6) (oi := ?_) (v := ?_) ?_ (by kernel_rfl) (by kernel_rfl) (by kernel_rfl) ?_ (Or.inl ⟨?_, ?_⟩) (by assumption) ?_
  rotate_left 2
  · (simp only [List.getElem?_toArray, List.getElem?_cons_succ, List.getElem?_cons_zero]; rfl)
  · first | exact fun _ _ _ h => h | exact fun _ _ _ h => by cases h.1
  · rfl
  · ((intro wq hSq; (try dsimp only at hSq); go_simp); (try with_reducible rfl))
  try simp only [Act.put, List.setIfInBounds_toArray, List.set_cons_zero, List.set_cons_succ]
  refine wpAnyH_take (i := 7) (oi := ?_) (v := ?_) ?_ (by kernel_rfl) (by kernel_rfl) (by kernel_rfl) ?_ (Or.inl ⟨?_, ?_⟩) (by assumption) ?_
  rotate_left 2
  · (simp only [List.getElem?_toArray, List.getElem?_cons_succ, List.getElem?_cons_zero]; rfl)
  · first | exact fun _ _ _ h => h | exact fun _ _ _ h => by cases h.1
  · rfl
  · ((intro wq hSq; (try dsimp only at hSq); go_simp); (try with_reducible rfl))
  try simp only [Act.put, List.setIfInBounds_toArray, List.set_cons_zero, List.set_cons_succ]
  refine wpAnyH_take (i := 8) (oi := ?_) (v := ?_) ?_ (by kernel_rfl) (by kernel_rfl) (by kernel_rfl) ?_ (Or.inl ⟨?_, ?_⟩) (by assumption) ?_
  rotate_left 2
  · (simp only [List.getElem?_toArray, List.getElem?_cons_succ, List.getElem?_cons_zero]; rfl)
  · first | exact fun _ _ _ h => h | exact fun _ _ _ h => by cases h.1
  · rfl
  · ((intro wq hSq; (try dsimp only at hSq); go_simp); (try with_reducible rfl))
  try simp only [Act.put, List.setIfInBounds_toArray, List.set_cons_zero, List.set_cons_succ]
  refine wpAnyH_ready (rs := [4]) (by kernel_rfl) (by simp) ?_
  refine AllReadyH.cons (o := ?_) ?_ (fun K hK => ?_) AllReadyH.nil
  rotate_left
  · (simp only [List.getElem?_toArray, List.getElem?_cons_succ, List.getElem?_cons_zero]; rfl)
  go_simp
  go_at_call 58
  refine (c1.out _).mono ?_
  rintro ex wx ⟨rfl, rfl⟩
  have hSx := hHeld
  refine hK.out _ _ hSx (fun hHeld => ?_)
  clear hK K
  try simp only [Act.put, List.setIfInBounds_toArray, List.set_cons_zero, List.set_cons_succ]
  refine wpAnyH_ready (rs := [9]) (by kernel_rfl) (by simp) ?_
  refine AllReadyH.cons (o := ?_) ?_ (fun K hK => ?_) AllReadyH.nil
  rotate_left
  · (simp only [List.getElem?_toArray, List.getElem?_cons_succ, List.getElem?_cons_zero]; rfl)
  go_simp
  go_at_call 58
  refine (c2.out _).mono ?_
  rintro ex wy ⟨rfl, rfl⟩
  have hSx := hHeld
  refine hK.out _ _ hSx (fun hHeld => ?_)
  clear hK K
  try simp only [Act.put, List.setIfInBounds_toArray, List.set_cons_zero, List.set_cons_succ]
  refine wpAnyH_ready (rs := [10]) (by kernel_rfl) (by simp) ?_
  refine AllReadyH.cons (o := ?_) ?_ (fun K hK => ?_) AllReadyH.nil
  rotate_left
  · (simp only [List.getElem?_toArray, List.getElem?_cons_succ, List.getElem?_cons_zero]; rfl)
  go_simp
  have hSx := S2St.below (w1 := w1) (n := n) (m := n + 1) (x := x) (y := y) hHeld ((Below.refl _ wy).alloc (Nat.le_refl _) (.cells #[.int .i64 p1, .int .i64 p2] 3))
  have hor := or_any wy.heap.size p1 p2 (wy.alloc (.cells #[.int .i64 p1, .int .i64 p2] 3)) (by have := cells_new wy #[.int .i64 p1, .int .i64 p2] 3 0; rw [Addr.add_lit, Nat.zero_add] at this; exact this) (by have := cells_new wy #[.int .i64 p1, .int .i64 p2] 3 1; rw [Addr.add_lit, Nat.zero_add] at this; exact this)
  rw [HZ.out] at hor
  refine hK.out _ _ hSx (fun hHeld => ?_)
  clear hK K
  try simp only [Act.put, List.setIfInBounds_toArray, List.set_cons_zero, List.set_cons_succ]
  refine wpAnyH_ready (rs := [11]) (by kernel_rfl) (by simp) ?_
  refine AllReadyH.cons (o := ?_) ?_ (fun K hK => ?_) AllReadyH.nil
  rotate_left
  · (simp only [List.getElem?_toArray, List.getElem?_cons_succ, List.getElem?_cons_zero]; rfl)
  go_simp
  go_at_call 57
  refine hor.mono ?_
  rintro ex wz ⟨rfl, rfl⟩
  have hSx := hHeld
  refine hK.out _ _ hSx (fun hHeld => ?_)
  clear hK K
  try simp only [Act.put, List.setIfInBounds_toArray, List.set_cons_zero, List.set_cons_succ]
  refine wpAnyH_take (i := 12) (oi := ?_) (v := ?_) ?_ (by kernel_rfl) (by kernel_rfl) (by kernel_rfl) ?_ (Or.inl ⟨?_, ?_⟩) (by assumption) ?_
  rotate_left 2
  · (simp only [List.getElem?_toArray, List.getElem?_cons_succ, List.getElem?_cons_zero]; rfl)
  · first | exact fun _ _ _ h => h | exact fun _ _ _ h => by cases h.1
  · rfl
  · ((intro wq hSq; (try dsimp only at hSq); go_simp); (try with_reducible rfl))
  try simp only [Act.put, List.setIfInBounds_toArray, List.set_cons_zero, List.set_cons_succ]
  refine wpAnyH_done (by kernel_rfl) ?_ _
  have hb := hHeld.1
  go_wp2_with fail
  go_ret
  exact ⟨rfl, by have h := hB.trans (hb.mono hB.size); first | exact h | (rw [hn] at h; exact h)⟩

end Go.Proofs.YtkcdmonmgnmojaaDoor
