/- Texts joined: How history.Sort compares two calls. Calls in the rows of a block: loads, stores, and what a swap makes of them. The order of calls, by beginnings, processes and first places; worlds that differ in one block. slices.insertionSortCmpFunc on calls. slices.swapRangeCmpFunc and rotateCmpFunc on calls. slices.rotateCmpFunc on calls. -/
import Derived.Test.YtgmmblknaeepbaaZa
import Derived.Laws.CopyRow
import Derived.Laws.Tables
import Derived.Below
namespace Go.Proofs.Ytgmmblknaeepbaa
open Go.RowKit
attribute [local go_sem] Oper.semAt_some

def cmpI (a b : Int) : Int := if a < b then -1 else if b < a then 1 else 0
def cmpC (x y : Cl) : Int := if cmpI x.b y.b ≠ 0 then cmpI x.b y.b else cmpI x.p y.p
theorem nan_any (a : Int) (w : World) : Calls Try.prog 62 #[.int .i64 a] w fun e w' => e = .returned (.bool false) ∧ w' = w := by
  have h : (a != a) = false := by simp
  go_enter Try.func62, Try.ntmps62
  go_wp2_with fail
  go_ret
  exact ⟨by first | rfl | rw [h], rfl⟩
theorem compare_any (a b : Int) (w : World) : Calls Try.prog 45 #[.int .i64 a, .int .i64 b] w fun e w' => e = .returned (.int .i64 (cmpI a b)) ∧ w' = w := by
  have h1 := Lib.hid (nan_any a w)
  have h2 := Lib.hid (nan_any b w)
  by_cases hab : a < b
  · have e : cmpI a b = -1 := by unfold cmpI; rw [if_pos hab]
    have t : decide (a < b) = true := decide_eq_true hab
    rw [e]
    clear e hab
    go_enter Try.func45, Try.ntmps45
    go_wp2_with fail
    refine h1.out.mono ?_
    rintro e w1 ⟨rfl, rfl⟩
    go_wp2_with fail
    refine h2.out.mono ?_
    rintro e w2 ⟨rfl, rfl⟩
    go_wp2_with fail
    go_ret
    exact ⟨rfl, rfl⟩
  · have t : decide (a < b) = false := decide_eq_false hab
    by_cases hba : b < a
    · have e : cmpI a b = 1 := by unfold cmpI; rw [if_neg hab, if_pos hba]
      have t2 : decide (b < a) = true := decide_eq_true hba
      rw [e]
      clear e hab hba
      go_enter Try.func45, Try.ntmps45
      go_wp2_with fail
      refine h1.out.mono ?_
      rintro e w1 ⟨rfl, rfl⟩
      go_wp2_with fail
      refine h2.out.mono ?_
      rintro e w2 ⟨rfl, rfl⟩
      go_wp2_with fail
      go_ret
      exact ⟨rfl, rfl⟩
    · have e : cmpI a b = 0 := by unfold cmpI; rw [if_neg hab, if_neg hba]
      have t2 : decide (b < a) = false := decide_eq_false hba
      rw [e]
      clear e hab hba
      go_enter Try.func45, Try.ntmps45
      go_wp2_with fail
      refine h1.out.mono ?_
      rintro e w1 ⟨rfl, rfl⟩
      go_wp2_with fail
      refine h2.out.mono ?_
      rintro e w2 ⟨rfl, rfl⟩
      go_wp2_with fail
      go_ret
      exact ⟨rfl, rfl⟩
theorem or_any (b : Nat) (x y : Int) (w : World) (h0 : w.cell? ⟨b, 0, none⟩ = some (.int .i64 x)) (h1 : w.cell? ⟨b, 1, none⟩ = some (.int .i64 y)) : Calls Try.prog 44 #[.slice (some ⟨b, 0, none⟩) 2 2] w fun e w' => e = .returned (.int .i64 (if x ≠ 0 then x else y)) ∧ w' = w := by
  by_cases hx : x = 0
  · rw [if_neg (fun h => h hx)]
    subst hx
    go_enter Try.func44, Try.ntmps44
    go_wp2_with fail
    go_loopw [5, 8] (fun _ j wr => ∃ k : Nat, k ≤ 2 ∧ j = .int .i64 k ∧ (k = 2 → y = 0) ∧ wr = w) (fun _ j _ => 2 - (intOf j).toNat)
    case atStart => exact ⟨0, by omega, rfl, fun h => absurd h (by omega), by first | trivial | rfl⟩
    case round =>
      obtain ⟨k, hk, rfl, hy, rfl⟩ := hrel
      have hkc : k = 0 ∨ k = 1 ∨ k = 2 := by omega
      rcases hkc with rfl | rfl | rfl
      · clear hy
        go_wp2_with fail
        go_roundw
        case rel => exact ⟨1, by omega, rfl, fun h => absurd h (by omega), by first | trivial | rfl⟩
        case measure => decide
      · clear hy
        by_cases hy0 : y = 0
        · subst hy0
          go_wp2_with fail
          go_roundw
          case rel => exact ⟨2, by omega, rfl, fun _ => by first | trivial | rfl, by first | trivial | rfl⟩
          case measure => decide
        · have t : (y != 0) = true := by simp [hy0]
          go_wp2_with fail
          go_ret
          exact ⟨rfl, rfl⟩
      · have hy' := hy rfl
        subst hy'
        clear hy
        go_wp2_with fail
        go_ret
        exact ⟨rfl, rfl⟩
  · rw [if_pos hx]
    have t : (x != 0) = true := by simp [hx]
    go_enter Try.func44, Try.ntmps44
    go_wp2_with fail
    go_loopw [5, 8] (fun _ j wr => j = .int .i64 0 ∧ wr = w) (fun _ j _ => 2 - (intOf j).toNat)
    case atStart => exact ⟨rfl, by first | trivial | rfl⟩
    case round =>
      obtain ⟨rfl, rfl⟩ := hrel
      go_wp2_with fail
      go_ret
      exact ⟨rfl, rfl⟩

def S2St (w1 : World) (n m : Nat) (x y : Cl) (w' : World) : Prop := Below w1.heap.size w1 w' ∧ w'.cell? ⟨n, 5, none⟩ = some (.int .i64 x.b) ∧ w'.cell? ⟨m, 5, none⟩ = some (.int .i64 y.b) ∧ w'.cell? ⟨n, 0, none⟩ = some (.int .i64 x.p) ∧ w'.cell? ⟨m, 0, none⟩ = some (.int .i64 y.p)
theorem S2St.below {w1 w w' : World} {n m : Nat} {x y : Cl} (h : S2St w1 n m x y w) (hb : Below w.heap.size w w') : S2St w1 n m x y w' := by
  obtain ⟨h1, a0, a1, a2, a3⟩ := h
  have hk : ∀ {i j : Nat} {u : Value}, w.cell? ⟨i, j, none⟩ = some u → w'.cell? ⟨i, j, none⟩ = some u := fun {i j u} hc => (hb.cell (p := ⟨i, j, none⟩) (cell_lt hc)).trans hc
  exact ⟨h1.trans (hb.mono h1.size), hk a0, hk a1, hk a2, hk a3⟩
set_option maxRecDepth 100000 in
set_option maxHeartbeats 4000000 in
theorem scmp_any (x y : Cl) (A A' : Option Addr) (c c' : Nat) (w : World) : Calls Try.prog 43 #[clV x A c, clV y A' c'] w fun e w' => e = .returned (.int .i64 (cmpC x y)) ∧ Below w.heap.size w w' := by
  have hx0 := ClBox.new w x A c
  have hb1 := (Below.refl _ (w.alloc (.cells #[.int .i64 x.p, .int .i64 x.o, .int .i64 x.q, .slice A x.r.length c, .int .i64 x.c, .int .i64 x.b, .int .i64 x.e] 32))).alloc (Nat.le_refl _) (.cells #[.int .i64 y.p, .int .i64 y.o, .int .i64 y.q, .slice A' y.r.length c', .int .i64 y.c, .int .i64 y.b, .int .i64 y.e] 32)
  have hx1 := hx0.kept hb1
  have hy1 := ClBox.new (w.alloc (.cells #[.int .i64 x.p, .int .i64 x.o, .int .i64 x.q, .slice A x.r.length c, .int .i64 x.c, .int .i64 x.b, .int .i64 x.e] 32)) y A' c'
  have hB := ((Below.refl w.heap.size w).alloc (Nat.le_refl _) (.cells #[.int .i64 x.p, .int .i64 x.o, .int .i64 x.q, .slice A x.r.length c, .int .i64 x.c, .int .i64 x.b, .int .i64 x.e] 32)).trans (hb1.mono (by simp))
  rw [World.size_alloc] at hy1
  obtain ⟨n, hn⟩ : ∃ n, w.heap.size = n := ⟨_, rfl⟩
  rw [hn] at hx1 hy1
  have HX := Lib.hid hx1
  have HY := Lib.hid hy1
  have HB := Lib.hid hB
  have hfin : (if cmpI x.b y.b ≠ 0 then cmpI x.b y.b else cmpI x.p y.p) = cmpC x y := rfl
  have c1 := Lib.hid fun W => compare_any x.b y.b W
  have c2 := Lib.hid fun W => compare_any x.p y.p W
  obtain ⟨p1, hp1⟩ : ∃ p, cmpI x.b y.b = p := ⟨_, rfl⟩
  obtain ⟨p2, hp2⟩ : ∃ p, cmpI x.p y.p = p := ⟨_, rfl⟩
  rw [hp1, hp2] at hfin
  rw [hp1] at c1
  rw [hp2] at c2
  rw [← hfin]
  obtain ⟨z, hz⟩ : ∃ z, (if p1 ≠ 0 then p1 else p2) = z := ⟨_, rfl⟩
  rw [hz]
  have HZ := Lib.hid hz
  clear hz
  clear hx0 hb1 hx1 hy1 hB hp1 hp2 hfin
  unfold clV
  go_enter Try.func43, Try.ntmps43
  go_wp2_with fail
  obtain ⟨w1, hw1⟩ : ∃ x', (w.alloc (.cells #[.int .i64 x.p, .int .i64 x.o, .int .i64 x.q, .slice A x.r.length c, .int .i64 x.c, .int .i64 x.b, .int .i64 x.e] 32)).alloc (.cells #[.int .i64 y.p, .int .i64 y.o, .int .i64 y.q, .slice A' y.r.length c', .int .i64 y.c, .int .i64 y.b, .int .i64 y.e] 32) = x' := ⟨_, rfl⟩
  have hx1 := HX.out
  have hy1 := HY.out
  have hB := HB.out
  rw [hw1] at hx1 hy1 hB ⊢
  clear HX HY HB hw1
  have hSd : S2St w1 n (n + 1) x y w1.drew := by
    obtain ⟨a0, _, _, _, _, a5, _⟩ := (hx1.kept (Below.refl _ w1).drew).cells
    obtain ⟨b0, _, _, _, _, b5, _⟩ := (hy1.kept (Below.refl _ w1).drew).cells
    exact ⟨(Below.refl _ w1).drew, a5, b5, a0, b0⟩
  clear hx1 hy1
  refine wp_region_held_drew (S := fun w' => Below w1.heap.size w1 w' ∧ w'.cell? ⟨n, 5, none⟩ = some (.int .i64 x.b) ∧ w'.cell? ⟨n + 1, 5, none⟩ = some (.int .i64 y.b) ∧ w'.cell? ⟨n, 0, none⟩ = some (.int .i64 x.p) ∧ w'.cell? ⟨n + 1, 0, none⟩ = some (.int .i64 y.p)) (by kernel_rfl) hSd (fun hHeld => ?_)
  generalize w1.drew = wd at hHeld ⊢
  have hHeld : S2St w1 n (n + 1) x y wd := hHeld
  refine wpAnyH_take (i := 0) (oi := ?_) (v := ?_) ?_ (by kernel_rfl) (by kernel_rfl) (by kernel_rfl) ?_ (Or.inl ⟨?_, ?_⟩) (by assumption) ?_
  rotate_left 2
  · (simp only [List.getElem?_toArray, List.getElem?_cons_zero]; rfl)
  · first | exact fun _ _ _ h => h | exact fun _ _ _ h => by cases h.1
  · rfl
  · ((intro wq hSq; (try dsimp only at hSq); go_simp); (try with_reducible rfl))
  try simp only [Act.put, List.setIfInBounds_toArray, List.set_cons_zero, List.set_cons_succ]
  refine wpAnyH_take (i := 1) (oi := ?_) (v := ?_) ?_ (by kernel_rfl) (by kernel_rfl) (by kernel_rfl) ?_ (Or.inl ⟨?_, ?_⟩) (by assumption) ?_
  rotate_left 2
  · (simp only [List.getElem?_toArray, List.getElem?_cons_succ, List.getElem?_cons_zero]; rfl)
  · first | exact fun _ _ _ h => h | exact fun _ _ _ h => by cases h.1
  · rfl
  · ((intro wq hSq; (try dsimp only at hSq); go_simp); (try with_reducible rfl))
  try simp only [Act.put, List.setIfInBounds_toArray, List.set_cons_zero, List.set_cons_succ]
  refine wpAnyH_take (i := 2) (oi := ?_) (v := ?_) ?_ (by kernel_rfl) (by kernel_rfl) (by kernel_rfl) ?_ (Or.inl ⟨?_, ?_⟩) (by assumption) ?_
  rotate_left 2
  · (simp only [List.getElem?_toArray, List.getElem?_cons_succ, List.getElem?_cons_zero]; rfl)
  · first | exact fun _ _ _ h => h | exact fun _ _ _ h => by cases h.1
  · rfl
  · ((intro wq hSq; (try dsimp only at hSq); go_simp); (try with_reducible rfl))
  try simp only [Act.put, List.setIfInBounds_toArray, List.set_cons_zero, List.set_cons_succ]
  refine wpAnyH_take (i := 3) (oi := ?_) (v := ?_) ?_ (by kernel_rfl) (by kernel_rfl) (by kernel_rfl) ?_ (Or.inl ⟨?_, ?_⟩) (by assumption) ?_
  rotate_left 2
  · (simp only [List.getElem?_toArray, List.getElem?_cons_succ, List.getElem?_cons_zero]; rfl)
  · first | exact fun _ _ _ h => h | exact fun _ _ _ h => by cases h.1
  · rfl
  · ((intro wq hSq; (try dsimp only at hSq); go_simp); (try with_reducible rfl))
  try simp only [Act.put, List.setIfInBounds_toArray, List.set_cons_zero, List.set_cons_succ]
  refine wpAnyH_take (i := 5) (oi := ?_) (v := ?_) ?_ (by kernel_rfl) (by kernel_rfl) (by kernel_rfl) ?_ (Or.inl ⟨?_, ?_⟩) (by assumption) ?_
  rotate_left 2
  · (simp only [List.getElem?_toArray, List.getElem?_cons_succ, List.getElem?_cons_zero]; rfl)
  · first | exact fun _ _ _ h => h | exact fun _ _ _ h => by cases h.1
  · rfl
  · ((intro wq hSq; (try dsimp only at hSq); go_simp); (try with_reducible rfl))
  try simp only [Act.put, List.setIfInBounds_toArray, List.set_cons_zero, List.set_cons_succ]
  refine wpAnyH_take (i := 6) (oi := ?_) (v := ?_) ?_ (by kernel_rfl) (by kernel_rfl) (by kernel_rfl) ?_ (Or.inl ⟨?_, ?_⟩) (by assumption) ?_
  rotate_left 2
  · (simp only [List.getElem?_toArray, List.getElem?_cons_succ, List.getElem?_cons_zero]; rfl)
  · first | exact fun _ _ _ h => h | exact fun _ _ _ h => by cases h.1
  · rfl
  · ((intro wq hSq; (try dsimp only at hSq); go_simp); (try with_reducible rfl))
  try simp only [Act.put, List.setIfInBounds_toArray, List.set_cons_zero, List.set_cons_succ]
  refine wpAnyH_take (i := 7) (oi := ?_) (v := ?_) ?_ (by kernel_rfl) (by kernel_rfl) (by kernel_rfl) ?_ (Or.inl ⟨?_, ?_⟩) (by assumption) ?_
  rotate_left 2
  · (simp only [List.getElem?_toArray, List.getElem?_cons_succ, List.getElem?_cons_zero]; rfl)
  · first | exact fun _ _ _ h => h | exact fun _ _ _ h => by cases h.1
  · rfl
  · ((intro wq hSq; (try dsimp only at hSq); go_simp); (try with_reducible rfl))
  try simp only [Act.put, List.setIfInBounds_toArray, List.set_cons_zero, List.set_cons_succ]
  refine wpAnyH_take (i := 8) (oi := ?_) (v := ?_) ?_ (by kernel_rfl) (by kernel_rfl) (by kernel_rfl) ?_ (Or.inl ⟨?_, ?_⟩) (by assumption) ?_
  rotate_left 2
  · (simp only [List.getElem?_toArray, List.getElem?_cons_succ, List.getElem?_cons_zero]; rfl)
  · first | exact fun _ _ _ h => h | exact fun _ _ _ h => by cases h.1
  · rfl
  · ((intro wq hSq; (try dsimp only at hSq); go_simp); (try with_reducible rfl))
  try simp only [Act.put, List.setIfInBounds_toArray, List.set_cons_zero, List.set_cons_succ]
  refine wpAnyH_ready (rs := [4]) (by kernel_rfl) (by simp) ?_
  refine AllReadyH.cons (o := ?_) ?_ (fun K hK => ?_) AllReadyH.nil
  rotate_left
  · (simp only [List.getElem?_toArray, List.getElem?_cons_succ, List.getElem?_cons_zero]; rfl)
  go_simp
  go_at_call 45
  refine (c1.out _).mono ?_
  rintro ex wx ⟨rfl, rfl⟩
  have hSx := hHeld
  refine hK.out _ _ hSx (fun hHeld => ?_)
  clear hK K
  try simp only [Act.put, List.setIfInBounds_toArray, List.set_cons_zero, List.set_cons_succ]
  refine wpAnyH_ready (rs := [9]) (by kernel_rfl) (by simp) ?_
  refine AllReadyH.cons (o := ?_) ?_ (fun K hK => ?_) AllReadyH.nil
  rotate_left
  · (simp only [List.getElem?_toArray, List.getElem?_cons_succ, List.getElem?_cons_zero]; rfl)
  go_simp
  go_at_call 45
  refine (c2.out _).mono ?_
  rintro ex wy ⟨rfl, rfl⟩
  have hSx := hHeld
  refine hK.out _ _ hSx (fun hHeld => ?_)
  clear hK K
  try simp only [Act.put, List.setIfInBounds_toArray, List.set_cons_zero, List.set_cons_succ]
  refine wpAnyH_ready (rs := [10]) (by kernel_rfl) (by simp) ?_
  refine AllReadyH.cons (o := ?_) ?_ (fun K hK => ?_) AllReadyH.nil
  rotate_left
  · (simp only [List.getElem?_toArray, List.getElem?_cons_succ, List.getElem?_cons_zero]; rfl)
  go_simp
  have hSx := S2St.below (w1 := w1) (n := n) (m := n + 1) (x := x) (y := y) hHeld ((Below.refl _ wy).alloc (Nat.le_refl _) (.cells #[.int .i64 p1, .int .i64 p2] 3))
  have hor := or_any wy.heap.size p1 p2 (wy.alloc (.cells #[.int .i64 p1, .int .i64 p2] 3)) (by have := cells_new wy #[.int .i64 p1, .int .i64 p2] 3 0; rw [Addr.add_lit, Nat.zero_add] at this; exact this) (by have := cells_new wy #[.int .i64 p1, .int .i64 p2] 3 1; rw [Addr.add_lit, Nat.zero_add] at this; exact this)
  rw [HZ.out] at hor
  refine hK.out _ _ hSx (fun hHeld => ?_)
  clear hK K
  try simp only [Act.put, List.setIfInBounds_toArray, List.set_cons_zero, List.set_cons_succ]
  refine wpAnyH_ready (rs := [11]) (by kernel_rfl) (by simp) ?_
  refine AllReadyH.cons (o := ?_) ?_ (fun K hK => ?_) AllReadyH.nil
  rotate_left
  · (simp only [List.getElem?_toArray, List.getElem?_cons_succ, List.getElem?_cons_zero]; rfl)
  go_simp
  go_at_call 44
  refine hor.mono ?_
  rintro ex wz ⟨rfl, rfl⟩
  have hSx := hHeld
  refine hK.out _ _ hSx (fun hHeld => ?_)
  clear hK K
  try simp only [Act.put, List.setIfInBounds_toArray, List.set_cons_zero, List.set_cons_succ]
  refine wpAnyH_take (i := 12) (oi := ?_) (v := ?_) ?_ (by kernel_rfl) (by kernel_rfl) (by kernel_rfl) ?_ (Or.inl ⟨?_, ?_⟩) (by assumption) ?_
  rotate_left 2
  · (simp only [List.getElem?_toArray, List.getElem?_cons_succ, List.getElem?_cons_zero]; rfl)
  · first | exact fun _ _ _ h => h | exact fun _ _ _ h => by cases h.1
  · rfl
  · ((intro wq hSq; (try dsimp only at hSq); go_simp); (try with_reducible rfl))
  try simp only [Act.put, List.setIfInBounds_toArray, List.set_cons_zero, List.set_cons_succ]
  refine wpAnyH_done (by kernel_rfl) ?_ _
  have hb := hHeld.1
  go_wp2_with fail
  go_ret
  exact ⟨rfl, by have h := hB.trans (hb.mono hB.size); first | exact h | (rw [hn] at h; exact h)⟩

end Go.Proofs.Ytgmmblknaeepbaa

namespace Go.Proofs.Ytgmmblknaeepbaa
open Go.RowKit

/-- A call as it lies in a row, and the place where it stood at first. -/
structure El where
  x : Cl
  A : Option Addr
  c : Nat
  t : Nat
def El.cells (e : El) : List Value := [.int .i64 e.x.p, .int .i64 e.x.o, .int .i64 e.x.q, .slice e.A e.x.r.length e.c, .int .i64 e.x.c, .int .i64 e.x.b, .int .i64 e.x.e]
def flat (L : List El) : List Value := L.flatMap El.cells
theorem flat_len (L : List El) : (flat L).length = L.length * 7 := by
  induction L with
  | nil => rfl
  | cons e L ih =>
    show (e.cells ++ flat L).length = _
    rw [List.length_append, ih, List.length_cons]
    show 7 + _ = _
    omega
theorem flat_get (L : List El) (rest : List Value) : ∀ (k : Nat) (e : El), L[k]? = some e → ∀ j, j < 7 → (flat L ++ rest)[k * 7 + j]? = e.cells[j]? := by
  induction L with
  | nil => intro k e h; simp at h
  | cons a L ih =>
    intro k e h j hj
    have hf : flat (a :: L) ++ rest = a.cells ++ (flat L ++ rest) := by
      show (a.cells ++ flat L) ++ rest = _
      rw [List.append_assoc]
    rw [hf]
    cases k with
    | zero =>
      injection h with h
      subst h
      rw [List.getElem?_append_left (by show 0 * 7 + j < 7; omega), Nat.zero_mul, Nat.zero_add]
    | succ k =>
      rw [List.getElem?_append_right (by show 7 ≤ _; omega)]
      have := ih k e h j hj
      rw [← this]
      congr 1
      show (k + 1) * 7 + j - 7 = _
      omega
/-- A row stored over another one. -/
theorem flat_put (rest : List Value) (e : El) : ∀ (L : List El) (k : Nat), k < L.length → (flat L ++ rest).take (k * 7) ++ e.cells ++ (flat L ++ rest).drop (k * 7 + 7) = flat (L.set k e) ++ rest
  | [], k, h => absurd h (Nat.not_lt_zero _)
  | a :: L, 0, _ => by
    have hf : flat (a :: L) ++ rest = a.cells ++ (flat L ++ rest) := by
      show (a.cells ++ flat L) ++ rest = _
      rw [List.append_assoc]
    have hg : flat ((a :: L).set 0 e) ++ rest = e.cells ++ (flat L ++ rest) := by
      show (e.cells ++ flat L) ++ rest = _
      rw [List.append_assoc]
    rw [hf, hg, Nat.zero_mul, List.take_zero, List.nil_append, Nat.zero_add]
    rw [List.drop_append_of_le_length (by show 7 ≤ 7; omega)]
    rfl
  | a :: L, k + 1, h => by
    have ih := flat_put rest e L k (by simpa using h)
    have hf : flat (a :: L) ++ rest = a.cells ++ (flat L ++ rest) := by
      show (a.cells ++ flat L) ++ rest = _
      rw [List.append_assoc]
    have hg : flat ((a :: L).set (k + 1) e) ++ rest = a.cells ++ (flat (L.set k e) ++ rest) := by
      show (a.cells ++ flat (L.set k e)) ++ rest = _
      rw [List.append_assoc]
    have ha : a.cells.length = 7 := rfl
    rw [hf, hg, ← ih]
    rw [List.take_append, List.drop_append, ha, List.take_of_length_le (by rw [ha]; omega), List.drop_eq_nil_of_le (by rw [ha]; omega), List.nil_append, show (k + 1) * 7 - 7 = k * 7 by omega, show (k + 1) * 7 + 7 - 7 = k * 7 + 7 by omega]
    simp only [List.append_assoc]

/-- The rows of a block. -/
def RowsG (w : World) (g : Nat) (L : List El) : Prop := ∃ rest, w.heap[g]? = some (.cells (flat L ++ rest).toArray 32 (0, 0))
section
variable {w w' : World} {g : Nat} {L : List El}
theorem RowsG.lt (h : RowsG w g L) : g < w.heap.size := by
  obtain ⟨rest, h⟩ := h
  exact (Array.getElem?_eq_some_iff.1 h).1
theorem RowsG.kept (h : RowsG w g L) (hb : Below w.heap.size w w') : RowsG w' g L := by
  have hlt := h.lt
  obtain ⟨rest, h⟩ := h
  exact ⟨rest, (hb.block g hlt).trans h⟩
theorem RowsG.cell (h : RowsG w g L) {k : Nat} {e : El} (hk : L[k]? = some e) (j : Nat) (hj : j < 7) : w.cell? ⟨g, k * 7 + j, none⟩ = e.cells[j]? := by
  obtain ⟨rest, h⟩ := h
  have : w.cell? ⟨g, k * 7 + j, none⟩ = (flat L ++ rest).toArray[k * 7 + j]? := by simp [World.cell?, h]
  rw [this, List.getElem?_toArray, flat_get L rest k e hk j hj]
theorem RowsG.cells (h : RowsG w g L) {k : Nat} {e : El} (hk : L[k]? = some e) : w.cell? ⟨g, k * 7, none⟩ = some (.int .i64 e.x.p) ∧ w.cell? ⟨g, k * 7 + 1, none⟩ = some (.int .i64 e.x.o) ∧ w.cell? ⟨g, k * 7 + 2, none⟩ = some (.int .i64 e.x.q) ∧ w.cell? ⟨g, k * 7 + 3, none⟩ = some (.slice e.A e.x.r.length e.c) ∧ w.cell? ⟨g, k * 7 + 4, none⟩ = some (.int .i64 e.x.c) ∧ w.cell? ⟨g, k * 7 + 5, none⟩ = some (.int .i64 e.x.b) ∧ w.cell? ⟨g, k * 7 + 6, none⟩ = some (.int .i64 e.x.e) :=
  ⟨h.cell hk 0 (by omega), h.cell hk 1 (by omega), h.cell hk 2 (by omega), h.cell hk 3 (by omega), h.cell hk 4 (by omega), h.cell hk 5 (by omega), h.cell hk 6 (by omega)⟩
/-- A row stored. -/
theorem RowsG.store (h : RowsG w g L) (k : Nat) (e : El) (hk : k < L.length) : ∃ arr, (storeVar 32 ⟨g, k * 7, none⟩ (.agg e.cells.toArray)).run Try.prog w = .ok () (w.setRow g arr) ∧ RowsG (w.setRow g arr) g (L.set k e) := by
  obtain ⟨rest, h⟩ := h
  have hs : (Try.prog.info? 32).map (·.size) = some 7 := by kernel_rfl
  have hl : k * 7 + 0 + e.cells.length ≤ (flat L ++ rest).toArray.size := by
    have h7 : e.cells.length = 7 := rfl
    have := flat_len L
    simp only [List.size_toArray, List.length_append]
    omega
  have h1 : ∀ v ∈ e.cells, v.oneCell' = true := fun v hv => by
    simp only [El.cells, List.mem_cons, List.not_mem_nil, or_false] at hv
    rcases hv with rfl | rfl | rfl | rfl | rfl | rfl | rfl <;> rfl
  have hst := run_storeCells_at Try.prog g (k * 7) 32 e.cells 0 _ w h hl h1
  refine ⟨(flat (L.set k e) ++ rest).toArray, ?_, rest, setRow_heap w g _ _ _ _ h⟩
  cases hq : Try.prog.info? 32 with
  | none => rw [hq] at hs; cases hs
  | some i =>
    rw [hq] at hs
    have h7 : i.size = 7 := by simpa using hs
    have hfp := flat_put rest e L k hk
    have h70 : e.cells.length = 7 := rfl
    have hst' : (storeCells ⟨g, k * 7, none⟩ e.cells 0).run Try.prog w = .ok () (w.setRow g (flat (L.set k e) ++ rest).toArray) := by
      rw [hst, ← hfp, h70, Nat.add_zero]
    have hc : (Value.agg e.cells.toArray).cells.toList = e.cells := rfl
    simp [storeVar, sizeOf, typeInfo, hq, h7, hst', h70, Value.cells]
end

end Go.Proofs.Ytgmmblknaeepbaa

namespace Go.Proofs.Ytgmmblknaeepbaa
open Go.RowKit

/-- Stands before: by its beginning, its process, and where it stood at first. -/
def ltE (e f : El) : Prop := e.x.b < f.x.b ∨ (e.x.b = f.x.b ∧ (e.x.p < f.x.p ∨ (e.x.p = f.x.p ∧ e.t < f.t)))
theorem ltE_irr (e : El) : ¬ ltE e e := by unfold ltE; omega
theorem ltE_tr (e f h : El) : ltE e f → ltE f h → ltE e h := by unfold ltE; omega
theorem cmpC_neg (x y : Cl) : cmpC x y < 0 ↔ (x.b < y.b ∨ (x.b = y.b ∧ x.p < y.p)) := by
  unfold cmpC cmpI
  by_cases h1 : x.b < y.b
  · rw [if_pos h1, if_pos (by omega)]; omega
  · by_cases h2 : y.b < x.b
    · rw [if_neg h1, if_pos h2, if_pos (by omega)]; omega
    · rw [if_neg h1, if_neg h2, if_neg (by omega)]
      by_cases h3 : x.p < y.p
      · rw [if_pos h3]; omega
      · by_cases h4 : y.p < x.p
        · rw [if_neg h3, if_pos h4]; omega
        · rw [if_neg h3, if_neg h4]; omega
theorem cmpC_range (x y : Cl) : -1 ≤ cmpC x y ∧ cmpC x y ≤ 1 := by
  unfold cmpC cmpI
  repeat' split
  all_goals omega
/-- What comes later at first stands before only if it is less. -/
theorem ltE_later {e f : El} (h : e.t < f.t) : ltE f e ↔ cmpC f.x e.x < 0 := by
  rw [cmpC_neg]
  unfold ltE
  omega
theorem ltE_else {e f : El} (h : e.t < f.t) (hc : ¬ cmpC f.x e.x < 0) : ltE e f := by
  rw [cmpC_neg] at hc
  unfold ltE
  omega

theorem so_wrap {x : Int} (h0 : 0 ≤ x) (h : x < 9223372036854775808) : IntKind.i64.wrap x = x := by
  simp [IntKind.wrap, IntKind.signed, IntKind.bits]
  omega

/-- All blocks but one are as they were. -/
structure KpG (g : Nat) (w w' : World) : Prop where
  size : w.heap.size ≤ w'.heap.size
  block : ∀ i, i < w.heap.size → i ≠ g → w'.heap[i]? = w.heap[i]?
  below : ∀ N, N ≤ g → N ≤ w.heap.size → Below N w w'
theorem KpG.refl (g : Nat) (w : World) : KpG g w w := ⟨Nat.le_refl _, fun _ _ _ => rfl, fun _ _ _ => Below.refl _ _⟩
theorem KpG.trans {g : Nat} {w w1 w2 : World} (h1 : KpG g w w1) (h2 : KpG g w1 w2) : KpG g w w2 :=
  ⟨Nat.le_trans h1.size h2.size, fun i hi hg => (h2.block i (Nat.lt_of_lt_of_le hi h1.size) hg).trans (h1.block i hi hg), fun N hN hs => (h1.below N hN hs).trans (h2.below N hN (Nat.le_trans hs h1.size))⟩
theorem KpG.of {g : Nat} {w w' : World} (h : Below w.heap.size w w') : KpG g w w' := ⟨h.size, fun i hi _ => h.block i hi, fun _ _ hs => h.mono hs⟩
theorem KpG.row {g : Nat} {w w' : World} (h : KpG g w w') (arr : Array Value) : KpG g w (w'.setRow g arr) :=
  ⟨by rw [setRow_size]; exact h.size, fun i hi hg => (setRow_other _ _ _ _ hg).trans (h.block i hi hg), fun N hN hs => by
    have hb := h.below N hN hs
    exact ⟨hb.1, hb.2, hb.3, by rw [setRow_size]; exact hb.size, fun i hi => (setRow_other _ _ _ _ (by omega)).trans (hb.block i hi)⟩⟩
/-- A store whose way through memory is known. -/
theorem step_store_at {P : Program} {w w2 : World} {ops : Array Oper} {o : Oper} {a : Act} {K : Act → World → Prop} {Q : Exit → Act → World → Prop} {E : Prop} (hgd : o.guard = none) (ty : TypeId) (x y : Operand) (ho : o.op = .store ty x y)
    (ad : Addr) (v : Value) (hx : a.eval x = .pointer (some ad)) (hy : a.eval y = v) (hst : (storeVar ty ad v).run P w = .ok () w2)
    (h : K (a.put o.dst undef) w2) : if Region.wanted o (yielded ops a.tmps) = true then Oper.wp P o a w K Q else E := by
  have hw : Region.wanted o (yielded ops a.tmps) = true := by simp [Region.wanted, hgd]
  rw [if_pos hw]
  unfold Oper.wp execOp
  simp only [ho, hx, hy, Instr.storeAt, Instr.sureAddr, Sem.run_bind, Sem.run_pure, Result.andThen_ok, hst]
  exact h
/-- An element moved one place to the left. -/
theorem swap_set {S1 S2 : List El} {y x : El} (P R : List El) : ((P ++ (S1 ++ [y]) ++ x :: S2 ++ R).set (P.length + S1.length + 1) y).set (P.length + S1.length) x = P ++ S1 ++ x :: (y :: S2) ++ R := by
  have e1 : P ++ (S1 ++ [y]) ++ x :: S2 ++ R = (P ++ S1) ++ y :: x :: (S2 ++ R) := by simp
  have e2 : P ++ S1 ++ x :: (y :: S2) ++ R = (P ++ S1) ++ x :: y :: (S2 ++ R) := by simp
  have hl : P.length + S1.length = (P ++ S1).length := by simp
  rw [e1, e2, hl, List.set_append_right _ _ (by omega), show (P ++ S1).length + 1 - (P ++ S1).length = 1 by omega, List.set_cons_succ, List.set_cons_zero, List.set_append_right _ _ (by omega), Nat.sub_self, List.set_cons_zero]

end Go.Proofs.Ytgmmblknaeepbaa

namespace Go.Proofs.Ytgmmblknaeepbaa
open Go.RowKit
attribute [local go_sem] Oper.semAt_some

set_option maxRecDepth 100000 in
set_option maxHeartbeats 8000000 in
theorem insert_any (g cap a n N : Nat) (P S0 R : List El) (w : World) (hg : RowsG w g (P ++ S0 ++ R)) (htag : S0.Pairwise fun e f => e.t < f.t) (ha : P.length = a) (hn : S0.length = n) (hN : P.length + S0.length + R.length = N) (_hcap : N ≤ cap) (hbig : N ≤ 100000) :
    Calls Try.prog 70 #[.slice (some ⟨g, 0, none⟩) N cap, .int .i64 (a : Int), .int .i64 ((a + n : Nat) : Int), .func (.func 43) #[] #[]] w fun e w' => e = .returned (.tuple #[]) ∧ ∃ S', RowsG w' g (P ++ S' ++ R) ∧ S'.Perm S0 ∧ Srt ltE S' ∧ KpG g w w' := by
  have HG := Lib.hid hg
  have HT := Lib.hid htag
  have HA := Lib.hid ha
  have HNN := Lib.hid hn
  have HN := Lib.hid hN
  have haN : a + n ≤ N := by omega
  obtain ⟨m, hm⟩ : ∃ m, a + n = m := ⟨_, rfl⟩
  rw [hm]
  have HM := Lib.hid hm
  clear hg htag ha hn hN hm
  go_enter Try.func70, Try.ntmps70
  go_wp2_with fail
  go_loopw [8, 9] (fun i _ wr => ∃ k : Nat, 1 ≤ k ∧ (k ≤ n ∨ k = 1) ∧ i = .int .i64 ((a + k : Nat) : Int) ∧ (∃ S, S.Perm (S0.take k) ∧ Srt ltE S ∧ RowsG wr g (P ++ S ++ (S0.drop k ++ R))) ∧ KpG g w wr) (fun i _ _ => m - (intOf i).toNat)
  case atStart =>
    refine ⟨1, Nat.le_refl _, .inr rfl, by go_num, ⟨S0.take 1, List.Perm.refl _, ?_, ?_⟩, KpG.refl _ _⟩
    · rcases S0 with _ | ⟨e, t⟩
      · exact List.Pairwise.nil
      · exact List.pairwise_singleton _ _
    · have := HG.out
      rwa [← List.append_assoc, List.append_assoc P, List.take_append_drop]
  case round =>
    obtain ⟨k, hk1, hkn, rfl, ⟨S, hp, hs, hr⟩, hkp⟩ := hrel
    by_cases hlt : k < n
    · obtain ⟨x, hx⟩ := get_some (show k < S0.length by rw [HNN.out]; exact hlt)
      have hdr : S0.drop k = x :: S0.drop (k + 1) := by
        have := List.drop_eq_getElem_cons (show k < S0.length by rw [HNN.out]; exact hlt)
        rw [this]
        rw [List.getElem?_eq_getElem (show k < S0.length by rw [HNN.out]; exact hlt)] at hx
        rw [Option.some.inj hx]
      rw [hdr] at hr
      obtain ⟨R2, hR2⟩ : ∃ R2, S0.drop (k + 1) ++ R = R2 := ⟨_, rfl⟩
      rw [List.cons_append, hR2] at hr
      have HX := Lib.hid hx
      have HR2 := Lib.hid hR2
      have HP := Lib.hid hp
      have HS := Lib.hid hs
      have hkl : S.length = k := by rw [hp.length_eq, List.length_take, HNN.out]; omega
      have HKL := Lib.hid hkl
      obtain ⟨i, hi⟩ : ∃ i, a + k = i := ⟨_, rfl⟩
      have him : i < m := by have := HM.out; omega
      have him2 : (i : Int) < (m : Int) := by omega
      have him3 : decide ((i : Int) < (m : Int)) = true := decide_eq_true him2
      have HI := Lib.hid hi
      have hin : i < N := by omega
      rw [hi]
      clear hx hdr hR2 hp hs hkl hi hk1 hkn
      go_wp2_with fail
      go_loopw [9] (fun j wq => ∃ S1 S2, S = S1 ++ S2 ∧ j = .int .i64 ((a + S1.length : Nat) : Int) ∧ RowsG wq g (P ++ S1 ++ x :: S2 ++ R2) ∧ (∀ y ∈ S2, ltE x y) ∧ KpG g w wq) (fun j _ => (intOf j).toNat)
      case atStart => exact ⟨S, [], by simp, by rw [HKL.out, HI.out], by simpa using hr, (fun y hy => by cases hy), hkp⟩
      case round =>
        clear hr hkp
        obtain ⟨S1, S2, hS, rfl, hq, hlow, hkq⟩ := hrel
        rcases List.eq_nil_or_concat S1 with rfl | ⟨S1', y, rfl⟩
        · simp only [List.length_nil, Nat.add_zero, List.append_nil, List.nil_append] at hq hS ⊢
          have haa : decide ((a : Int) < (a : Int)) = false := by simp
          have HQ := Lib.hid hq
          have HSE := Lib.hid hS
          have HL := Lib.hid hlow
          have HK := Lib.hid hkq
          clear hq hS hlow hkq
          have hSd : (fun _ : World => True) wr.drew := trivial
          go_wp2_with fail
          refine wp_region_held_drew (S := fun _ => True) (by kernel_rfl) hSd (fun hHeld => ?_)
          refine wpAnyH_take (i := 0) (oi := ?_) (v := ?_) ?_ (by kernel_rfl) (by kernel_rfl) (by kernel_rfl) ?_ (Or.inl ⟨?_, ?_⟩) (by assumption) ?_
          rotate_left 2
          · (simp only [List.getElem?_toArray, List.getElem?_cons_zero]; rfl)
          · first | exact fun _ _ _ h => h | exact fun _ _ _ h => by cases h.1
          · rfl
          · ((intro wq hSq; (try dsimp only at hSq); go_simp); (try with_reducible rfl))
          try simp only [Act.put, List.setIfInBounds_toArray, List.set_cons_zero, List.set_cons_succ]
          refine wpAnyH_take (i := 1) (oi := ?_) (v := ?_) ?_ (by kernel_rfl) (by kernel_rfl) (by kernel_rfl) ?_ (Or.inl ⟨?_, ?_⟩) (by assumption) ?_
          rotate_left 2
          · (simp only [List.getElem?_toArray, List.getElem?_cons_succ, List.getElem?_cons_zero]; rfl)
          · first | exact fun _ _ _ h => h | exact fun _ _ _ h => by cases h.1
          · rfl
          · ((intro wq hSq; (try dsimp only at hSq); go_simp); (try with_reducible rfl))
          try simp only [Act.put, List.setIfInBounds_toArray, List.set_cons_zero, List.set_cons_succ]
          refine wpAnyH_take (i := 2) (oi := ?_) (v := ?_) ?_ (by kernel_rfl) (by kernel_rfl) (by kernel_rfl) ?_ (Or.inl ⟨?_, ?_⟩) (by assumption) ?_
          rotate_left 2
          · (simp only [List.getElem?_toArray, List.getElem?_cons_succ, List.getElem?_cons_zero]; rfl)
          · first | exact fun _ _ _ h => h | exact fun _ _ _ h => by cases h.1
          · rfl
          · ((intro wq hSq; (try dsimp only at hSq); go_simp); (try with_reducible rfl))
          try simp only [Act.put, List.setIfInBounds_toArray, List.set_cons_zero, List.set_cons_succ]
          refine wpAnyH_take (i := 3) (oi := ?_) (v := ?_) ?_ (by kernel_rfl) (by kernel_rfl) (by kernel_rfl) ?_ (Or.inl ⟨?_, ?_⟩) (by assumption) ?_
          rotate_left 2
          · (simp only [List.getElem?_toArray, List.getElem?_cons_succ, List.getElem?_cons_zero]; rfl)
          · first | exact fun _ _ _ h => h | exact fun _ _ _ h => by cases h.1
          · rfl
          · ((intro wq hSq; (try dsimp only at hSq); go_simp); (try with_reducible rfl))
          try simp only [Act.put, List.setIfInBounds_toArray, List.set_cons_zero, List.set_cons_succ]
          refine wpAnyH_take (i := 4) (oi := ?_) (v := undef) ?_ (by kernel_rfl) (by kernel_rfl) (by kernel_rfl) ?_ (Or.inr ⟨?_, rfl⟩) (by assumption) ?_
          rotate_left 1
          · (simp only [List.getElem?_toArray, List.getElem?_cons_succ, List.getElem?_cons_zero]; rfl)
          · first | exact fun _ _ _ h => h | exact fun _ _ _ h => by cases h.1
          · rfl
          try simp only [Act.put, List.setIfInBounds_toArray, List.set_cons_zero, List.set_cons_succ]
          refine wpAnyH_take (i := 5) (oi := ?_) (v := undef) ?_ (by kernel_rfl) (by kernel_rfl) (by kernel_rfl) ?_ (Or.inr ⟨?_, rfl⟩) (by assumption) ?_
          rotate_left 1
          · (simp only [List.getElem?_toArray, List.getElem?_cons_succ, List.getElem?_cons_zero]; rfl)
          · first | exact fun _ _ _ h => h | exact fun _ _ _ h => by cases h.1
          · rfl
          try simp only [Act.put, List.setIfInBounds_toArray, List.set_cons_zero, List.set_cons_succ]
          refine wpAnyH_take (i := 6) (oi := ?_) (v := undef) ?_ (by kernel_rfl) (by kernel_rfl) (by kernel_rfl) ?_ (Or.inr ⟨?_, rfl⟩) (by assumption) ?_
          rotate_left 1
          · (simp only [List.getElem?_toArray, List.getElem?_cons_succ, List.getElem?_cons_zero]; rfl)
          · first | exact fun _ _ _ h => h | exact fun _ _ _ h => by cases h.1
          · rfl
          try simp only [Act.put, List.setIfInBounds_toArray, List.set_cons_zero, List.set_cons_succ]
          refine wpAnyH_take (i := 7) (oi := ?_) (v := undef) ?_ (by kernel_rfl) (by kernel_rfl) (by kernel_rfl) ?_ (Or.inr ⟨?_, rfl⟩) (by assumption) ?_
          rotate_left 1
          · (simp only [List.getElem?_toArray, List.getElem?_cons_succ, List.getElem?_cons_zero]; rfl)
          · first | exact fun _ _ _ h => h | exact fun _ _ _ h => by cases h.1
          · rfl
          try simp only [Act.put, List.setIfInBounds_toArray, List.set_cons_zero, List.set_cons_succ]
          refine wpAnyH_take (i := 8) (oi := ?_) (v := undef) ?_ (by kernel_rfl) (by kernel_rfl) (by kernel_rfl) ?_ (Or.inr ⟨?_, rfl⟩) (by assumption) ?_
          rotate_left 1
          · (simp only [List.getElem?_toArray, List.getElem?_cons_succ, List.getElem?_cons_zero]; rfl)
          · first | exact fun _ _ _ h => h | exact fun _ _ _ h => by cases h.1
          · rfl
          try simp only [Act.put, List.setIfInBounds_toArray, List.set_cons_zero, List.set_cons_succ]
          refine wpAnyH_take (i := 9) (oi := ?_) (v := undef) ?_ (by kernel_rfl) (by kernel_rfl) (by kernel_rfl) ?_ (Or.inr ⟨?_, rfl⟩) (by assumption) ?_
          rotate_left 1
          · (simp only [List.getElem?_toArray, List.getElem?_cons_succ, List.getElem?_cons_zero]; rfl)
          · first | exact fun _ _ _ h => h | exact fun _ _ _ h => by cases h.1
          · rfl
          try simp only [Act.put, List.setIfInBounds_toArray, List.set_cons_zero, List.set_cons_succ]
          refine wpAnyH_take (i := 10) (oi := ?_) (v := undef) ?_ (by kernel_rfl) (by kernel_rfl) (by kernel_rfl) ?_ (Or.inr ⟨?_, rfl⟩) (by assumption) ?_
          rotate_left 1
          · (simp only [List.getElem?_toArray, List.getElem?_cons_succ, List.getElem?_cons_zero]; rfl)
          · first | exact fun _ _ _ h => h | exact fun _ _ _ h => by cases h.1
          · rfl
          try simp only [Act.put, List.setIfInBounds_toArray, List.set_cons_zero, List.set_cons_succ]
          refine wpAnyH_take (i := 11) (oi := ?_) (v := undef) ?_ (by kernel_rfl) (by kernel_rfl) (by kernel_rfl) ?_ (Or.inr ⟨?_, rfl⟩) (by assumption) ?_
          rotate_left 1
          · (simp only [List.getElem?_toArray, List.getElem?_cons_succ, List.getElem?_cons_zero]; rfl)
          · first | exact fun _ _ _ h => h | exact fun _ _ _ h => by cases h.1
          · rfl
          try simp only [Act.put, List.setIfInBounds_toArray, List.set_cons_zero, List.set_cons_succ]
          refine wpAnyH_take (i := 12) (oi := ?_) (v := undef) ?_ (by kernel_rfl) (by kernel_rfl) (by kernel_rfl) ?_ (Or.inr ⟨?_, rfl⟩) (by assumption) ?_
          rotate_left 1
          · (simp only [List.getElem?_toArray, List.getElem?_cons_succ, List.getElem?_cons_zero]; rfl)
          · first | exact fun _ _ _ h => h | exact fun _ _ _ h => by cases h.1
          · rfl
          try simp only [Act.put, List.setIfInBounds_toArray, List.set_cons_zero, List.set_cons_succ]
          refine wpAnyH_take (i := 13) (oi := ?_) (v := undef) ?_ (by kernel_rfl) (by kernel_rfl) (by kernel_rfl) ?_ (Or.inr ⟨?_, rfl⟩) (by assumption) ?_
          rotate_left 1
          · (simp only [List.getElem?_toArray, List.getElem?_cons_succ, List.getElem?_cons_zero]; rfl)
          · first | exact fun _ _ _ h => h | exact fun _ _ _ h => by cases h.1
          · rfl
          try simp only [Act.put, List.setIfInBounds_toArray, List.set_cons_zero, List.set_cons_succ]
          refine wpAnyH_take (i := 14) (oi := ?_) (v := undef) ?_ (by kernel_rfl) (by kernel_rfl) (by kernel_rfl) ?_ (Or.inr ⟨?_, rfl⟩) (by assumption) ?_
          rotate_left 1
          · (simp only [List.getElem?_toArray, List.getElem?_cons_succ, List.getElem?_cons_zero]; rfl)
          · first | exact fun _ _ _ h => h | exact fun _ _ _ h => by cases h.1
          · rfl
          try simp only [Act.put, List.setIfInBounds_toArray, List.set_cons_zero, List.set_cons_succ]
          refine wpAnyH_take (i := 15) (oi := ?_) (v := undef) ?_ (by kernel_rfl) (by kernel_rfl) (by kernel_rfl) ?_ (Or.inr ⟨?_, rfl⟩) (by assumption) ?_
          rotate_left 1
          · (simp only [List.getElem?_toArray, List.getElem?_cons_succ, List.getElem?_cons_zero]; rfl)
          · first | exact fun _ _ _ h => h | exact fun _ _ _ h => by cases h.1
          · rfl
          try simp only [Act.put, List.setIfInBounds_toArray, List.set_cons_zero, List.set_cons_succ]
          refine wpAnyH_take (i := 16) (oi := ?_) (v := ?_) ?_ (by kernel_rfl) (by kernel_rfl) (by kernel_rfl) ?_ (Or.inl ⟨?_, ?_⟩) (by assumption) ?_
          rotate_left 2
          · (simp only [List.getElem?_toArray, List.getElem?_cons_succ, List.getElem?_cons_zero]; rfl)
          · first | exact fun _ _ _ h => h | exact fun _ _ _ h => by cases h.1
          · rfl
          · ((intro wq hSq; (try dsimp only at hSq); go_simp); (try with_reducible rfl))
          try simp only [Act.put, List.setIfInBounds_toArray, List.set_cons_zero, List.set_cons_succ]
          refine wpAnyH_done (by kernel_rfl) ?_ _
          have hr' := HQ.out.kept (Below.refl _ wr).drew
          have hk' := HK.out.trans (KpG.of (Below.refl _ wr).drew)
          go_wp2_with fail
          go_roundw
          case rel =>
            refine ⟨k + 1, by omega, .inl (by omega), val_int (by have := HI.out; omega), ⟨x :: S2, ?_, ?_, ?_⟩, hk'⟩
            · rw [take_snoc HX.out]
              have h1 := HP.out
              rw [HSE.out] at h1
              exact ((List.perm_cons x).2 h1).trans (List.perm_append_singleton x _).symm
            · have h1 := HS.out
              rw [HSE.out] at h1
              exact List.pairwise_cons.2 ⟨HL.out, h1⟩
            · rw [HR2.out]
              exact hr'
          case measure => simp [intOf]; omega
        · simp only [List.concat_eq_append] at hS hq ⊢
          rw [show a + (S1' ++ [y]).length = a + S1'.length + 1 by simp; omega]
          obtain ⟨p, hp2⟩ : ∃ p, a + S1'.length = p := ⟨_, rfl⟩
          rw [hp2]
          have hlen : (P ++ (S1' ++ [y]) ++ x :: S2 ++ R2).length = N := by
            have h1 := congrArg List.length hS
            have h2 := congrArg List.length HR2.out
            simp only [List.length_append, List.length_cons, List.length_nil, List.length_drop] at h1 h2 ⊢
            have := HA.out
            have := HNN.out
            have := HN.out
            have := HKL.out
            omega
          have hPp : P.length + S1'.length = p := by rw [HA.out]; exact hp2
          have hly : (P ++ (S1' ++ [y]) ++ x :: S2 ++ R2)[p]? = some y := by
            rw [show P ++ (S1' ++ [y]) ++ x :: S2 ++ R2 = (P ++ S1') ++ y :: x :: (S2 ++ R2) by simp, ← hPp, List.getElem?_append_right (by simp)]
            simp
          have hlx : (P ++ (S1' ++ [y]) ++ x :: S2 ++ R2)[p + 1]? = some x := by
            rw [show P ++ (S1' ++ [y]) ++ x :: S2 ++ R2 = (P ++ S1') ++ y :: x :: (S2 ++ R2) by simp, ← hPp, List.getElem?_append_right (by simp <;> omega)]
            simp [show P.length + S1'.length + 1 - (P.length + S1'.length) = 1 by omega]
          have hpN : p + 1 < N := by rw [← hlen]; exact get_lt hlx
          have hap : a < p + 1 := by omega
          have j1 : decide ((a : Int) < (p : Int) + 1) = true := by rw [decide_eq_true_iff]; omega
          have j2 : decide (a < p + 1) = true := decide_eq_true hap
          have j3 : (a : Int) < (p : Int) + 1 := by omega
          have j4 : (p : Int) + 1 < (N : Int) := by omega
          have j5 : (p : Int) < (N : Int) := by omega
          have j6 : p < N := by omega
          have j7 : (0 : Int) ≤ (p : Int) + 1 := by omega
          have j8 : (0 : Int) ≤ (p : Int) := by omega
          have jw : IntKind.i64.wrap (p : Int) = (p : Int) := so_wrap (by omega) (by omega)
          have hcm := fun W => scmp_any x.x y.x x.A y.A x.c y.c W
          unfold clV at hcm
          obtain ⟨q, hcq⟩ : ∃ q, cmpC x.x y.x = q := ⟨_, rfl⟩
          rw [hcq] at hcm
          have HCM := Lib.hid hcm
          have HCQ := Lib.hid hcq
          have hxd := (hq.kept (Below.refl _ wr).drew).cells hlx
          have hyd := (hq.kept (Below.refl _ wr).drew).cells hly
          have hSd : (fun w' => Below wr.heap.size wr w' ∧ (w'.cell? ⟨g, (p + 1) * 7, none⟩ = some (.int .i64 x.x.p) ∧ w'.cell? ⟨g, (p + 1) * 7 + 1, none⟩ = some (.int .i64 x.x.o) ∧ w'.cell? ⟨g, (p + 1) * 7 + 2, none⟩ = some (.int .i64 x.x.q) ∧ w'.cell? ⟨g, (p + 1) * 7 + 3, none⟩ = some (.slice x.A x.x.r.length x.c) ∧ w'.cell? ⟨g, (p + 1) * 7 + 4, none⟩ = some (.int .i64 x.x.c) ∧ w'.cell? ⟨g, (p + 1) * 7 + 5, none⟩ = some (.int .i64 x.x.b) ∧ w'.cell? ⟨g, (p + 1) * 7 + 6, none⟩ = some (.int .i64 x.x.e)) ∧ (w'.cell? ⟨g, p * 7, none⟩ = some (.int .i64 y.x.p) ∧ w'.cell? ⟨g, p * 7 + 1, none⟩ = some (.int .i64 y.x.o) ∧ w'.cell? ⟨g, p * 7 + 2, none⟩ = some (.int .i64 y.x.q) ∧ w'.cell? ⟨g, p * 7 + 3, none⟩ = some (.slice y.A y.x.r.length y.c) ∧ w'.cell? ⟨g, p * 7 + 4, none⟩ = some (.int .i64 y.x.c) ∧ w'.cell? ⟨g, p * 7 + 5, none⟩ = some (.int .i64 y.x.b) ∧ w'.cell? ⟨g, p * 7 + 6, none⟩ = some (.int .i64 y.x.e))) wr.drew := ⟨(Below.refl _ wr).drew, hxd, hyd⟩
          have HQ := Lib.hid hq
          have HSE := Lib.hid hS
          have HL := Lib.hid hlow
          have HK := Lib.hid hkq
          have HLX := Lib.hid hlx
          have HLY := Lib.hid hly
          have HPP := Lib.hid hPp
          have HLEN := Lib.hid hlen
          have HP2 := Lib.hid hp2
          clear hq hS hlow hkq hcm hcq hxd hyd hlx hly hPp hlen hp2
          rcases hneg : decide (q < 0) with _ | _
          · go_wp2_with fail
            refine wp_region_held_drew (S := fun w' => Below wr.heap.size wr w' ∧ (w'.cell? ⟨g, (p + 1) * 7, none⟩ = some (.int .i64 x.x.p) ∧ w'.cell? ⟨g, (p + 1) * 7 + 1, none⟩ = some (.int .i64 x.x.o) ∧ w'.cell? ⟨g, (p + 1) * 7 + 2, none⟩ = some (.int .i64 x.x.q) ∧ w'.cell? ⟨g, (p + 1) * 7 + 3, none⟩ = some (.slice x.A x.x.r.length x.c) ∧ w'.cell? ⟨g, (p + 1) * 7 + 4, none⟩ = some (.int .i64 x.x.c) ∧ w'.cell? ⟨g, (p + 1) * 7 + 5, none⟩ = some (.int .i64 x.x.b) ∧ w'.cell? ⟨g, (p + 1) * 7 + 6, none⟩ = some (.int .i64 x.x.e)) ∧ (w'.cell? ⟨g, p * 7, none⟩ = some (.int .i64 y.x.p) ∧ w'.cell? ⟨g, p * 7 + 1, none⟩ = some (.int .i64 y.x.o) ∧ w'.cell? ⟨g, p * 7 + 2, none⟩ = some (.int .i64 y.x.q) ∧ w'.cell? ⟨g, p * 7 + 3, none⟩ = some (.slice y.A y.x.r.length y.c) ∧ w'.cell? ⟨g, p * 7 + 4, none⟩ = some (.int .i64 y.x.c) ∧ w'.cell? ⟨g, p * 7 + 5, none⟩ = some (.int .i64 y.x.b) ∧ w'.cell? ⟨g, p * 7 + 6, none⟩ = some (.int .i64 y.x.e))) (by kernel_rfl) hSd (fun hHeld => ?_)
            generalize wr.drew = wd at hHeld ⊢
            have hHeld : (fun w' => Below wr.heap.size wr w' ∧ (w'.cell? ⟨g, (p + 1) * 7, none⟩ = some (.int .i64 x.x.p) ∧ w'.cell? ⟨g, (p + 1) * 7 + 1, none⟩ = some (.int .i64 x.x.o) ∧ w'.cell? ⟨g, (p + 1) * 7 + 2, none⟩ = some (.int .i64 x.x.q) ∧ w'.cell? ⟨g, (p + 1) * 7 + 3, none⟩ = some (.slice x.A x.x.r.length x.c) ∧ w'.cell? ⟨g, (p + 1) * 7 + 4, none⟩ = some (.int .i64 x.x.c) ∧ w'.cell? ⟨g, (p + 1) * 7 + 5, none⟩ = some (.int .i64 x.x.b) ∧ w'.cell? ⟨g, (p + 1) * 7 + 6, none⟩ = some (.int .i64 x.x.e)) ∧ (w'.cell? ⟨g, p * 7, none⟩ = some (.int .i64 y.x.p) ∧ w'.cell? ⟨g, p * 7 + 1, none⟩ = some (.int .i64 y.x.o) ∧ w'.cell? ⟨g, p * 7 + 2, none⟩ = some (.int .i64 y.x.q) ∧ w'.cell? ⟨g, p * 7 + 3, none⟩ = some (.slice y.A y.x.r.length y.c) ∧ w'.cell? ⟨g, p * 7 + 4, none⟩ = some (.int .i64 y.x.c) ∧ w'.cell? ⟨g, p * 7 + 5, none⟩ = some (.int .i64 y.x.b) ∧ w'.cell? ⟨g, p * 7 + 6, none⟩ = some (.int .i64 y.x.e))) wd := hHeld
            refine wpAnyH_take (i := 0) (oi := ?_) (v := ?_) ?_ (by kernel_rfl) (by kernel_rfl) (by kernel_rfl) ?_ (Or.inl ⟨?_, ?_⟩) (by assumption) ?_
            rotate_left 2
            · (simp only [List.getElem?_toArray, List.getElem?_cons_zero]; rfl)
            · first | exact fun _ _ _ h => h | exact fun _ _ _ h => by cases h.1
            · rfl
            · ((intro wq hSq; (try dsimp only at hSq); go_simp); (try with_reducible rfl))
            try simp only [Act.put, List.setIfInBounds_toArray, List.set_cons_zero, List.set_cons_succ]
            refine wpAnyH_take (i := 1) (oi := ?_) (v := ?_) ?_ (by kernel_rfl) (by kernel_rfl) (by kernel_rfl) ?_ (Or.inl ⟨?_, ?_⟩) (by assumption) ?_
            rotate_left 2
            · (simp only [List.getElem?_toArray, List.getElem?_cons_succ, List.getElem?_cons_zero]; rfl)
            · first | exact fun _ _ _ h => h | exact fun _ _ _ h => by cases h.1
            · rfl
            · ((intro wq hSq; (try dsimp only at hSq); go_simp); (try with_reducible rfl))
            try simp only [Act.put, List.setIfInBounds_toArray, List.set_cons_zero, List.set_cons_succ]
            refine wpAnyH_take (i := 2) (oi := ?_) (v := ?_) ?_ (by kernel_rfl) (by kernel_rfl) (by kernel_rfl) ?_ (Or.inl ⟨?_, ?_⟩) (by assumption) ?_
            rotate_left 2
            · (simp only [List.getElem?_toArray, List.getElem?_cons_succ, List.getElem?_cons_zero]; rfl)
            · first | exact fun _ _ _ h => h | exact fun _ _ _ h => by cases h.1
            · rfl
            · ((intro wq hSq; (try dsimp only at hSq); go_simp); (try with_reducible rfl))
            try simp only [Act.put, List.setIfInBounds_toArray, List.set_cons_zero, List.set_cons_succ]
            refine wpAnyH_take (i := 3) (oi := ?_) (v := ?_) ?_ (by kernel_rfl) (by kernel_rfl) (by kernel_rfl) ?_ (Or.inl ⟨?_, ?_⟩) (by assumption) ?_
            rotate_left 2
            · (simp only [List.getElem?_toArray, List.getElem?_cons_succ, List.getElem?_cons_zero]; rfl)
            · first | exact fun _ _ _ h => h | exact fun _ _ _ h => by cases h.1
            · rfl
            · ((intro wq hSq; (try dsimp only at hSq); go_simp); (try with_reducible rfl))
            try simp only [Act.put, List.setIfInBounds_toArray, List.set_cons_zero, List.set_cons_succ]
            refine wpAnyH_take (i := 4) (oi := ?_) (v := ?_) ?_ (by kernel_rfl) (by kernel_rfl) (by kernel_rfl) ?_ (Or.inl ⟨?_, ?_⟩) (by assumption) ?_
            rotate_left 2
            · (simp only [List.getElem?_toArray, List.getElem?_cons_succ, List.getElem?_cons_zero]; rfl)
            · first | exact fun _ _ _ h => h | exact fun _ _ _ h => by cases h.1
            · rfl
            · ((intro wq hSq; (try dsimp only at hSq); go_simp); (try with_reducible rfl))
            try simp only [Act.put, List.setIfInBounds_toArray, List.set_cons_zero, List.set_cons_succ]
            refine wpAnyH_take (i := 5) (oi := ?_) (v := ?_) ?_ (by kernel_rfl) (by kernel_rfl) (by kernel_rfl) ?_ (Or.inl ⟨?_, ?_⟩) (by assumption) ?_
            rotate_left 2
            · (simp only [List.getElem?_toArray, List.getElem?_cons_succ, List.getElem?_cons_zero]; rfl)
            · first | exact fun _ _ _ h => h | exact fun _ _ _ h => by cases h.1
            · rfl
            · ((intro wq hSq; (try dsimp only at hSq); go_simp); (try with_reducible rfl))
            try simp only [Act.put, List.setIfInBounds_toArray, List.set_cons_zero, List.set_cons_succ]
            refine wpAnyH_take (i := 6) (oi := ?_) (v := ?_) ?_ (by kernel_rfl) (by kernel_rfl) (by kernel_rfl) ?_ (Or.inl ⟨?_, ?_⟩) (by assumption) ?_
            rotate_left 2
            · (simp only [List.getElem?_toArray, List.getElem?_cons_succ, List.getElem?_cons_zero]; rfl)
            · first | exact fun _ _ _ h => h | exact fun _ _ _ h => by cases h.1
            · rfl
            · ((intro wq hSq; (try dsimp only at hSq); go_simp); (try with_reducible rfl))
            try simp only [Act.put, List.setIfInBounds_toArray, List.set_cons_zero, List.set_cons_succ]
            refine wpAnyH_take (i := 7) (oi := ?_) (v := ?_) ?_ (by kernel_rfl) (by kernel_rfl) (by kernel_rfl) ?_ (Or.inl ⟨?_, ?_⟩) (by assumption) ?_
            rotate_left 2
            · (simp only [List.getElem?_toArray, List.getElem?_cons_succ, List.getElem?_cons_zero]; rfl)
            · first | exact fun _ _ _ h => h | exact fun _ _ _ h => by cases h.1
            · rfl
            · ((intro wq hSq; (try dsimp only at hSq); go_simp); (try with_reducible rfl))
            try simp only [Act.put, List.setIfInBounds_toArray, List.set_cons_zero, List.set_cons_succ]
            refine wpAnyH_take (i := 8) (oi := ?_) (v := ?_) ?_ (by kernel_rfl) (by kernel_rfl) (by kernel_rfl) ?_ (Or.inl ⟨?_, ?_⟩) (by assumption) ?_
            rotate_left 2
            · (simp only [List.getElem?_toArray, List.getElem?_cons_succ, List.getElem?_cons_zero]; rfl)
            · first | exact fun _ _ _ h => h | exact fun _ _ _ h => by cases h.1
            · rfl
            · ((intro wq hSq; (try dsimp only at hSq); go_simp); (try with_reducible rfl))
            try simp only [Act.put, List.setIfInBounds_toArray, List.set_cons_zero, List.set_cons_succ]
            refine wpAnyH_take (i := 9) (oi := ?_) (v := ?_) ?_ (by kernel_rfl) (by kernel_rfl) (by kernel_rfl) ?_ (Or.inl ⟨?_, ?_⟩) (by assumption) ?_
            rotate_left 2
            · (simp only [List.getElem?_toArray, List.getElem?_cons_succ, List.getElem?_cons_zero]; rfl)
            · first | exact fun _ _ _ h => h | exact fun _ _ _ h => by cases h.1
            · rfl
            · ((intro wq hSq; (try dsimp only at hSq); go_simp); (try with_reducible rfl))
            try simp only [Act.put, List.setIfInBounds_toArray, List.set_cons_zero, List.set_cons_succ]
            refine wpAnyH_take (i := 10) (oi := ?_) (v := ?_) ?_ (by kernel_rfl) (by kernel_rfl) (by kernel_rfl) ?_ (Or.inl ⟨?_, ?_⟩) (by assumption) ?_
            rotate_left 2
            · (simp only [List.getElem?_toArray, List.getElem?_cons_succ, List.getElem?_cons_zero]; rfl)
            · first | exact fun _ _ _ h => h | exact fun _ _ _ h => by cases h.1
            · rfl
            · ((intro wq hSq; (try dsimp only at hSq); go_simp); (try with_reducible rfl))
            try simp only [Act.put, List.setIfInBounds_toArray, List.set_cons_zero, List.set_cons_succ]
            refine wpAnyH_take (i := 11) (oi := ?_) (v := ?_) ?_ (by kernel_rfl) (by kernel_rfl) (by kernel_rfl) ?_ (Or.inl ⟨?_, ?_⟩) (by assumption) ?_
            rotate_left 2
            · (simp only [List.getElem?_toArray, List.getElem?_cons_succ, List.getElem?_cons_zero]; rfl)
            · first | exact fun _ _ _ h => h | exact fun _ _ _ h => by cases h.1
            · rfl
            · ((intro wq hSq; (try dsimp only at hSq); go_simp); (try with_reducible rfl))
            try simp only [Act.put, List.setIfInBounds_toArray, List.set_cons_zero, List.set_cons_succ]
            refine wpAnyH_take (i := 12) (oi := ?_) (v := ?_) ?_ (by kernel_rfl) (by kernel_rfl) (by kernel_rfl) ?_ (Or.inl ⟨?_, ?_⟩) (by assumption) ?_
            rotate_left 2
            · (simp only [List.getElem?_toArray, List.getElem?_cons_succ, List.getElem?_cons_zero]; rfl)
            · first | exact fun _ _ _ h => h | exact fun _ _ _ h => by cases h.1
            · rfl
            · ((intro wq hSq; (try dsimp only at hSq); go_simp); (try with_reducible rfl))
            try simp only [Act.put, List.setIfInBounds_toArray, List.set_cons_zero, List.set_cons_succ]
            refine wpAnyH_take (i := 13) (oi := ?_) (v := ?_) ?_ (by kernel_rfl) (by kernel_rfl) (by kernel_rfl) ?_ (Or.inl ⟨?_, ?_⟩) (by assumption) ?_
            rotate_left 2
            · (simp only [List.getElem?_toArray, List.getElem?_cons_succ, List.getElem?_cons_zero]; rfl)
            · first | exact fun _ _ _ h => h | exact fun _ _ _ h => by cases h.1
            · rfl
            · ((intro wq hSq; (try dsimp only at hSq); go_simp); (try with_reducible rfl))
            try simp only [Act.put, List.setIfInBounds_toArray, List.set_cons_zero, List.set_cons_succ]
            refine wpAnyH_ready (rs := [14]) (by kernel_rfl) (by simp) ?_
            refine AllReadyH.cons (o := ?_) ?_ (fun K hK => ?_) AllReadyH.nil
            rotate_left
            · (simp only [List.getElem?_toArray, List.getElem?_cons_succ, List.getElem?_cons_zero]; rfl)
            go_simp
            go_at_call 43
            refine (HCM.out _).mono ?_
            rintro ex wx ⟨rfl, hbx⟩
            have hSx : (fun w' => Below wr.heap.size wr w' ∧ (w'.cell? ⟨g, (p + 1) * 7, none⟩ = some (.int .i64 x.x.p) ∧ w'.cell? ⟨g, (p + 1) * 7 + 1, none⟩ = some (.int .i64 x.x.o) ∧ w'.cell? ⟨g, (p + 1) * 7 + 2, none⟩ = some (.int .i64 x.x.q) ∧ w'.cell? ⟨g, (p + 1) * 7 + 3, none⟩ = some (.slice x.A x.x.r.length x.c) ∧ w'.cell? ⟨g, (p + 1) * 7 + 4, none⟩ = some (.int .i64 x.x.c) ∧ w'.cell? ⟨g, (p + 1) * 7 + 5, none⟩ = some (.int .i64 x.x.b) ∧ w'.cell? ⟨g, (p + 1) * 7 + 6, none⟩ = some (.int .i64 x.x.e)) ∧ (w'.cell? ⟨g, p * 7, none⟩ = some (.int .i64 y.x.p) ∧ w'.cell? ⟨g, p * 7 + 1, none⟩ = some (.int .i64 y.x.o) ∧ w'.cell? ⟨g, p * 7 + 2, none⟩ = some (.int .i64 y.x.q) ∧ w'.cell? ⟨g, p * 7 + 3, none⟩ = some (.slice y.A y.x.r.length y.c) ∧ w'.cell? ⟨g, p * 7 + 4, none⟩ = some (.int .i64 y.x.c) ∧ w'.cell? ⟨g, p * 7 + 5, none⟩ = some (.int .i64 y.x.b) ∧ w'.cell? ⟨g, p * 7 + 6, none⟩ = some (.int .i64 y.x.e))) wx := by
              obtain ⟨h0, ⟨u0, u1, u2, u3, u4, u5, u6⟩, v0, v1, v2, v3, v4, v5, v6⟩ := hHeld
              have hk : ∀ {i : Nat} {u : Value}, _ → wx.cell? ⟨g, i, none⟩ = some u := fun {i u} hc => (hbx.cell (p := ⟨g, i, none⟩) (cell_lt hc)).trans hc
              exact ⟨h0.trans (hbx.mono h0.size), ⟨hk u0, hk u1, hk u2, hk u3, hk u4, hk u5, hk u6⟩, hk v0, hk v1, hk v2, hk v3, hk v4, hk v5, hk v6⟩
            refine hK.out _ _ hSx (fun hHeld => ?_)
            clear hK K
            try simp only [Act.put, List.setIfInBounds_toArray, List.set_cons_zero, List.set_cons_succ]
            refine wpAnyH_take (i := 15) (oi := ?_) (v := ?_) ?_ (by kernel_rfl) (by kernel_rfl) (by kernel_rfl) ?_ (Or.inl ⟨?_, ?_⟩) (by assumption) ?_
            rotate_left 2
            · (simp only [List.getElem?_toArray, List.getElem?_cons_succ, List.getElem?_cons_zero]; rfl)
            · first | exact fun _ _ _ h => h | exact fun _ _ _ h => by cases h.1
            · rfl
            · ((intro wq hSq; (try dsimp only at hSq); go_simp); (try with_reducible rfl))
            try simp only [Act.put, List.setIfInBounds_toArray, List.set_cons_zero, List.set_cons_succ]
            refine wpAnyH_take (i := 16) (oi := ?_) (v := ?_) ?_ (by kernel_rfl) (by kernel_rfl) (by kernel_rfl) ?_ (Or.inl ⟨?_, ?_⟩) (by assumption) ?_
            rotate_left 2
            · (simp only [List.getElem?_toArray, List.getElem?_cons_succ, List.getElem?_cons_zero]; rfl)
            · first | exact fun _ _ _ h => h | exact fun _ _ _ h => by cases h.1
            · rfl
            · ((intro wq hSq; (try dsimp only at hSq); go_simp); (try with_reducible rfl))
            try simp only [Act.put, List.setIfInBounds_toArray, List.set_cons_zero, List.set_cons_succ]
            refine wpAnyH_done (by kernel_rfl) ?_ _
            have hb := hHeld.1
            have hr' := HQ.out.kept hb
            have hk' := HK.out.trans (KpG.of hb)
            have hnlt : ¬ q < 0 := of_decide_eq_false hneg
            go_wp2_with fail
            go_roundw
            case rel =>
              refine ⟨k + 1, by omega, .inl (by omega), val_int (by have := HI.out; omega), ⟨S1' ++ [y] ++ x :: S2, ?_, ?_, ?_⟩, hk'⟩
              · rw [take_snoc HX.out]
                have h1 := HP.out
                rw [HSE.out] at h1
                exact (List.perm_middle.trans ((List.perm_cons x).2 h1)).trans (List.perm_append_singleton x _).symm
              · have h1 := HS.out
                rw [HSE.out] at h1
                have htg : y.t < x.t := by
                  have hy : y ∈ S0.take k := HP.out.subset (by rw [HSE.out]; simp)
                  have hsp : S0 = S0.take k ++ x :: S0.drop (k + 1) := by
                    have h2 := (List.take_append_drop (k + 1) S0).symm
                    rw [take_snoc HX.out] at h2
                    simpa using h2
                  have h3 := HT.out
                  rw [hsp] at h3
                  exact (List.pairwise_append.1 h3).2.2 y hy x (by simp)
                have hyx : ltE y x := ltE_else htg (by rw [HCQ.out]; exact hnlt)
                refine Srt.app h1.left (List.pairwise_cons.2 ⟨HL.out, h1.right⟩) (fun u hu v hv => ?_)
                have hux : ltE u x := by
                  rcases List.mem_append.1 hu with hu | hu
                  · exact ltE_tr _ _ _ (h1.left.across u hu y (by simp)) hyx
                  · rw [List.mem_singleton.1 hu]; exact hyx
                rcases List.mem_cons.1 hv with rfl | hv
                · exact hux
                · exact ltE_tr _ _ _ hux (HL.out v hv)
              · rw [HR2.out]
                have e : P ++ (S1' ++ [y] ++ x :: S2) ++ R2 = P ++ (S1' ++ [y]) ++ x :: S2 ++ R2 := by simp
                rw [e]
                exact hr'
            case measure => simp [intOf]; omega
          · go_wp2_with fail
            refine wp_region_held_drew (S := fun w' => Below wr.heap.size wr w' ∧ (w'.cell? ⟨g, (p + 1) * 7, none⟩ = some (.int .i64 x.x.p) ∧ w'.cell? ⟨g, (p + 1) * 7 + 1, none⟩ = some (.int .i64 x.x.o) ∧ w'.cell? ⟨g, (p + 1) * 7 + 2, none⟩ = some (.int .i64 x.x.q) ∧ w'.cell? ⟨g, (p + 1) * 7 + 3, none⟩ = some (.slice x.A x.x.r.length x.c) ∧ w'.cell? ⟨g, (p + 1) * 7 + 4, none⟩ = some (.int .i64 x.x.c) ∧ w'.cell? ⟨g, (p + 1) * 7 + 5, none⟩ = some (.int .i64 x.x.b) ∧ w'.cell? ⟨g, (p + 1) * 7 + 6, none⟩ = some (.int .i64 x.x.e)) ∧ (w'.cell? ⟨g, p * 7, none⟩ = some (.int .i64 y.x.p) ∧ w'.cell? ⟨g, p * 7 + 1, none⟩ = some (.int .i64 y.x.o) ∧ w'.cell? ⟨g, p * 7 + 2, none⟩ = some (.int .i64 y.x.q) ∧ w'.cell? ⟨g, p * 7 + 3, none⟩ = some (.slice y.A y.x.r.length y.c) ∧ w'.cell? ⟨g, p * 7 + 4, none⟩ = some (.int .i64 y.x.c) ∧ w'.cell? ⟨g, p * 7 + 5, none⟩ = some (.int .i64 y.x.b) ∧ w'.cell? ⟨g, p * 7 + 6, none⟩ = some (.int .i64 y.x.e))) (by kernel_rfl) hSd (fun hHeld => ?_)
            generalize wr.drew = wd at hHeld ⊢
            have hHeld : (fun w' => Below wr.heap.size wr w' ∧ (w'.cell? ⟨g, (p + 1) * 7, none⟩ = some (.int .i64 x.x.p) ∧ w'.cell? ⟨g, (p + 1) * 7 + 1, none⟩ = some (.int .i64 x.x.o) ∧ w'.cell? ⟨g, (p + 1) * 7 + 2, none⟩ = some (.int .i64 x.x.q) ∧ w'.cell? ⟨g, (p + 1) * 7 + 3, none⟩ = some (.slice x.A x.x.r.length x.c) ∧ w'.cell? ⟨g, (p + 1) * 7 + 4, none⟩ = some (.int .i64 x.x.c) ∧ w'.cell? ⟨g, (p + 1) * 7 + 5, none⟩ = some (.int .i64 x.x.b) ∧ w'.cell? ⟨g, (p + 1) * 7 + 6, none⟩ = some (.int .i64 x.x.e)) ∧ (w'.cell? ⟨g, p * 7, none⟩ = some (.int .i64 y.x.p) ∧ w'.cell? ⟨g, p * 7 + 1, none⟩ = some (.int .i64 y.x.o) ∧ w'.cell? ⟨g, p * 7 + 2, none⟩ = some (.int .i64 y.x.q) ∧ w'.cell? ⟨g, p * 7 + 3, none⟩ = some (.slice y.A y.x.r.length y.c) ∧ w'.cell? ⟨g, p * 7 + 4, none⟩ = some (.int .i64 y.x.c) ∧ w'.cell? ⟨g, p * 7 + 5, none⟩ = some (.int .i64 y.x.b) ∧ w'.cell? ⟨g, p * 7 + 6, none⟩ = some (.int .i64 y.x.e))) wd := hHeld
            refine wpAnyH_take (i := 0) (oi := ?_) (v := ?_) ?_ (by kernel_rfl) (by kernel_rfl) (by kernel_rfl) ?_ (Or.inl ⟨?_, ?_⟩) (by assumption) ?_
            rotate_left 2
            · (simp only [List.getElem?_toArray, List.getElem?_cons_zero]; rfl)
            · first | exact fun _ _ _ h => h | exact fun _ _ _ h => by cases h.1
            · rfl
            · ((intro wq hSq; (try dsimp only at hSq); go_simp); (try with_reducible rfl))
            try simp only [Act.put, List.setIfInBounds_toArray, List.set_cons_zero, List.set_cons_succ]
            refine wpAnyH_take (i := 1) (oi := ?_) (v := ?_) ?_ (by kernel_rfl) (by kernel_rfl) (by kernel_rfl) ?_ (Or.inl ⟨?_, ?_⟩) (by assumption) ?_
            rotate_left 2
            · (simp only [List.getElem?_toArray, List.getElem?_cons_succ, List.getElem?_cons_zero]; rfl)
            · first | exact fun _ _ _ h => h | exact fun _ _ _ h => by cases h.1
            · rfl
            · ((intro wq hSq; (try dsimp only at hSq); go_simp); (try with_reducible rfl))
            try simp only [Act.put, List.setIfInBounds_toArray, List.set_cons_zero, List.set_cons_succ]
            refine wpAnyH_take (i := 2) (oi := ?_) (v := ?_) ?_ (by kernel_rfl) (by kernel_rfl) (by kernel_rfl) ?_ (Or.inl ⟨?_, ?_⟩) (by assumption) ?_
            rotate_left 2
            · (simp only [List.getElem?_toArray, List.getElem?_cons_succ, List.getElem?_cons_zero]; rfl)
            · first | exact fun _ _ _ h => h | exact fun _ _ _ h => by cases h.1
            · rfl
            · ((intro wq hSq; (try dsimp only at hSq); go_simp); (try with_reducible rfl))
            try simp only [Act.put, List.setIfInBounds_toArray, List.set_cons_zero, List.set_cons_succ]
            refine wpAnyH_take (i := 3) (oi := ?_) (v := ?_) ?_ (by kernel_rfl) (by kernel_rfl) (by kernel_rfl) ?_ (Or.inl ⟨?_, ?_⟩) (by assumption) ?_
            rotate_left 2
            · (simp only [List.getElem?_toArray, List.getElem?_cons_succ, List.getElem?_cons_zero]; rfl)
            · first | exact fun _ _ _ h => h | exact fun _ _ _ h => by cases h.1
            · rfl
            · ((intro wq hSq; (try dsimp only at hSq); go_simp); (try with_reducible rfl))
            try simp only [Act.put, List.setIfInBounds_toArray, List.set_cons_zero, List.set_cons_succ]
            refine wpAnyH_take (i := 4) (oi := ?_) (v := ?_) ?_ (by kernel_rfl) (by kernel_rfl) (by kernel_rfl) ?_ (Or.inl ⟨?_, ?_⟩) (by assumption) ?_
            rotate_left 2
            · (simp only [List.getElem?_toArray, List.getElem?_cons_succ, List.getElem?_cons_zero]; rfl)
            · first | exact fun _ _ _ h => h | exact fun _ _ _ h => by cases h.1
            · rfl
            · ((intro wq hSq; (try dsimp only at hSq); go_simp); (try with_reducible rfl))
            try simp only [Act.put, List.setIfInBounds_toArray, List.set_cons_zero, List.set_cons_succ]
            refine wpAnyH_take (i := 5) (oi := ?_) (v := ?_) ?_ (by kernel_rfl) (by kernel_rfl) (by kernel_rfl) ?_ (Or.inl ⟨?_, ?_⟩) (by assumption) ?_
            rotate_left 2
            · (simp only [List.getElem?_toArray, List.getElem?_cons_succ, List.getElem?_cons_zero]; rfl)
            · first | exact fun _ _ _ h => h | exact fun _ _ _ h => by cases h.1
            · rfl
            · ((intro wq hSq; (try dsimp only at hSq); go_simp); (try with_reducible rfl))
            try simp only [Act.put, List.setIfInBounds_toArray, List.set_cons_zero, List.set_cons_succ]
            refine wpAnyH_take (i := 6) (oi := ?_) (v := ?_) ?_ (by kernel_rfl) (by kernel_rfl) (by kernel_rfl) ?_ (Or.inl ⟨?_, ?_⟩) (by assumption) ?_
            rotate_left 2
            · (simp only [List.getElem?_toArray, List.getElem?_cons_succ, List.getElem?_cons_zero]; rfl)
            · first | exact fun _ _ _ h => h | exact fun _ _ _ h => by cases h.1
            · rfl
            · ((intro wq hSq; (try dsimp only at hSq); go_simp); (try with_reducible rfl))
            try simp only [Act.put, List.setIfInBounds_toArray, List.set_cons_zero, List.set_cons_succ]
            refine wpAnyH_take (i := 7) (oi := ?_) (v := ?_) ?_ (by kernel_rfl) (by kernel_rfl) (by kernel_rfl) ?_ (Or.inl ⟨?_, ?_⟩) (by assumption) ?_
            rotate_left 2
            · (simp only [List.getElem?_toArray, List.getElem?_cons_succ, List.getElem?_cons_zero]; rfl)
            · first | exact fun _ _ _ h => h | exact fun _ _ _ h => by cases h.1
            · rfl
            · ((intro wq hSq; (try dsimp only at hSq); go_simp); (try with_reducible rfl))
            try simp only [Act.put, List.setIfInBounds_toArray, List.set_cons_zero, List.set_cons_succ]
            refine wpAnyH_take (i := 8) (oi := ?_) (v := ?_) ?_ (by kernel_rfl) (by kernel_rfl) (by kernel_rfl) ?_ (Or.inl ⟨?_, ?_⟩) (by assumption) ?_
            rotate_left 2
            · (simp only [List.getElem?_toArray, List.getElem?_cons_succ, List.getElem?_cons_zero]; rfl)
            · first | exact fun _ _ _ h => h | exact fun _ _ _ h => by cases h.1
            · rfl
            · ((intro wq hSq; (try dsimp only at hSq); go_simp); (try with_reducible rfl))
            try simp only [Act.put, List.setIfInBounds_toArray, List.set_cons_zero, List.set_cons_succ]
            refine wpAnyH_take (i := 9) (oi := ?_) (v := ?_) ?_ (by kernel_rfl) (by kernel_rfl) (by kernel_rfl) ?_ (Or.inl ⟨?_, ?_⟩) (by assumption) ?_
            rotate_left 2
            · (simp only [List.getElem?_toArray, List.getElem?_cons_succ, List.getElem?_cons_zero]; rfl)
            · first | exact fun _ _ _ h => h | exact fun _ _ _ h => by cases h.1
            · rfl
            · ((intro wq hSq; (try dsimp only at hSq); go_simp); (try with_reducible rfl))
            try simp only [Act.put, List.setIfInBounds_toArray, List.set_cons_zero, List.set_cons_succ]
            refine wpAnyH_take (i := 10) (oi := ?_) (v := ?_) ?_ (by kernel_rfl) (by kernel_rfl) (by kernel_rfl) ?_ (Or.inl ⟨?_, ?_⟩) (by assumption) ?_
            rotate_left 2
            · (simp only [List.getElem?_toArray, List.getElem?_cons_succ, List.getElem?_cons_zero]; rfl)
            · first | exact fun _ _ _ h => h | exact fun _ _ _ h => by cases h.1
            · rfl
            · ((intro wq hSq; (try dsimp only at hSq); go_simp); (try with_reducible rfl))
            try simp only [Act.put, List.setIfInBounds_toArray, List.set_cons_zero, List.set_cons_succ]
            refine wpAnyH_take (i := 11) (oi := ?_) (v := ?_) ?_ (by kernel_rfl) (by kernel_rfl) (by kernel_rfl) ?_ (Or.inl ⟨?_, ?_⟩) (by assumption) ?_
            rotate_left 2
            · (simp only [List.getElem?_toArray, List.getElem?_cons_succ, List.getElem?_cons_zero]; rfl)
            · first | exact fun _ _ _ h => h | exact fun _ _ _ h => by cases h.1
            · rfl
            · ((intro wq hSq; (try dsimp only at hSq); go_simp); (try with_reducible rfl))
            try simp only [Act.put, List.setIfInBounds_toArray, List.set_cons_zero, List.set_cons_succ]
            refine wpAnyH_take (i := 12) (oi := ?_) (v := ?_) ?_ (by kernel_rfl) (by kernel_rfl) (by kernel_rfl) ?_ (Or.inl ⟨?_, ?_⟩) (by assumption) ?_
            rotate_left 2
            · (simp only [List.getElem?_toArray, List.getElem?_cons_succ, List.getElem?_cons_zero]; rfl)
            · first | exact fun _ _ _ h => h | exact fun _ _ _ h => by cases h.1
            · rfl
            · ((intro wq hSq; (try dsimp only at hSq); go_simp); (try with_reducible rfl))
            try simp only [Act.put, List.setIfInBounds_toArray, List.set_cons_zero, List.set_cons_succ]
            refine wpAnyH_take (i := 13) (oi := ?_) (v := ?_) ?_ (by kernel_rfl) (by kernel_rfl) (by kernel_rfl) ?_ (Or.inl ⟨?_, ?_⟩) (by assumption) ?_
            rotate_left 2
            · (simp only [List.getElem?_toArray, List.getElem?_cons_succ, List.getElem?_cons_zero]; rfl)
            · first | exact fun _ _ _ h => h | exact fun _ _ _ h => by cases h.1
            · rfl
            · ((intro wq hSq; (try dsimp only at hSq); go_simp); (try with_reducible rfl))
            try simp only [Act.put, List.setIfInBounds_toArray, List.set_cons_zero, List.set_cons_succ]
            refine wpAnyH_ready (rs := [14]) (by kernel_rfl) (by simp) ?_
            refine AllReadyH.cons (o := ?_) ?_ (fun K hK => ?_) AllReadyH.nil
            rotate_left
            · (simp only [List.getElem?_toArray, List.getElem?_cons_succ, List.getElem?_cons_zero]; rfl)
            go_simp
            go_at_call 43
            refine (HCM.out _).mono ?_
            rintro ex wx ⟨rfl, hbx⟩
            have hSx : (fun w' => Below wr.heap.size wr w' ∧ (w'.cell? ⟨g, (p + 1) * 7, none⟩ = some (.int .i64 x.x.p) ∧ w'.cell? ⟨g, (p + 1) * 7 + 1, none⟩ = some (.int .i64 x.x.o) ∧ w'.cell? ⟨g, (p + 1) * 7 + 2, none⟩ = some (.int .i64 x.x.q) ∧ w'.cell? ⟨g, (p + 1) * 7 + 3, none⟩ = some (.slice x.A x.x.r.length x.c) ∧ w'.cell? ⟨g, (p + 1) * 7 + 4, none⟩ = some (.int .i64 x.x.c) ∧ w'.cell? ⟨g, (p + 1) * 7 + 5, none⟩ = some (.int .i64 x.x.b) ∧ w'.cell? ⟨g, (p + 1) * 7 + 6, none⟩ = some (.int .i64 x.x.e)) ∧ (w'.cell? ⟨g, p * 7, none⟩ = some (.int .i64 y.x.p) ∧ w'.cell? ⟨g, p * 7 + 1, none⟩ = some (.int .i64 y.x.o) ∧ w'.cell? ⟨g, p * 7 + 2, none⟩ = some (.int .i64 y.x.q) ∧ w'.cell? ⟨g, p * 7 + 3, none⟩ = some (.slice y.A y.x.r.length y.c) ∧ w'.cell? ⟨g, p * 7 + 4, none⟩ = some (.int .i64 y.x.c) ∧ w'.cell? ⟨g, p * 7 + 5, none⟩ = some (.int .i64 y.x.b) ∧ w'.cell? ⟨g, p * 7 + 6, none⟩ = some (.int .i64 y.x.e))) wx := by
              obtain ⟨h0, ⟨u0, u1, u2, u3, u4, u5, u6⟩, v0, v1, v2, v3, v4, v5, v6⟩ := hHeld
              have hk : ∀ {i : Nat} {u : Value}, _ → wx.cell? ⟨g, i, none⟩ = some u := fun {i u} hc => (hbx.cell (p := ⟨g, i, none⟩) (cell_lt hc)).trans hc
              exact ⟨h0.trans (hbx.mono h0.size), ⟨hk u0, hk u1, hk u2, hk u3, hk u4, hk u5, hk u6⟩, hk v0, hk v1, hk v2, hk v3, hk v4, hk v5, hk v6⟩
            refine hK.out _ _ hSx (fun hHeld => ?_)
            clear hK K
            try simp only [Act.put, List.setIfInBounds_toArray, List.set_cons_zero, List.set_cons_succ]
            refine wpAnyH_take (i := 15) (oi := ?_) (v := ?_) ?_ (by kernel_rfl) (by kernel_rfl) (by kernel_rfl) ?_ (Or.inl ⟨?_, ?_⟩) (by assumption) ?_
            rotate_left 2
            · (simp only [List.getElem?_toArray, List.getElem?_cons_succ, List.getElem?_cons_zero]; rfl)
            · first | exact fun _ _ _ h => h | exact fun _ _ _ h => by cases h.1
            · rfl
            · ((intro wq hSq; (try dsimp only at hSq); go_simp); (try with_reducible rfl))
            try simp only [Act.put, List.setIfInBounds_toArray, List.set_cons_zero, List.set_cons_succ]
            refine wpAnyH_take (i := 16) (oi := ?_) (v := ?_) ?_ (by kernel_rfl) (by kernel_rfl) (by kernel_rfl) ?_ (Or.inl ⟨?_, ?_⟩) (by assumption) ?_
            rotate_left 2
            · (simp only [List.getElem?_toArray, List.getElem?_cons_succ, List.getElem?_cons_zero]; rfl)
            · first | exact fun _ _ _ h => h | exact fun _ _ _ h => by cases h.1
            · rfl
            · ((intro wq hSq; (try dsimp only at hSq); go_simp); (try with_reducible rfl))
            try simp only [Act.put, List.setIfInBounds_toArray, List.set_cons_zero, List.set_cons_succ]
            refine wpAnyH_done (by kernel_rfl) ?_ _
            have hb := hHeld.1
            have hr' := HQ.out.kept hb
            have hk' := HK.out.trans (KpG.of hb)
            clear hSd hHeld hSx
            go_wp2_with fail
            have hSd : (fun _ : World => True) wx.drew := trivial
            refine wp_region_held_drew (S := fun _ => True) (by kernel_rfl) hSd (fun hHeld => ?_)
            have hr2 := hr'.kept (Below.refl _ wx).drew
            have hk2 := hk'.trans (KpG.of (Below.refl _ wx).drew)
            generalize wx.drew = we at hHeld hr2 hk2 ⊢
            obtain ⟨x0, x1, x2, x3, x4, x5, x6⟩ := hr2.cells HLX.out
            obtain ⟨y0, y1, y2, y3, y4, y5, y6⟩ := hr2.cells HLY.out
            refine wpAnyH_take (i := 0) (oi := ?_) (v := ?_) ?_ (by kernel_rfl) (by kernel_rfl) (by kernel_rfl) ?_ (Or.inl ⟨?_, ?_⟩) (by assumption) ?_
            rotate_left 2
            · (simp only [List.getElem?_toArray, List.getElem?_cons_zero]; rfl)
            · first | exact fun _ _ _ h => h | exact fun _ _ _ h => by cases h.1
            · rfl
            · ((intro wq hSq; (try dsimp only at hSq); go_simp); (try with_reducible rfl))
            try simp only [Act.put, List.setIfInBounds_toArray, List.set_cons_zero, List.set_cons_succ]
            refine wpAnyH_take (i := 1) (oi := ?_) (v := ?_) ?_ (by kernel_rfl) (by kernel_rfl) (by kernel_rfl) ?_ (Or.inl ⟨?_, ?_⟩) (by assumption) ?_
            rotate_left 2
            · (simp only [List.getElem?_toArray, List.getElem?_cons_succ, List.getElem?_cons_zero]; rfl)
            · first | exact fun _ _ _ h => h | exact fun _ _ _ h => by cases h.1
            · rfl
            · ((intro wq hSq; (try dsimp only at hSq); go_simp); (try with_reducible rfl))
            try simp only [Act.put, List.setIfInBounds_toArray, List.set_cons_zero, List.set_cons_succ]
            refine wpAnyH_take (i := 2) (oi := ?_) (v := ?_) ?_ (by kernel_rfl) (by kernel_rfl) (by kernel_rfl) ?_ (Or.inl ⟨?_, ?_⟩) (by assumption) ?_
            rotate_left 2
            · (simp only [List.getElem?_toArray, List.getElem?_cons_succ, List.getElem?_cons_zero]; rfl)
            · first | exact fun _ _ _ h => h | exact fun _ _ _ h => by cases h.1
            · rfl
            · ((intro wq hSq; (try dsimp only at hSq); go_simp); (try with_reducible rfl))
            try simp only [Act.put, List.setIfInBounds_toArray, List.set_cons_zero, List.set_cons_succ]
            refine wpAnyH_take (i := 3) (oi := ?_) (v := ?_) ?_ (by kernel_rfl) (by kernel_rfl) (by kernel_rfl) ?_ (Or.inl ⟨?_, ?_⟩) (by assumption) ?_
            rotate_left 2
            · (simp only [List.getElem?_toArray, List.getElem?_cons_succ, List.getElem?_cons_zero]; rfl)
            · first | exact fun _ _ _ h => h | exact fun _ _ _ h => by cases h.1
            · rfl
            · ((intro wq hSq; (try dsimp only at hSq); go_simp); (try with_reducible rfl))
            try simp only [Act.put, List.setIfInBounds_toArray, List.set_cons_zero, List.set_cons_succ]
            refine wpAnyH_take (i := 4) (oi := ?_) (v := ?_) ?_ (by kernel_rfl) (by kernel_rfl) (by kernel_rfl) ?_ (Or.inl ⟨?_, ?_⟩) (by assumption) ?_
            rotate_left 2
            · (simp only [List.getElem?_toArray, List.getElem?_cons_succ, List.getElem?_cons_zero]; rfl)
            · first | exact fun _ _ _ h => h | exact fun _ _ _ h => by cases h.1
            · rfl
            · ((intro wq hSq; (try dsimp only at hSq); go_simp); (try with_reducible rfl))
            try simp only [Act.put, List.setIfInBounds_toArray, List.set_cons_zero, List.set_cons_succ]
            refine wpAnyH_take (i := 5) (oi := ?_) (v := ?_) ?_ (by kernel_rfl) (by kernel_rfl) (by kernel_rfl) ?_ (Or.inl ⟨?_, ?_⟩) (by assumption) ?_
            rotate_left 2
            · (simp only [List.getElem?_toArray, List.getElem?_cons_succ, List.getElem?_cons_zero]; rfl)
            · first | exact fun _ _ _ h => h | exact fun _ _ _ h => by cases h.1
            · rfl
            · ((intro wq hSq; (try dsimp only at hSq); go_simp); (try with_reducible rfl))
            try simp only [Act.put, List.setIfInBounds_toArray, List.set_cons_zero, List.set_cons_succ]
            refine wpAnyH_take (i := 6) (oi := ?_) (v := ?_) ?_ (by kernel_rfl) (by kernel_rfl) (by kernel_rfl) ?_ (Or.inl ⟨?_, ?_⟩) (by assumption) ?_
            rotate_left 2
            · (simp only [List.getElem?_toArray, List.getElem?_cons_succ, List.getElem?_cons_zero]; rfl)
            · first | exact fun _ _ _ h => h | exact fun _ _ _ h => by cases h.1
            · rfl
            · ((intro wq hSq; (try dsimp only at hSq); go_simp); (try with_reducible rfl))
            try simp only [Act.put, List.setIfInBounds_toArray, List.set_cons_zero, List.set_cons_succ]
            refine wpAnyH_take (i := 7) (oi := ?_) (v := ?_) ?_ (by kernel_rfl) (by kernel_rfl) (by kernel_rfl) ?_ (Or.inl ⟨?_, ?_⟩) (by assumption) ?_
            rotate_left 2
            · (simp only [List.getElem?_toArray, List.getElem?_cons_succ, List.getElem?_cons_zero]; rfl)
            · first | exact fun _ _ _ h => h | exact fun _ _ _ h => by cases h.1
            · rfl
            · ((intro wq hSq; (try dsimp only at hSq); go_simp); (try with_reducible rfl))
            try simp only [Act.put, List.setIfInBounds_toArray, List.set_cons_zero, List.set_cons_succ]
            refine wpAnyH_take (i := 8) (oi := ?_) (v := ?_) ?_ (by kernel_rfl) (by kernel_rfl) (by kernel_rfl) ?_ (Or.inl ⟨?_, ?_⟩) (by assumption) ?_
            rotate_left 2
            · (simp only [List.getElem?_toArray, List.getElem?_cons_succ, List.getElem?_cons_zero]; rfl)
            · first | exact fun _ _ _ h => h | exact fun _ _ _ h => by cases h.1
            · rfl
            · ((intro wq hSq; (try dsimp only at hSq); go_simp); (try with_reducible rfl))
            try simp only [Act.put, List.setIfInBounds_toArray, List.set_cons_zero, List.set_cons_succ]
            refine wpAnyH_take (i := 10) (oi := ?_) (v := ?_) ?_ (by kernel_rfl) (by kernel_rfl) (by kernel_rfl) ?_ (Or.inl ⟨?_, ?_⟩) (by assumption) ?_
            rotate_left 2
            · (simp only [List.getElem?_toArray, List.getElem?_cons_succ, List.getElem?_cons_zero]; rfl)
            · first | exact fun _ _ _ h => h | exact fun _ _ _ h => by cases h.1
            · rfl
            · ((intro wq hSq; (try dsimp only at hSq); go_simp); (try with_reducible rfl))
            try simp only [Act.put, List.setIfInBounds_toArray, List.set_cons_zero, List.set_cons_succ]
            refine wpAnyH_take (i := 11) (oi := ?_) (v := ?_) ?_ (by kernel_rfl) (by kernel_rfl) (by kernel_rfl) ?_ (Or.inl ⟨?_, ?_⟩) (by assumption) ?_
            rotate_left 2
            · (simp only [List.getElem?_toArray, List.getElem?_cons_succ, List.getElem?_cons_zero]; rfl)
            · first | exact fun _ _ _ h => h | exact fun _ _ _ h => by cases h.1
            · rfl
            · ((intro wq hSq; (try dsimp only at hSq); go_simp); (try with_reducible rfl))
            try simp only [Act.put, List.setIfInBounds_toArray, List.set_cons_zero, List.set_cons_succ]
            refine wpAnyH_take (i := 12) (oi := ?_) (v := ?_) ?_ (by kernel_rfl) (by kernel_rfl) (by kernel_rfl) ?_ (Or.inl ⟨?_, ?_⟩) (by assumption) ?_
            rotate_left 2
            · (simp only [List.getElem?_toArray, List.getElem?_cons_succ, List.getElem?_cons_zero]; rfl)
            · first | exact fun _ _ _ h => h | exact fun _ _ _ h => by cases h.1
            · rfl
            · ((intro wq hSq; (try dsimp only at hSq); go_simp); (try with_reducible rfl))
            try simp only [Act.put, List.setIfInBounds_toArray, List.set_cons_zero, List.set_cons_succ]
            refine wpAnyH_ready (rs := [9, 13]) (by kernel_rfl) (by simp) ?_
            refine AllReadyH.cons (o := ?_) ?_ (fun K hK => ?_) ?_
            rotate_left
            · (simp only [List.getElem?_toArray, List.getElem?_cons_succ, List.getElem?_cons_zero]; rfl)
            · go_simp
              refine hK.out _ _ trivial (fun hHeld => ?_)
              clear hK K
              try simp only [Act.put, List.setIfInBounds_toArray, List.set_cons_zero, List.set_cons_succ]
              refine wpAnyH_ready (rs := [13]) (by kernel_rfl) (by simp) ?_
              refine AllReadyH.cons (o := ?_) ?_ (fun K hK => ?_) AllReadyH.nil
              rotate_left
              · (simp only [List.getElem?_toArray, List.getElem?_cons_succ, List.getElem?_cons_zero]; rfl)
              go_simp
              refine hK.out _ _ trivial (fun hHeld => ?_)
              clear hK K
              try simp only [Act.put, List.setIfInBounds_toArray, List.set_cons_zero, List.set_cons_succ]
              refine wpAnyH_take (i := 14) (oi := ?_) (v := ?_) ?_ (by kernel_rfl) (by kernel_rfl) (by kernel_rfl) ?_ (Or.inl ⟨?_, ?_⟩) (by assumption) ?_
              rotate_left 2
              · (simp only [List.getElem?_toArray, List.getElem?_cons_succ, List.getElem?_cons_zero]; rfl)
              · first | exact fun _ _ _ h => h | exact fun _ _ _ h => by cases h.1
              · rfl
              · ((intro wq hSq; (try dsimp only at hSq); go_simp); (try with_reducible rfl))
              try simp only [Act.put, List.setIfInBounds_toArray, List.set_cons_zero, List.set_cons_succ]
              obtain ⟨ar1, hs1, hg1⟩ := hr2.store (p + 1) y (by rw [HLEN.out]; exact hpN)
              refine wpAnyH_ready (rs := [15]) (by kernel_rfl) (by simp) ?_
              refine AllReadyH.cons (o := ?_) ?_ (fun K hK => ?_) AllReadyH.nil
              rotate_left
              · (simp only [List.getElem?_toArray, List.getElem?_cons_succ, List.getElem?_cons_zero]; rfl)
              refine step_store_at rfl 32 (.tmp 51) (.tmp 46) rfl ⟨g, (p + 1) * 7, none⟩ _ rfl rfl hs1 ?_
              refine hK.out _ _ trivial (fun hHeld => ?_)
              clear hK K
              try simp only [Act.put]
              refine wpAnyH_take (i := 16) (oi := ?_) (v := ?_) ?_ (by kernel_rfl) (by kernel_rfl) (by kernel_rfl) ?_ (Or.inl ⟨?_, ?_⟩) (by assumption) ?_
              rotate_left 2
              · (simp only [List.getElem?_toArray, List.getElem?_cons_succ, List.getElem?_cons_zero]; rfl)
              · first | exact fun _ _ _ h => h | exact fun _ _ _ h => by cases h.1
              · rfl
              · ((intro wq hSq; (try dsimp only at hSq); go_simp); (try with_reducible rfl))
              try simp only [Act.put, List.setIfInBounds_toArray, List.set_cons_zero, List.set_cons_succ]
              obtain ⟨ar2, hs2, hg2⟩ := hg1.store p x (by rw [List.length_set, HLEN.out]; exact j6)
              refine wpAnyH_ready (rs := [17]) (by kernel_rfl) (by simp) ?_
              refine AllReadyH.cons (o := ?_) ?_ (fun K hK => ?_) AllReadyH.nil
              rotate_left
              · (simp only [List.getElem?_toArray, List.getElem?_cons_succ, List.getElem?_cons_zero]; rfl)
              refine step_store_at rfl 32 (.tmp 52) (.tmp 50) rfl ⟨g, p * 7, none⟩ _ rfl rfl hs2 ?_
              refine hK.out _ _ trivial (fun hHeld => ?_)
              clear hK K
              try simp only [Act.put]
              have hsw := swap_set (S1 := S1') (S2 := S2) (y := y) (x := x) P R2
              rw [HPP.out] at hsw
              rw [hsw] at hg2
              have hk3 := (hk2.row ar1).row ar2
              generalize (we.setRow g ar1).setRow g ar2 = wz at hg2 hk3 ⊢
              have HG2 := Lib.hid hg2
              have HK3 := Lib.hid hk3
              clear hg2 hk3 hk2 hr2 hg1 hsw hs1 hs2 x0 x1 x2 x3 x4 x5 x6 y0 y1 y2 y3 y4 y5 y6
              refine wpAnyH_done (by kernel_rfl) ?_ _
              go_wp2_with fail
              go_roundw
              case rel =>
                have htg : y.t < x.t := by
                  have hy : y ∈ S0.take k := HP.out.subset (by rw [HSE.out]; simp)
                  have hsp : S0 = S0.take k ++ x :: S0.drop (k + 1) := by
                    have h2 := (List.take_append_drop (k + 1) S0).symm
                    rw [take_snoc HX.out] at h2
                    simpa using h2
                  have h3 := HT.out
                  rw [hsp] at h3
                  exact (List.pairwise_append.1 h3).2.2 y hy x (by simp)
                have hxy : ltE x y := (ltE_later htg).2 (by rw [HCQ.out]; exact of_decide_eq_true hneg)
                refine ⟨S1', y :: S2, by rw [HSE.out]; simp, val_int (by have := HP2.out; omega), HG2.out, fun z hz => ?_, HK3.out⟩
                rcases List.mem_cons.1 hz with rfl | hz
                · exact hxy
                · exact HL.out z hz
              case measure => simp [intOf]
            · refine AllReadyH.cons (o := ?_) ?_ (fun K hK => ?_) AllReadyH.nil
              rotate_left
              · (simp only [List.getElem?_toArray, List.getElem?_cons_succ, List.getElem?_cons_zero]; rfl)
              go_simp
              refine hK.out _ _ trivial (fun hHeld => ?_)
              clear hK K
              try simp only [Act.put, List.setIfInBounds_toArray, List.set_cons_zero, List.set_cons_succ]
              refine wpAnyH_ready (rs := [9]) (by kernel_rfl) (by simp) ?_
              refine AllReadyH.cons (o := ?_) ?_ (fun K hK => ?_) AllReadyH.nil
              rotate_left
              · (simp only [List.getElem?_toArray, List.getElem?_cons_succ, List.getElem?_cons_zero]; rfl)
              go_simp
              refine hK.out _ _ trivial (fun hHeld => ?_)
              clear hK K
              try simp only [Act.put, List.setIfInBounds_toArray, List.set_cons_zero, List.set_cons_succ]
              refine wpAnyH_take (i := 14) (oi := ?_) (v := ?_) ?_ (by kernel_rfl) (by kernel_rfl) (by kernel_rfl) ?_ (Or.inl ⟨?_, ?_⟩) (by assumption) ?_
              rotate_left 2
              · (simp only [List.getElem?_toArray, List.getElem?_cons_succ, List.getElem?_cons_zero]; rfl)
              · first | exact fun _ _ _ h => h | exact fun _ _ _ h => by cases h.1
              · rfl
              · ((intro wq hSq; (try dsimp only at hSq); go_simp); (try with_reducible rfl))
              try simp only [Act.put, List.setIfInBounds_toArray, List.set_cons_zero, List.set_cons_succ]
              obtain ⟨ar1, hs1, hg1⟩ := hr2.store (p + 1) y (by rw [HLEN.out]; exact hpN)
              refine wpAnyH_ready (rs := [15]) (by kernel_rfl) (by simp) ?_
              refine AllReadyH.cons (o := ?_) ?_ (fun K hK => ?_) AllReadyH.nil
              rotate_left
              · (simp only [List.getElem?_toArray, List.getElem?_cons_succ, List.getElem?_cons_zero]; rfl)
              refine step_store_at rfl 32 (.tmp 51) (.tmp 46) rfl ⟨g, (p + 1) * 7, none⟩ _ rfl rfl hs1 ?_
              refine hK.out _ _ trivial (fun hHeld => ?_)
              clear hK K
              try simp only [Act.put]
              refine wpAnyH_take (i := 16) (oi := ?_) (v := ?_) ?_ (by kernel_rfl) (by kernel_rfl) (by kernel_rfl) ?_ (Or.inl ⟨?_, ?_⟩) (by assumption) ?_
              rotate_left 2
              · (simp only [List.getElem?_toArray, List.getElem?_cons_succ, List.getElem?_cons_zero]; rfl)
              · first | exact fun _ _ _ h => h | exact fun _ _ _ h => by cases h.1
              · rfl
              · ((intro wq hSq; (try dsimp only at hSq); go_simp); (try with_reducible rfl))
              try simp only [Act.put, List.setIfInBounds_toArray, List.set_cons_zero, List.set_cons_succ]
              obtain ⟨ar2, hs2, hg2⟩ := hg1.store p x (by rw [List.length_set, HLEN.out]; exact j6)
              refine wpAnyH_ready (rs := [17]) (by kernel_rfl) (by simp) ?_
              refine AllReadyH.cons (o := ?_) ?_ (fun K hK => ?_) AllReadyH.nil
              rotate_left
              · (simp only [List.getElem?_toArray, List.getElem?_cons_succ, List.getElem?_cons_zero]; rfl)
              refine step_store_at rfl 32 (.tmp 52) (.tmp 50) rfl ⟨g, p * 7, none⟩ _ rfl rfl hs2 ?_
              refine hK.out _ _ trivial (fun hHeld => ?_)
              clear hK K
              try simp only [Act.put]
              have hsw := swap_set (S1 := S1') (S2 := S2) (y := y) (x := x) P R2
              rw [HPP.out] at hsw
              rw [hsw] at hg2
              have hk3 := (hk2.row ar1).row ar2
              generalize (we.setRow g ar1).setRow g ar2 = wz at hg2 hk3 ⊢
              have HG2 := Lib.hid hg2
              have HK3 := Lib.hid hk3
              clear hg2 hk3 hk2 hr2 hg1 hsw hs1 hs2 x0 x1 x2 x3 x4 x5 x6 y0 y1 y2 y3 y4 y5 y6
              refine wpAnyH_done (by kernel_rfl) ?_ _
              go_wp2_with fail
              go_roundw
              case rel =>
                have htg : y.t < x.t := by
                  have hy : y ∈ S0.take k := HP.out.subset (by rw [HSE.out]; simp)
                  have hsp : S0 = S0.take k ++ x :: S0.drop (k + 1) := by
                    have h2 := (List.take_append_drop (k + 1) S0).symm
                    rw [take_snoc HX.out] at h2
                    simpa using h2
                  have h3 := HT.out
                  rw [hsp] at h3
                  exact (List.pairwise_append.1 h3).2.2 y hy x (by simp)
                have hxy : ltE x y := (ltE_later htg).2 (by rw [HCQ.out]; exact of_decide_eq_true hneg)
                refine ⟨S1', y :: S2, by rw [HSE.out]; simp, val_int (by have := HP2.out; omega), HG2.out, fun z hz => ?_, HK3.out⟩
                rcases List.mem_cons.1 hz with rfl | hz
                · exact hxy
                · exact HL.out z hz
              case measure => simp [intOf]
    · have hkn' : S0.take k = S0 := List.take_of_length_le (by rw [HNN.out]; omega)
      have hdr : S0.drop k = [] := List.drop_eq_nil_of_le (by rw [HNN.out]; omega)
      rw [hkn'] at hp
      rw [hdr, List.nil_append] at hr
      have him : ¬ a + k < m := by have := HM.out; omega
      obtain ⟨i, hi⟩ : ∃ i, a + k = i := ⟨_, rfl⟩
      rw [hi] at him ⊢
      have him2 : ¬ (i : Int) < (m : Int) := by omega
      have him3 : decide ((i : Int) < (m : Int)) = false := decide_eq_false him2
      have HF := Lib.hid (And.intro hr (And.intro hp (And.intro hs hkp)))
      clear hr hp hs hkp hi hk1 hkn hkn' hdr
      go_wp2_with fail
      (try simp only [Exit.inBlock, Exit.then])
      refine bodyPost_end (results_none rfl _ _ _) rfl ?_
      exact ⟨rfl, S, by first | exact HF.out.1 | (rw [← List.append_assoc]; exact HF.out.1), HF.out.2.1, HF.out.2.2.1, HF.out.2.2.2⟩

end Go.Proofs.Ytgmmblknaeepbaa

namespace Go.Proofs.Ytgmmblknaeepbaa
open Go.RowKit
attribute [local go_sem] Oper.semAt_some

theorem set2 {α : Type} (A B C : List α) (x y u v : α) : ((A ++ x :: (B ++ y :: C)).set A.length u).set (A.length + 1 + B.length) v = A ++ u :: (B ++ v :: C) := by
  rw [List.set_append_right _ _ (Nat.le_refl _), Nat.sub_self, List.set_cons_zero, List.set_append_right _ _ (by omega), show A.length + 1 + B.length - A.length = B.length + 1 by omega, List.set_cons_succ, List.set_append_right _ _ (Nat.le_refl _), Nat.sub_self, List.set_cons_zero]
theorem get2 {α : Type} (A B C : List α) (x y : α) : (A ++ x :: (B ++ y :: C))[A.length]? = some x ∧ (A ++ x :: (B ++ y :: C))[A.length + 1 + B.length]? = some y := by
  constructor
  · rw [List.getElem?_append_right (Nat.le_refl _), Nat.sub_self, List.getElem?_cons_zero]
  · rw [List.getElem?_append_right (by omega), show A.length + 1 + B.length - A.length = B.length + 1 by omega, List.getElem?_cons_succ, List.getElem?_append_right (Nat.le_refl _), Nat.sub_self, List.getElem?_cons_zero]
theorem swap_rng {P Y1 X2 M X1 Y2 R : List El} {x y : El} {pa pb : Nat} (ha : P.length + Y1.length = pa) (hb : P.length + (Y1.length + 1 + X2.length) + M.length + X1.length = pb) :
    (P ++ (Y1 ++ x :: X2) ++ M ++ (X1 ++ y :: Y2) ++ R)[pa]? = some x ∧ (P ++ (Y1 ++ x :: X2) ++ M ++ (X1 ++ y :: Y2) ++ R)[pb]? = some y ∧
    ((P ++ (Y1 ++ x :: X2) ++ M ++ (X1 ++ y :: Y2) ++ R).set pa y).set pb x = P ++ ((Y1 ++ [y]) ++ X2) ++ M ++ ((X1 ++ [x]) ++ Y2) ++ R := by
  have e1 : P ++ (Y1 ++ x :: X2) ++ M ++ (X1 ++ y :: Y2) ++ R = (P ++ Y1) ++ x :: ((X2 ++ M ++ X1) ++ y :: (Y2 ++ R)) := by simp
  have e2 : P ++ ((Y1 ++ [y]) ++ X2) ++ M ++ ((X1 ++ [x]) ++ Y2) ++ R = (P ++ Y1) ++ y :: ((X2 ++ M ++ X1) ++ x :: (Y2 ++ R)) := by simp
  have l1 : pa = (P ++ Y1).length := by simp; omega
  have l2 : pb = (P ++ Y1).length + 1 + (X2 ++ M ++ X1).length := by simp; omega
  rw [e1, e2, l1, l2]
  exact ⟨(get2 _ _ _ _ _).1, (get2 _ _ _ _ _).2, set2 _ _ _ _ _ _ _⟩

set_option maxRecDepth 100000 in
set_option maxHeartbeats 8000000 in
theorem swapRange_any (g cap a b n N : Nat) (P X M Y R : List El) (w : World) (hg : RowsG w g (P ++ X ++ M ++ Y ++ R)) (ha : P.length = a) (hb : P.length + X.length + M.length = b) (hx : X.length = n) (hy : Y.length = n) (hN : (P ++ X ++ M ++ Y ++ R).length = N) (_hcap : N ≤ cap) (hbig : N ≤ 100000) :
    Calls Try.prog 74 #[.slice (some ⟨g, 0, none⟩) N cap, .int .i64 (a : Int), .int .i64 (b : Int), .int .i64 (n : Int), .func (.func 43) #[] #[]] w fun e w' => e = .returned (.tuple #[]) ∧ RowsG w' g (P ++ Y ++ M ++ X ++ R) ∧ KpG g w w' := by
  have HG := Lib.hid hg
  have HA := Lib.hid ha
  have HB := Lib.hid hb
  have HXN := Lib.hid hx
  have HYN := Lib.hid hy
  have HN := Lib.hid hN
  clear hg ha hb hx hy hN
  go_enter Try.func74, Try.ntmps74
  go_wp2_with fail
  go_loopw [10] (fun i wr => ∃ X1 X2 Y1 Y2, X = X1 ++ X2 ∧ Y = Y1 ++ Y2 ∧ Y1.length = X1.length ∧ i = .int .i64 (X1.length : Int) ∧ RowsG wr g (P ++ (Y1 ++ X2) ++ M ++ (X1 ++ Y2) ++ R) ∧ KpG g w wr) (fun i _ => n - (intOf i).toNat)
  case atStart => exact ⟨[], X, [], Y, rfl, rfl, rfl, rfl, by simpa using HG.out, KpG.refl _ _⟩
  case round =>
    obtain ⟨X1, X2, Y1, Y2, hX, hY, hXY, rfl, hr, hk⟩ := hrel
    obtain ⟨i, hi⟩ : ∃ i, X1.length = i := ⟨_, rfl⟩
    rw [hi] at hXY ⊢
    have hlx := congrArg List.length hX
    have hly := congrArg List.length hY
    rw [List.length_append, HXN.out, hi] at hlx
    rw [List.length_append, HYN.out, hXY] at hly
    rcases X2 with _ | ⟨x, X2⟩
    · rcases Y2 with _ | ⟨y, Y2⟩
      · have hin0 : ¬ i < n := by simp at hlx; omega
        have hin : decide ((i : Int) < (n : Int)) = false := by rw [decide_eq_false_iff_not]; omega
        have hin1 : decide (i < n) = false := decide_eq_false hin0
        rw [List.append_nil] at hX hY hr
        rw [List.append_nil] at hr
        rw [← hX, ← hY] at hr
        have HR := Lib.hid hr
        clear hr hX hY hXY hi hlx hly
        go_wp2_with fail
        (try simp only [Exit.inBlock, Exit.then])
        refine bodyPost_end (results_none rfl _ _ _) rfl ?_
        exact ⟨rfl, HR.out, hk⟩
      · exfalso; simp at hlx hly; omega
    · rcases Y2 with _ | ⟨y, Y2⟩
      · exfalso; simp at hlx hly; omega
      rw [List.length_cons] at hlx hly
      have hlt0 : i < n := by omega
      have hlt : decide ((i : Int) < (n : Int)) = true := by rw [decide_eq_true_iff]; omega
      have hlt1 : decide (i < n) = true := decide_eq_true hlt0
      obtain ⟨pa, hpa⟩ : ∃ pa, a + i = pa := ⟨_, rfl⟩
      obtain ⟨pb, hpb⟩ : ∃ pb, b + i = pb := ⟨_, rfl⟩
      have hlen : (P ++ (Y1 ++ x :: X2) ++ M ++ (X1 ++ y :: Y2) ++ R).length = N := by
        have h3 := HN.out
        have h1 := congrArg List.length hX
        have h2 := congrArg List.length hY
        simp only [List.length_append, List.length_cons] at h1 h2 h3 ⊢
        omega
      have hsw := swap_rng (P := P) (Y1 := Y1) (X2 := X2) (M := M) (X1 := X1) (Y2 := Y2) (R := R) (x := x) (y := y) (pa := pa) (pb := pb) (by rw [HA.out, hXY]; exact hpa) (by
        have h1 := HXN.out
        have h2 := HB.out
        have h3 := congrArg List.length hX
        simp only [List.length_append, List.length_cons] at h3
        omega)
      obtain ⟨gx, gy, hsw⟩ := hsw
      have l1 : pa < N := by rw [← hlen]; exact get_lt gx
      have l2 : pb < N := by rw [← hlen]; exact get_lt gy
      have l3 : (pa : Int) < (N : Int) := by omega
      have l4 : (pb : Int) < (N : Int) := by omega
      have l5 : (0 : Int) ≤ (pa : Int) := by omega
      have l6 : (0 : Int) ≤ (pb : Int) := by omega
      have e1 : (a : Int) + (i : Int) = (pa : Int) := by omega
      have e2 : (b : Int) + (i : Int) = (pb : Int) := by omega
      have jw1 : IntKind.i64.wrap (pa : Int) = (pa : Int) := so_wrap (by omega) (by omega)
      have jw2 : IntKind.i64.wrap (pb : Int) = (pb : Int) := so_wrap (by omega) (by omega)
      have HX := Lib.hid hX
      have HY := Lib.hid hY
      have HXY := Lib.hid hXY
      have HI := Lib.hid hi
      have HSW := Lib.hid hsw
      have HLEN := Lib.hid hlen
      have HLX := Lib.hid gx
      have HLY := Lib.hid gy
      have HLL := Lib.hid (And.intro hlx hly)
      have HPP := Lib.hid (And.intro hpa hpb)
      have HR := Lib.hid hr
      clear hX hY hXY hi hsw hlen gx gy hlx hly hpa hpb hr
      go_wp2_with fail
      have hSd : (fun _ : World => True) wr.drew := trivial
      refine wp_region_held_drew (S := fun _ => True) (by kernel_rfl) hSd (fun hHeld => ?_)
      have hr2 := HR.out.kept (Below.refl _ wr).drew
      have hk2 := hk.trans (KpG.of (Below.refl _ wr).drew)
      generalize wr.drew = we at hHeld hr2 hk2 ⊢
      clear hk
      obtain ⟨x0, x1, x2, x3, x4, x5, x6⟩ := hr2.cells HLX.out
      obtain ⟨y0, y1, y2, y3, y4, y5, y6⟩ := hr2.cells HLY.out
      refine wpAnyH_take (i := 0) (oi := ?_) (v := ?_) ?_ (by kernel_rfl) (by kernel_rfl) (by kernel_rfl) ?_ (Or.inl ⟨?_, ?_⟩) (by assumption) ?_
      rotate_left 2
      · (simp only [List.getElem?_toArray, List.getElem?_cons_zero]; rfl)
      · first | exact fun _ _ _ h => h | exact fun _ _ _ h => by cases h.1
      · rfl
      · ((intro wq hSq; (try dsimp only at hSq); go_simp); (try with_reducible rfl))
      try simp only [Act.put, List.setIfInBounds_toArray, List.set_cons_zero, List.set_cons_succ]
      refine wpAnyH_take (i := 1) (oi := ?_) (v := ?_) ?_ (by kernel_rfl) (by kernel_rfl) (by kernel_rfl) ?_ (Or.inl ⟨?_, ?_⟩) (by assumption) ?_
      rotate_left 2
      · (simp only [List.getElem?_toArray, List.getElem?_cons_succ, List.getElem?_cons_zero]; rfl)
      · first | exact fun _ _ _ h => h | exact fun _ _ _ h => by cases h.1
      · rfl
      · ((intro wq hSq; (try dsimp only at hSq); go_simp); (try with_reducible rfl))
      try simp only [Act.put, List.setIfInBounds_toArray, List.set_cons_zero, List.set_cons_succ]
      refine wpAnyH_take (i := 2) (oi := ?_) (v := ?_) ?_ (by kernel_rfl) (by kernel_rfl) (by kernel_rfl) ?_ (Or.inl ⟨?_, ?_⟩) (by assumption) ?_
      rotate_left 2
      · (simp only [List.getElem?_toArray, List.getElem?_cons_succ, List.getElem?_cons_zero]; rfl)
      · first | exact fun _ _ _ h => h | exact fun _ _ _ h => by cases h.1
      · rfl
      · ((intro wq hSq; (try dsimp only at hSq); go_simp); (try with_reducible rfl))
      try simp only [Act.put, List.setIfInBounds_toArray, List.set_cons_zero, List.set_cons_succ]
      refine wpAnyH_take (i := 3) (oi := ?_) (v := ?_) ?_ (by kernel_rfl) (by kernel_rfl) (by kernel_rfl) ?_ (Or.inl ⟨?_, ?_⟩) (by assumption) ?_
      rotate_left 2
      · (simp only [List.getElem?_toArray, List.getElem?_cons_succ, List.getElem?_cons_zero]; rfl)
      · first | exact fun _ _ _ h => h | exact fun _ _ _ h => by cases h.1
      · rfl
      · ((intro wq hSq; (try dsimp only at hSq); go_simp); (try with_reducible rfl))
      try simp only [Act.put, List.setIfInBounds_toArray, List.set_cons_zero, List.set_cons_succ]
      refine wpAnyH_take (i := 4) (oi := ?_) (v := ?_) ?_ (by kernel_rfl) (by kernel_rfl) (by kernel_rfl) ?_ (Or.inl ⟨?_, ?_⟩) (by assumption) ?_
      rotate_left 2
      · (simp only [List.getElem?_toArray, List.getElem?_cons_succ, List.getElem?_cons_zero]; rfl)
      · first | exact fun _ _ _ h => h | exact fun _ _ _ h => by cases h.1
      · rfl
      · ((intro wq hSq; (try dsimp only at hSq); go_simp); (try with_reducible rfl))
      try simp only [Act.put, List.setIfInBounds_toArray, List.set_cons_zero, List.set_cons_succ]
      refine wpAnyH_take (i := 5) (oi := ?_) (v := ?_) ?_ (by kernel_rfl) (by kernel_rfl) (by kernel_rfl) ?_ (Or.inl ⟨?_, ?_⟩) (by assumption) ?_
      rotate_left 2
      · (simp only [List.getElem?_toArray, List.getElem?_cons_succ, List.getElem?_cons_zero]; rfl)
      · first | exact fun _ _ _ h => h | exact fun _ _ _ h => by cases h.1
      · rfl
      · ((intro wq hSq; (try dsimp only at hSq); go_simp); (try with_reducible rfl))
      try simp only [Act.put, List.setIfInBounds_toArray, List.set_cons_zero, List.set_cons_succ]
      refine wpAnyH_take (i := 6) (oi := ?_) (v := ?_) ?_ (by kernel_rfl) (by kernel_rfl) (by kernel_rfl) ?_ (Or.inl ⟨?_, ?_⟩) (by assumption) ?_
      rotate_left 2
      · (simp only [List.getElem?_toArray, List.getElem?_cons_succ, List.getElem?_cons_zero]; rfl)
      · first | exact fun _ _ _ h => h | exact fun _ _ _ h => by cases h.1
      · rfl
      · ((intro wq hSq; (try dsimp only at hSq); go_simp); (try with_reducible rfl))
      try simp only [Act.put, List.setIfInBounds_toArray, List.set_cons_zero, List.set_cons_succ]
      refine wpAnyH_take (i := 7) (oi := ?_) (v := ?_) ?_ (by kernel_rfl) (by kernel_rfl) (by kernel_rfl) ?_ (Or.inl ⟨?_, ?_⟩) (by assumption) ?_
      rotate_left 2
      · (simp only [List.getElem?_toArray, List.getElem?_cons_succ, List.getElem?_cons_zero]; rfl)
      · first | exact fun _ _ _ h => h | exact fun _ _ _ h => by cases h.1
      · rfl
      · ((intro wq hSq; (try dsimp only at hSq); go_simp); (try with_reducible rfl))
      try simp only [Act.put, List.setIfInBounds_toArray, List.set_cons_zero, List.set_cons_succ]
      refine wpAnyH_take (i := 8) (oi := ?_) (v := ?_) ?_ (by kernel_rfl) (by kernel_rfl) (by kernel_rfl) ?_ (Or.inl ⟨?_, ?_⟩) (by assumption) ?_
      rotate_left 2
      · (simp only [List.getElem?_toArray, List.getElem?_cons_succ, List.getElem?_cons_zero]; rfl)
      · first | exact fun _ _ _ h => h | exact fun _ _ _ h => by cases h.1
      · rfl
      · ((intro wq hSq; (try dsimp only at hSq); go_simp); (try with_reducible rfl))
      try simp only [Act.put, List.setIfInBounds_toArray, List.set_cons_zero, List.set_cons_succ]
      refine wpAnyH_take (i := 9) (oi := ?_) (v := ?_) ?_ (by kernel_rfl) (by kernel_rfl) (by kernel_rfl) ?_ (Or.inl ⟨?_, ?_⟩) (by assumption) ?_
      rotate_left 2
      · (simp only [List.getElem?_toArray, List.getElem?_cons_succ, List.getElem?_cons_zero]; rfl)
      · first | exact fun _ _ _ h => h | exact fun _ _ _ h => by cases h.1
      · rfl
      · ((intro wq hSq; (try dsimp only at hSq); go_simp); (try with_reducible rfl))
      try simp only [Act.put, List.setIfInBounds_toArray, List.set_cons_zero, List.set_cons_succ]
      refine wpAnyH_take (i := 10) (oi := ?_) (v := ?_) ?_ (by kernel_rfl) (by kernel_rfl) (by kernel_rfl) ?_ (Or.inl ⟨?_, ?_⟩) (by assumption) ?_
      rotate_left 2
      · (simp only [List.getElem?_toArray, List.getElem?_cons_succ, List.getElem?_cons_zero]; rfl)
      · first | exact fun _ _ _ h => h | exact fun _ _ _ h => by cases h.1
      · rfl
      · ((intro wq hSq; (try dsimp only at hSq); go_simp); (try with_reducible rfl))
      try simp only [Act.put, List.setIfInBounds_toArray, List.set_cons_zero, List.set_cons_succ]
      refine wpAnyH_take (i := 11) (oi := ?_) (v := ?_) ?_ (by kernel_rfl) (by kernel_rfl) (by kernel_rfl) ?_ (Or.inl ⟨?_, ?_⟩) (by assumption) ?_
      rotate_left 2
      · (simp only [List.getElem?_toArray, List.getElem?_cons_succ, List.getElem?_cons_zero]; rfl)
      · first | exact fun _ _ _ h => h | exact fun _ _ _ h => by cases h.1
      · rfl
      · ((intro wq hSq; (try dsimp only at hSq); go_simp); (try with_reducible rfl))
      try simp only [Act.put, List.setIfInBounds_toArray, List.set_cons_zero, List.set_cons_succ]
      refine wpAnyH_take (i := 12) (oi := ?_) (v := ?_) ?_ (by kernel_rfl) (by kernel_rfl) (by kernel_rfl) ?_ (Or.inl ⟨?_, ?_⟩) (by assumption) ?_
      rotate_left 2
      · (simp only [List.getElem?_toArray, List.getElem?_cons_succ, List.getElem?_cons_zero]; rfl)
      · first | exact fun _ _ _ h => h | exact fun _ _ _ h => by cases h.1
      · rfl
      · ((intro wq hSq; (try dsimp only at hSq); go_simp); (try with_reducible rfl))
      try simp only [Act.put, List.setIfInBounds_toArray, List.set_cons_zero, List.set_cons_succ]
      refine wpAnyH_take (i := 14) (oi := ?_) (v := ?_) ?_ (by kernel_rfl) (by kernel_rfl) (by kernel_rfl) ?_ (Or.inl ⟨?_, ?_⟩) (by assumption) ?_
      rotate_left 2
      · (simp only [List.getElem?_toArray, List.getElem?_cons_succ, List.getElem?_cons_zero]; rfl)
      · first | exact fun _ _ _ h => h | exact fun _ _ _ h => by cases h.1
      · rfl
      · ((intro wq hSq; (try dsimp only at hSq); go_simp); (try with_reducible rfl))
      try simp only [Act.put, List.setIfInBounds_toArray, List.set_cons_zero, List.set_cons_succ]
      refine wpAnyH_take (i := 15) (oi := ?_) (v := ?_) ?_ (by kernel_rfl) (by kernel_rfl) (by kernel_rfl) ?_ (Or.inl ⟨?_, ?_⟩) (by assumption) ?_
      rotate_left 2
      · (simp only [List.getElem?_toArray, List.getElem?_cons_succ, List.getElem?_cons_zero]; rfl)
      · first | exact fun _ _ _ h => h | exact fun _ _ _ h => by cases h.1
      · rfl
      · ((intro wq hSq; (try dsimp only at hSq); go_simp); (try with_reducible rfl))
      try simp only [Act.put, List.setIfInBounds_toArray, List.set_cons_zero, List.set_cons_succ]
      refine wpAnyH_take (i := 16) (oi := ?_) (v := ?_) ?_ (by kernel_rfl) (by kernel_rfl) (by kernel_rfl) ?_ (Or.inl ⟨?_, ?_⟩) (by assumption) ?_
      rotate_left 2
      · (simp only [List.getElem?_toArray, List.getElem?_cons_succ, List.getElem?_cons_zero]; rfl)
      · first | exact fun _ _ _ h => h | exact fun _ _ _ h => by cases h.1
      · rfl
      · ((intro wq hSq; (try dsimp only at hSq); go_simp); (try with_reducible rfl))
      try simp only [Act.put, List.setIfInBounds_toArray, List.set_cons_zero, List.set_cons_succ]
      refine wpAnyH_take (i := 17) (oi := ?_) (v := ?_) ?_ (by kernel_rfl) (by kernel_rfl) (by kernel_rfl) ?_ (Or.inl ⟨?_, ?_⟩) (by assumption) ?_
      rotate_left 2
      · (simp only [List.getElem?_toArray, List.getElem?_cons_succ, List.getElem?_cons_zero]; rfl)
      · first | exact fun _ _ _ h => h | exact fun _ _ _ h => by cases h.1
      · rfl
      · ((intro wq hSq; (try dsimp only at hSq); go_simp); (try with_reducible rfl))
      try simp only [Act.put, List.setIfInBounds_toArray, List.set_cons_zero, List.set_cons_succ]
      refine wpAnyH_take (i := 18) (oi := ?_) (v := ?_) ?_ (by kernel_rfl) (by kernel_rfl) (by kernel_rfl) ?_ (Or.inl ⟨?_, ?_⟩) (by assumption) ?_
      rotate_left 2
      · (simp only [List.getElem?_toArray, List.getElem?_cons_succ, List.getElem?_cons_zero]; rfl)
      · first | exact fun _ _ _ h => h | exact fun _ _ _ h => by cases h.1
      · rfl
      · ((intro wq hSq; (try dsimp only at hSq); go_simp); (try with_reducible rfl))
      try simp only [Act.put, List.setIfInBounds_toArray, List.set_cons_zero, List.set_cons_succ]
      refine wpAnyH_ready (rs := [13, 19]) (by kernel_rfl) (by simp) ?_
      refine AllReadyH.cons (o := ?_) ?_ (fun K hK => ?_) ?_
      rotate_left
      · (simp only [List.getElem?_toArray, List.getElem?_cons_succ, List.getElem?_cons_zero]; rfl)
      · go_simp
        refine hK.out _ _ trivial (fun hHeld => ?_)
        clear hK K
        try simp only [Act.put, List.setIfInBounds_toArray, List.set_cons_zero, List.set_cons_succ]
        refine wpAnyH_ready (rs := [19]) (by kernel_rfl) (by simp) ?_
        refine AllReadyH.cons (o := ?_) ?_ (fun K hK => ?_) AllReadyH.nil
        rotate_left
        · (simp only [List.getElem?_toArray, List.getElem?_cons_succ, List.getElem?_cons_zero]; rfl)
        go_simp
        refine hK.out _ _ trivial (fun hHeld => ?_)
        clear hK K
        try simp only [Act.put, List.setIfInBounds_toArray, List.set_cons_zero, List.set_cons_succ]
        refine wpAnyH_take (i := 20) (oi := ?_) (v := ?_) ?_ (by kernel_rfl) (by kernel_rfl) (by kernel_rfl) ?_ (Or.inl ⟨?_, ?_⟩) (by assumption) ?_
        rotate_left 2
        · (simp only [List.getElem?_toArray, List.getElem?_cons_succ, List.getElem?_cons_zero]; rfl)
        · first | exact fun _ _ _ h => h | exact fun _ _ _ h => by cases h.1
        · rfl
        · ((intro wq hSq; (try dsimp only at hSq); go_simp); (try with_reducible rfl))
        try simp only [Act.put, List.setIfInBounds_toArray, List.set_cons_zero, List.set_cons_succ]
        obtain ⟨ar1, hs1, hg1⟩ := hr2.store pa y (by rw [HLEN.out]; exact l1)
        refine wpAnyH_ready (rs := [21]) (by kernel_rfl) (by simp) ?_
        refine AllReadyH.cons (o := ?_) ?_ (fun K hK => ?_) AllReadyH.nil
        rotate_left
        · (simp only [List.getElem?_toArray, List.getElem?_cons_succ, List.getElem?_cons_zero]; rfl)
        refine step_store_at rfl 32 (.tmp 36) (.tmp 29) rfl ⟨g, pa * 7, none⟩ _ rfl rfl hs1 ?_
        refine hK.out _ _ trivial (fun hHeld => ?_)
        clear hK K
        try simp only [Act.put]
        refine wpAnyH_take (i := 22) (oi := ?_) (v := ?_) ?_ (by kernel_rfl) (by kernel_rfl) (by kernel_rfl) ?_ (Or.inl ⟨?_, ?_⟩) (by assumption) ?_
        rotate_left 2
        · (simp only [List.getElem?_toArray, List.getElem?_cons_succ, List.getElem?_cons_zero]; rfl)
        · first | exact fun _ _ _ h => h | exact fun _ _ _ h => by cases h.1
        · rfl
        · ((intro wq hSq; (try dsimp only at hSq); go_simp); (try with_reducible rfl))
        try simp only [Act.put, List.setIfInBounds_toArray, List.set_cons_zero, List.set_cons_succ]
        obtain ⟨ar2, hs2, hg2⟩ := hg1.store pb x (by rw [List.length_set, HLEN.out]; exact l2)
        refine wpAnyH_ready (rs := [23]) (by kernel_rfl) (by simp) ?_
        refine AllReadyH.cons (o := ?_) ?_ (fun K hK => ?_) AllReadyH.nil
        rotate_left
        · (simp only [List.getElem?_toArray, List.getElem?_cons_succ, List.getElem?_cons_zero]; rfl)
        refine step_store_at rfl 32 (.tmp 37) (.tmp 35) rfl ⟨g, pb * 7, none⟩ _ rfl rfl hs2 ?_
        refine hK.out _ _ trivial (fun hHeld => ?_)
        clear hK K
        try simp only [Act.put]
        rw [HSW.out] at hg2
        have hk3 := (hk2.row ar1).row ar2
        generalize (we.setRow g ar1).setRow g ar2 = wz at hg2 hk3 ⊢
        have HG2 := Lib.hid hg2
        have HK3 := Lib.hid hk3
        clear hg2 hk3 hk2 hr2 hg1 hs1 hs2 x0 x1 x2 x3 x4 x5 x6 y0 y1 y2 y3 y4 y5 y6
        refine wpAnyH_done (by kernel_rfl) ?_ _
        go_wp2_with fail
        go_roundw
        case rel => exact ⟨X1 ++ [x], X2, Y1 ++ [y], Y2, by rw [HX.out]; simp, by rw [HY.out]; simp, by simp [HXY.out, HI.out], val_int (by have := HI.out; simp; omega), HG2.out, HK3.out⟩
        case measure => simp [intOf]; omega
      · refine AllReadyH.cons (o := ?_) ?_ (fun K hK => ?_) AllReadyH.nil
        rotate_left
        · (simp only [List.getElem?_toArray, List.getElem?_cons_succ, List.getElem?_cons_zero]; rfl)
        go_simp
        refine hK.out _ _ trivial (fun hHeld => ?_)
        clear hK K
        try simp only [Act.put, List.setIfInBounds_toArray, List.set_cons_zero, List.set_cons_succ]
        refine wpAnyH_ready (rs := [13]) (by kernel_rfl) (by simp) ?_
        refine AllReadyH.cons (o := ?_) ?_ (fun K hK => ?_) AllReadyH.nil
        rotate_left
        · (simp only [List.getElem?_toArray, List.getElem?_cons_succ, List.getElem?_cons_zero]; rfl)
        go_simp
        refine hK.out _ _ trivial (fun hHeld => ?_)
        clear hK K
        try simp only [Act.put, List.setIfInBounds_toArray, List.set_cons_zero, List.set_cons_succ]
        refine wpAnyH_take (i := 20) (oi := ?_) (v := ?_) ?_ (by kernel_rfl) (by kernel_rfl) (by kernel_rfl) ?_ (Or.inl ⟨?_, ?_⟩) (by assumption) ?_
        rotate_left 2
        · (simp only [List.getElem?_toArray, List.getElem?_cons_succ, List.getElem?_cons_zero]; rfl)
        · first | exact fun _ _ _ h => h | exact fun _ _ _ h => by cases h.1
        · rfl
        · ((intro wq hSq; (try dsimp only at hSq); go_simp); (try with_reducible rfl))
        try simp only [Act.put, List.setIfInBounds_toArray, List.set_cons_zero, List.set_cons_succ]
        obtain ⟨ar1, hs1, hg1⟩ := hr2.store pa y (by rw [HLEN.out]; exact l1)
        refine wpAnyH_ready (rs := [21]) (by kernel_rfl) (by simp) ?_
        refine AllReadyH.cons (o := ?_) ?_ (fun K hK => ?_) AllReadyH.nil
        rotate_left
        · (simp only [List.getElem?_toArray, List.getElem?_cons_succ, List.getElem?_cons_zero]; rfl)
        refine step_store_at rfl 32 (.tmp 36) (.tmp 29) rfl ⟨g, pa * 7, none⟩ _ rfl rfl hs1 ?_
        refine hK.out _ _ trivial (fun hHeld => ?_)
        clear hK K
        try simp only [Act.put]
        refine wpAnyH_take (i := 22) (oi := ?_) (v := ?_) ?_ (by kernel_rfl) (by kernel_rfl) (by kernel_rfl) ?_ (Or.inl ⟨?_, ?_⟩) (by assumption) ?_
        rotate_left 2
        · (simp only [List.getElem?_toArray, List.getElem?_cons_succ, List.getElem?_cons_zero]; rfl)
        · first | exact fun _ _ _ h => h | exact fun _ _ _ h => by cases h.1
        · rfl
        · ((intro wq hSq; (try dsimp only at hSq); go_simp); (try with_reducible rfl))
        try simp only [Act.put, List.setIfInBounds_toArray, List.set_cons_zero, List.set_cons_succ]
        obtain ⟨ar2, hs2, hg2⟩ := hg1.store pb x (by rw [List.length_set, HLEN.out]; exact l2)
        refine wpAnyH_ready (rs := [23]) (by kernel_rfl) (by simp) ?_
        refine AllReadyH.cons (o := ?_) ?_ (fun K hK => ?_) AllReadyH.nil
        rotate_left
        · (simp only [List.getElem?_toArray, List.getElem?_cons_succ, List.getElem?_cons_zero]; rfl)
        refine step_store_at rfl 32 (.tmp 37) (.tmp 35) rfl ⟨g, pb * 7, none⟩ _ rfl rfl hs2 ?_
        refine hK.out _ _ trivial (fun hHeld => ?_)
        clear hK K
        try simp only [Act.put]
        rw [HSW.out] at hg2
        have hk3 := (hk2.row ar1).row ar2
        generalize (we.setRow g ar1).setRow g ar2 = wz at hg2 hk3 ⊢
        have HG2 := Lib.hid hg2
        have HK3 := Lib.hid hk3
        clear hg2 hk3 hk2 hr2 hg1 hs1 hs2 x0 x1 x2 x3 x4 x5 x6 y0 y1 y2 y3 y4 y5 y6
        refine wpAnyH_done (by kernel_rfl) ?_ _
        go_wp2_with fail
        go_roundw
        case rel => exact ⟨X1 ++ [x], X2, Y1 ++ [y], Y2, by rw [HX.out]; simp, by rw [HY.out]; simp, by simp [HXY.out, HI.out], val_int (by have := HI.out; simp; omega), HG2.out, HK3.out⟩
        case measure => simp [intOf]; omega

end Go.Proofs.Ytgmmblknaeepbaa

namespace Go.Proofs.Ytgmmblknaeepbaa
open Go.RowKit
attribute [local go_sem] Oper.semAt_some

/-- Where the rotation stands. -/
def RotAt (g m N : Nat) (P U V R : List El) (w : World) (i j : Nat) (wr : World) : Prop := ∃ A U' V' B, U'.length = i ∧ V'.length = j ∧ P.length + A.length + i = m ∧ A ++ V' ++ U' ++ B = V ++ U ∧ (P ++ A ++ U' ++ V' ++ B ++ R).length = N ∧ RowsG wr g (P ++ A ++ U' ++ V' ++ B ++ R) ∧ KpG g w wr
set_option maxRecDepth 100000 in
set_option maxHeartbeats 8000000 in
theorem rotate_any (g cap a m b N : Nat) (P U V R : List El) (w : World) (hg : RowsG w g (P ++ U ++ V ++ R)) (ha : P.length = a) (hm : P.length + U.length = m) (hb : P.length + U.length + V.length = b) (hU : 0 < U.length) (hV : 0 < V.length) (hN : (P ++ U ++ V ++ R).length = N) (hcap : N ≤ cap) (hbig : N ≤ 100000) :
    Calls Try.prog 73 #[.slice (some ⟨g, 0, none⟩) N cap, .int .i64 (a : Int), .int .i64 (m : Int), .int .i64 (b : Int), .func (.func 43) #[] #[]] w fun e w' => e = .returned (.tuple #[]) ∧ RowsG w' g (P ++ V ++ U ++ R) ∧ KpG g w w' := by
  have h0 : RotAt g m N P U V R w U.length V.length w := ⟨[], U, V, [], rfl, rfl, by simpa using hm, by simp, by simpa using hN, by simpa using hg, KpG.refl _ _⟩
  obtain ⟨i0, hi0⟩ : ∃ i0, U.length = i0 := ⟨_, rfl⟩
  obtain ⟨j0, hj0⟩ : ∃ j0, V.length = j0 := ⟨_, rfl⟩
  have e1 : (m : Int) - (a : Int) = (i0 : Int) := by omega
  have e2 : (b : Int) - (m : Int) = (j0 : Int) := by omega
  have hlN : i0 + j0 ≤ N ∧ m ≤ N ∧ b ≤ N := by simp only [List.length_append] at hN; omega
  have f1 : IntKind.i64.wrap (i0 : Int) = (i0 : Int) := so_wrap (by omega) (by omega)
  have f2 : IntKind.i64.wrap (j0 : Int) = (j0 : Int) := so_wrap (by omega) (by omega)
  rw [hi0, hj0] at h0
  rw [hi0] at hU
  rw [hj0] at hV
  have H0 := Lib.hid h0
  have HL := Lib.hid hlN
  clear hg ha hm hb hN hi0 hj0 h0 hlN
  go_enter Try.func73, Try.ntmps73
  go_wp2_with fail
  go_loopw [10, 11] (fun i j wr => ∃ i' j' : Nat, i = .int .i64 (i' : Int) ∧ j = .int .i64 (j' : Int) ∧ 0 < i' ∧ 0 < j' ∧ i' ≤ i0 ∧ j' ≤ j0 ∧ RotAt g m N P U V R w i' j' wr) (fun i j _ => (intOf i).toNat + (intOf j).toNat)
  case atStart => exact ⟨i0, j0, rfl, rfl, hU, hV, Nat.le_refl _, Nat.le_refl _, H0.out⟩
  case round =>
    clear H0 hU hV e1 e2 f1 f2
    obtain ⟨i, j, rfl, rfl, hi, hj, hi0, hj0, hrot⟩ := hrel
    have hb1 := HL.out
    have hmi : i ≤ m := by
      obtain ⟨A, U', V', B, q1, q2, q3, q4, q5, q6, q7⟩ := hrot
      omega
    obtain ⟨p, hp⟩ : ∃ p, m - i = p := ⟨_, rfl⟩
    have e1 : (m : Int) - (i : Int) = (p : Int) := by omega
    have jw : IntKind.i64.wrap (p : Int) = (p : Int) := so_wrap (by omega) (by omega)
    rcases Nat.lt_trichotomy i j with hij | hij | hij
    · have c1 : ((i : Int) != (j : Int)) = true := by simp; omega
      have c2 : (i != j) = true := by simp; omega
      have c3 : decide ((j : Int) < (i : Int)) = false := by rw [decide_eq_false_iff_not]; omega
      have c4 : decide (j < i) = false := by rw [decide_eq_false_iff_not]; omega
      have c5 : ¬ i = j := by omega
      have c6 : ¬ j < i := by omega
      have c7 : ¬ (i : Int) = (j : Int) := by omega
      obtain ⟨q, hq⟩ : ∃ q, m + (j - i) = q := ⟨_, rfl⟩
      obtain ⟨s, hs⟩ : ∃ s, m + j = s := ⟨_, rfl⟩
      obtain ⟨d, hd⟩ : ∃ d, j - i = d := ⟨_, rfl⟩
      have e2 : (m : Int) + (j : Int) = (s : Int) := by omega
      have e3 : (s : Int) - (i : Int) = (q : Int) := by omega
      have e4 : (j : Int) - (i : Int) = (d : Int) := by omega
      have jw2 : IntKind.i64.wrap (q : Int) = (q : Int) := so_wrap (by omega) (by omega)
      have jw3 : IntKind.i64.wrap (d : Int) = (d : Int) := so_wrap (by omega) (by omega)
      have jw4 : IntKind.i64.wrap (s : Int) = (s : Int) := so_wrap (by omega) (by omega)
      have hgo : ∃ P' X M Y R', RowsG wr g (P' ++ X ++ M ++ Y ++ R') ∧ P'.length = p ∧ P'.length + X.length + M.length = q ∧ X.length = i ∧ Y.length = i ∧ (P' ++ X ++ M ++ Y ++ R').length = N ∧ (∀ w1, RowsG w1 g (P' ++ Y ++ M ++ X ++ R') → KpG g wr w1 → RotAt g m N P U V R w i d w1) := by
        obtain ⟨A, U', V', B, q1, q2, q3, q4, q5, q6, q7⟩ := hrot
        have hv : V'.take (j - i) ++ V'.drop (j - i) = V' := List.take_append_drop _ _
        have l1 : (V'.take (j - i)).length = j - i := by rw [List.length_take]; omega
        have l2 : (V'.drop (j - i)).length = i := by rw [List.length_drop]; omega
        generalize V'.take (j - i) = V1 at hv l1
        generalize V'.drop (j - i) = V2 at hv l2
        subst hv
        refine ⟨P ++ A, U', V1, V2, B ++ R, by simpa using q6, by simp; omega, by simp; omega, q1, l2, by simpa using q5, fun w1 g1 k1 => ⟨A, V2, V1, U' ++ B, l2, by omega, by omega, by simpa using q4, ?_, by simpa using g1, q7.trans k1⟩⟩
        have := q5
        simp only [List.length_append] at this ⊢
        omega
      obtain ⟨P', X, M, Y, R', r1, r2, r3, r4, r5, r6, r7⟩ := hgo
      have hcall := Lib.hid (swapRange_any g cap p q i N P' X M Y R' wr r1 r2 r3 r4 r5 r6 hcap hbig)
      have R7 := Lib.hid r7
      have HD := Lib.hid hd
      clear r1 r2 r3 r4 r5 r6 r7 hrot hp hq hs hd hb1
      go_wp2_with fail
      refine hcall.out.mono ?_
      rintro e1 w1 ⟨rfl, hg1, hk1⟩
      have hro := Lib.hid (R7.out w1 hg1 hk1)
      clear hg1 hk1
      go_wp2_with fail
      go_roundw
      case rel => exact ⟨i, d, rfl, rfl, hi, by have := HD.out; omega, hi0, by have := HD.out; omega, hro.out⟩
      case measure => have := HD.out; simp [intOf]; omega
    · subst hij
      have c1 : ((i : Int) != (i : Int)) = false := by simp
      have c2 : (i != i) = false := by simp
      have hgo : ∃ P' X M Y R', RowsG wr g (P' ++ X ++ M ++ Y ++ R') ∧ P'.length = p ∧ P'.length + X.length + M.length = m ∧ X.length = i ∧ Y.length = i ∧ (P' ++ X ++ M ++ Y ++ R').length = N ∧ (∀ w1, RowsG w1 g (P' ++ Y ++ M ++ X ++ R') → KpG g wr w1 → RowsG w1 g (P ++ V ++ U ++ R) ∧ KpG g w w1) := by
        obtain ⟨A, U', V', B, q1, q2, q3, q4, q5, q6, q7⟩ := hrot
        refine ⟨P ++ A, U', [], V', B ++ R, by simpa using q6, by simp; omega, by simp; omega, q1, q2, by simpa using q5, fun w1 g1 k1 => ⟨?_, q7.trans k1⟩⟩
        have e : P ++ V ++ U ++ R = (P ++ A) ++ V' ++ [] ++ U' ++ (B ++ R) := by
          rw [List.append_assoc P V U, ← q4]
          simp
        rw [e]
        exact g1
      obtain ⟨P', X, M, Y, R', r1, r2, r3, r4, r5, r6, r7⟩ := hgo
      have hcall := Lib.hid (swapRange_any g cap p m i N P' X M Y R' wr r1 r2 r3 r4 r5 r6 hcap hbig)
      have R7 := Lib.hid r7
      clear r1 r2 r3 r4 r5 r6 r7 hrot hp hb1
      go_wp2_with fail
      refine hcall.out.mono ?_
      rintro e1 w1 ⟨rfl, hg1, hk1⟩
      have hro := Lib.hid (R7.out w1 hg1 hk1)
      clear hg1 hk1
      go_wp2_with fail
      (try simp only [Exit.inBlock, Exit.then])
      refine bodyPost_end (results_none rfl _ _ _) rfl ?_
      exact ⟨rfl, hro.out⟩
    · have c1 : ((i : Int) != (j : Int)) = true := by simp; omega
      have c2 : (i != j) = true := by simp; omega
      have c3 : decide ((j : Int) < (i : Int)) = true := by rw [decide_eq_true_iff]; omega
      have c4 : decide (j < i) = true := by rw [decide_eq_true_iff]; omega
      have c5 : ¬ i = j := by omega
      have c7 : ¬ (i : Int) = (j : Int) := by omega
      obtain ⟨d, hd⟩ : ∃ d, i - j = d := ⟨_, rfl⟩
      have e4 : (i : Int) - (j : Int) = (d : Int) := by omega
      have jw3 : IntKind.i64.wrap (d : Int) = (d : Int) := so_wrap (by omega) (by omega)
      have hgo : ∃ P' X M Y R', RowsG wr g (P' ++ X ++ M ++ Y ++ R') ∧ P'.length = p ∧ P'.length + X.length + M.length = m ∧ X.length = j ∧ Y.length = j ∧ (P' ++ X ++ M ++ Y ++ R').length = N ∧ (∀ w1, RowsG w1 g (P' ++ Y ++ M ++ X ++ R') → KpG g wr w1 → RotAt g m N P U V R w d j w1) := by
        obtain ⟨A, U', V', B, q1, q2, q3, q4, q5, q6, q7⟩ := hrot
        have hv : U'.take j ++ U'.drop j = U' := List.take_append_drop _ _
        have l1 : (U'.take j).length = j := by rw [List.length_take]; omega
        have l2 : (U'.drop j).length = i - j := by rw [List.length_drop]; omega
        generalize U'.take j = U1 at hv l1
        generalize U'.drop j = U2 at hv l2
        subst hv
        refine ⟨P ++ A, U1, U2, V', B ++ R, by simpa using q6, by simp; omega, by simp; omega, l1, q2, by simpa using q5, fun w1 g1 k1 => ⟨A ++ V', U2, U1, B, by omega, l1, by simp; omega, by simpa using q4, ?_, by simpa using g1, q7.trans k1⟩⟩
        have := q5
        simp only [List.length_append] at this ⊢
        omega
      obtain ⟨P', X, M, Y, R', r1, r2, r3, r4, r5, r6, r7⟩ := hgo
      have hcall := Lib.hid (swapRange_any g cap p m j N P' X M Y R' wr r1 r2 r3 r4 r5 r6 hcap hbig)
      have R7 := Lib.hid r7
      have HD := Lib.hid hd
      clear r1 r2 r3 r4 r5 r6 r7 hrot hp hd hb1
      go_wp2_with fail
      refine hcall.out.mono ?_
      rintro e1 w1 ⟨rfl, hg1, hk1⟩
      have hro := Lib.hid (R7.out w1 hg1 hk1)
      clear hg1 hk1
      go_wp2_with fail
      go_roundw
      case rel => exact ⟨d, j, rfl, rfl, by have := HD.out; omega, hj, by have := HD.out; omega, hj0, hro.out⟩
      case measure => have := HD.out; simp [intOf]; omega

end Go.Proofs.Ytgmmblknaeepbaa
