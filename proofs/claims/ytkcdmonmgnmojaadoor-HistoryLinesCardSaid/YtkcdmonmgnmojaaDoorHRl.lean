/- The reference's line of a call. -/
import Derived.Test.YtkcdmonmgnmojaaDoorHis3
import Derived.Test.YtkcdmonmgnmojaaDoorHLnP
import Derived.Test.YtkcdmonmgnmojaaDoorNum
import Derived.Test.YtkcdmonmgnmojaaDoorRShow
import Derived.Test.YtkcdmonmgnmojaaDoorHeld
namespace Go.Proofs.YtkcdmonmgnmojaaDoor
open Go.RowKit

def opsB : List ByteArray := [⟨#[]⟩, ⟨#[114, 101, 97, 100]⟩, ⟨#[119, 114, 105, 116, 101]⟩, ⟨#[112, 117, 116]⟩, ⟨#[116, 97, 107, 101]⟩]
def codesB : List ByteArray := [⟨#[103, 111, 111, 100]⟩, ⟨#[114, 101, 116, 114, 121]⟩, ⟨#[102, 117, 108, 108]⟩, ⟨#[101, 109, 112, 116, 121]⟩]
theorem rops_any (w : World) : Calls Tryd.prog 70 #[] w fun e w' => ∃ b, e = .returned (.slice (some ⟨b, 0, none⟩) 5 5) ∧ (∀ (j : Nat) x, opsB[j]? = some x → w'.cell? ⟨b, j, none⟩ = some (.string x)) ∧ w.heap.size ≤ b ∧ b < w'.heap.size ∧ Below w.heap.size w w' := by
  go_enter Tryd.func70, Tryd.ntmps70
  go_wp2_with fail
  go_ret
  refine ⟨_, rfl, fun j x hx => ?_, Nat.le_refl _, by simp, (Below.refl _ w).alloc (Nat.le_refl _) _⟩
  have h1 := cells_new w (opsB.map Value.string).toArray 9 j
  rw [Addr.add_lit, Nat.zero_add, List.getElem?_toArray, List.getElem?_map, hx] at h1
  exact h1
theorem rcodes_any (w : World) : Calls Tryd.prog 71 #[] w fun e w' => ∃ b, e = .returned (.slice (some ⟨b, 0, none⟩) 4 4) ∧ (∀ (j : Nat) x, codesB[j]? = some x → w'.cell? ⟨b, j, none⟩ = some (.string x)) ∧ w.heap.size ≤ b ∧ b < w'.heap.size ∧ Below w.heap.size w w' := by
  go_enter Tryd.func71, Tryd.ntmps71
  go_wp2_with fail
  go_ret
  refine ⟨_, rfl, fun j x hx => ?_, Nat.le_refl _, by simp, (Below.refl _ w).alloc (Nat.le_refl _) _⟩
  have h1 := cells_new w (codesB.map Value.string).toArray 9 j
  rw [Addr.add_lit, Nat.zero_add, List.getElem?_toArray, List.getElem?_map, hx] at h1
  exact h1
theorem opsB_at {k : Nat} (h : 1 ≤ (k : Int) ∧ (k : Int) ≤ 4) : opsB[k]? = some (opS (k : Int)) := by
  have : k = 1 ∨ k = 2 ∨ k = 3 ∨ k = 4 := by omega
  rcases this with rfl | rfl | rfl | rfl <;> rfl
theorem codesB_at {k : Nat} (h : 0 ≤ (k : Int) ∧ (k : Int) ≤ 3) : codesB[k]? = some (codeS (k : Int)) := by
  have : k = 0 ∨ k = 1 ∨ k = 2 ∨ k = 3 := by omega
  rcases this with rfl | rfl | rfl | rfl <;> rfl
theorem opS_size (q : Int) : (opS q).size ≤ 14 := by
  have : (opS q).size = (opW q).length := by simp [opS, ByteArray.size]
  rw [this]
  exact wordsH_len opsW (by decide) _
theorem codeS_size (q : Int) : (codeS q).size ≤ 14 := by
  have : (codeS q).size = (codeW q).length := by simp [codeS, ByteArray.size]
  rw [this]
  exact wordsH_len codesW (by decide) _
theorem rendS_num {e : Int} (h : 0 ≤ e) : numS e.toNat = endS e := by
  unfold endS endW
  rw [if_pos h]
  rfl
theorem rl_six (x : Cl) (h : x.r = []) : numS x.p.toNat ++ ⟨#[32]⟩ ++ numS x.o.toNat ++ ⟨#[32]⟩ ++ opS x.q ++ ⟨#[32]⟩ ++ numS x.b.toNat ++ ⟨#[32]⟩ ++ endS x.e ++ ⟨#[32]⟩ ++ codeS x.c = lineHS x := by
  apply ByteArray.ext
  rw [← Array.toList_inj]
  simp [lineHS, ← line_six h, sixB, Lib.join_cons, Lib.joinTail]
theorem rl_rec (x : Cl) (h : x.r ≠ []) : numS x.p.toNat ++ ⟨#[32]⟩ ++ numS x.o.toNat ++ ⟨#[32]⟩ ++ opS x.q ++ ⟨#[32]⟩ ++ numS x.b.toNat ++ ⟨#[32]⟩ ++ endS x.e ++ ⟨#[32]⟩ ++ codeS x.c ++ ⟨#[32]⟩ ++ recT x.r = lineHS x := by
  apply ByteArray.ext
  rw [← Array.toList_inj]
  simp [lineHS, ← line_rec h, sixB, Lib.join_cons, Lib.joinTail]

/-- What the region of the reference's Line keeps. -/
def RLt (w2 : World) (n : Nat) (x : Cl) (A : Option Addr) (c : Nat) (w' : World) : Prop :=
  Below w2.heap.size w2 w' ∧ w'.cell? ⟨n, 0, none⟩ = some (.int .i64 x.p) ∧ w'.cell? ⟨n, 1, none⟩ = some (.int .i64 x.o) ∧ w'.cell? ⟨n, 2, none⟩ = some (.int .i64 x.q) ∧ w'.cell? ⟨n, 3, none⟩ = some (.slice A x.r.length c) ∧ w'.cell? ⟨n, 4, none⟩ = some (.int .i64 x.c) ∧ w'.cell? ⟨n, 5, none⟩ = some (.int .i64 x.b)
section
variable {w2 w w' : World} {n : Nat} {x : Cl} {A : Option Addr} {c : Nat} {a1 a2 : Addr} {v1 v2 : Value}
theorem RLt.below (h : RLt w2 n x A c w) (hb : Below w.heap.size w w') : RLt w2 n x A c w' := by
  obtain ⟨h1, a0, a1, a2, a3, a4, a5⟩ := h
  have hk : ∀ {i : Nat} {u : Value}, w.cell? ⟨n, i, none⟩ = some u → w'.cell? ⟨n, i, none⟩ = some u := fun {i u} hc => (hb.cell (p := ⟨n, i, none⟩) (cell_lt hc)).trans hc
  exact ⟨h1.trans (hb.mono h1.size), hk a0, hk a1, hk a2, hk a3, hk a4, hk a5⟩
theorem RLt.drew (h : RLt w2 n x A c w) : RLt w2 n x A c w.drew := h.below (Below.refl _ w).drew
theorem RLt2.below (h : RLt w2 n x A c w ∧ w.cell? a1 = some v1) (hb : Below w.heap.size w w') : RLt w2 n x A c w' ∧ w'.cell? a1 = some v1 := ⟨h.1.below hb, (hb.cell (cell_lt h.2)).trans h.2⟩
end

set_option maxRecDepth 100000 in
set_option maxHeartbeats 4000000 in
theorem rline_a (p o q : Int) (r : List Int) (cc b e : Int) (A : Option Addr) (c : Nat) (w : World) (h : clB ⟨p, o, q, r, cc, b, e⟩ = true) (he : 0 ≤ e) (hrr : r ≠ []) (hA : Ws w w.heap.size A r) :
    Calls Tryd.prog 31 #[.agg #[.int .i64 p, .int .i64 o, .int .i64 q, .slice A r.length c, .int .i64 cc, .int .i64 b, .int .i64 e]] w fun r' w' => r' = .returned (.string (lineHS ⟨p, o, q, r, cc, b, e⟩)) ∧ Below w.heap.size w w' := by
  obtain ⟨bp, bo, bb, bq, bc, be, br⟩ := clB_iff.1 h
  simp only at bp bo bb bq bc be br
  clear h
  have hfin := rl_rec ⟨p, o, q, r, cc, b, e⟩ hrr
  simp only at hfin
  have n0 := fun W => num_any (p.toNat + 1) p.toNat p W (by omega) (by omega) (by omega)
  have n1 := fun W => num_any (o.toNat + 1) o.toNat o W (by omega) (by omega) (by omega)
  have n3 := fun W => num_any (b.toNat + 1) b.toNat b W (by omega) (by omega) (by omega)
  have l0 : (numS p.toNat).size ≤ 20 := numS_le (by omega)
  have l1 : (numS o.toNat).size ≤ 20 := numS_le (by omega)
  have l3 : (numS b.toNat).size ≤ 20 := numS_le (by omega)
  have l2 := opS_size q
  have l5 := codeS_size cc
  have n4 := fun W => num_any (e.toNat + 1) e.toNat e W (by omega) (by omega) (by omega)
  have l4 : (numS e.toNat).size ≤ 20 := numS_le (by omega)
  rw [rendS_num he] at n4 l4
  obtain ⟨E, hE⟩ : ∃ E, endS e = E := ⟨_, rfl⟩
  rw [hE] at n4 l4 hfin
  have he1 : decide (0 ≤ e) = true := decide_eq_true he
  have n4' := Lib.hid n4
  clear n4
  have hsh := fun (W : World) (hb : Below w.heap.size w W) => refShow_any A c r W (by omega) (hA.below hb hb.size)
  have hshE : showS r = recT r := rfl
  have l6 : (recT r).size ≤ 1000 := by
    have h1 := showL_len r (fun z hz => by
      obtain ⟨i, hi⟩ := List.getElem?_of_mem hz
      exact (hA.get hi).1.2.2) r.length (Nat.le_refl _)
    rw [List.take_length] at h1
    have h2 : (recT r).size = (showL r).length := by simp [recT, showL, ByteArray.size]
    omega
  rw [hshE] at hsh
  obtain ⟨R, hR⟩ : ∃ R, recT r = R := ⟨_, rfl⟩
  rw [hR] at hsh l6 hfin
  have hsw : decide (0 < r.length) = true := by
    rw [decide_eq_true_iff]
    rcases r with _ | ⟨a, t⟩
    · exact absurd rfl hrr
    · simp
  have hrr' := Lib.hid hrr
  have hsh' := Lib.hid hsh
  clear hrr hsh hR hshE
  have hop : ∀ k : Nat, q = (k : Int) → opsB[k]? = some (opS q) := fun k hk => by rw [hk]; exact opsB_at (by omega)
  have hco : ∀ k : Nat, cc = (k : Int) → codesB[k]? = some (codeS cc) := fun k hk => by rw [hk]; exact codesB_at (by omega)
  obtain ⟨P0, hS0⟩ : ∃ S, numS p.toNat = S := ⟨_, rfl⟩
  obtain ⟨P1, hS1⟩ : ∃ S, numS o.toNat = S := ⟨_, rfl⟩
  obtain ⟨P2, hS2⟩ : ∃ S, opS q = S := ⟨_, rfl⟩
  obtain ⟨P3, hS3⟩ : ∃ S, numS b.toNat = S := ⟨_, rfl⟩
  obtain ⟨P5, hS5⟩ : ∃ S, codeS cc = S := ⟨_, rfl⟩
  rw [hS0] at n0 l0
  rw [hS1] at n1 l1
  rw [hS2] at hop l2
  rw [hS3] at n3 l3
  rw [hS5] at hco l5
  rw [hS0, hS1, hS2, hS3, hS5] at hfin
  clear hS0 hS1 hS2 hS3 hS5
  obtain ⟨kq, rfl⟩ := Int.eq_ofNat_of_zero_le (show 0 ≤ q by omega)
  obtain ⟨kc, rfl⟩ := Int.eq_ofNat_of_zero_le (show 0 ≤ cc by omega)
  have k9 : (kq : Int) < 5 := by omega
  have k0 : (0 : Int) ≤ (kq : Int) := by omega
  have k19 : (kc : Int) < 4 := by omega
  have k10 : (0 : Int) ≤ (kc : Int) := by omega
  have HO := Lib.hid (hop kq rfl)
  have HC := Lib.hid (hco kc rfl)
  have HF := Lib.hid hfin
  have N0 := Lib.hid n0
  have N1 := Lib.hid n1
  have N3 := Lib.hid n3
  have z0 : ¬ 9223372036854775807 < P0.size + 1 := by omega
  have z1 : ¬ 9223372036854775807 < P0.size + 1 + P1.size := by omega
  have z2 : ¬ 9223372036854775807 < P0.size + 1 + P1.size + 1 := by omega
  have z3 : ¬ 9223372036854775807 < P0.size + 1 + P1.size + 1 + P2.size := by omega
  have z4 : ¬ 9223372036854775807 < P0.size + 1 + P1.size + 1 + P2.size + 1 := by omega
  have z5 : ¬ 9223372036854775807 < P0.size + 1 + P1.size + 1 + P2.size + 1 + P3.size := by omega
  have z6 : ¬ 9223372036854775807 < P0.size + 1 + P1.size + 1 + P2.size + 1 + P3.size + 1 := by omega
  have z7 : ¬ 9223372036854775807 < P0.size + 1 + P1.size + 1 + P2.size + 1 + P3.size + 1 + E.size := by omega
  have z8 : ¬ 9223372036854775807 < P0.size + 1 + P1.size + 1 + P2.size + 1 + P3.size + 1 + E.size + 1 := by omega
  have z9 : ¬ 9223372036854775807 < P0.size + 1 + P1.size + 1 + P2.size + 1 + P3.size + 1 + E.size + 1 + P5.size := by omega
  have z10 : ¬ 9223372036854775807 < P0.size + 1 + P1.size + 1 + P2.size + 1 + P3.size + 1 + E.size + 1 + P5.size + 1 := by omega
  have z11 : ¬ 9223372036854775807 < P0.size + 1 + P1.size + 1 + P2.size + 1 + P3.size + 1 + E.size + 1 + P5.size + 1 + R.size := by omega
  have hbnd := Lib.hid (And.intro bp (And.intro bo (And.intro bb (And.intro bq (And.intro bc (And.intro be br))))))
  have he' := Lib.hid he
  have hbx := Lib.hid (ClBox.new w ⟨p, o, (kq : Int), r, (kc : Int), b, e⟩ A c)
  have hB0 := (Below.refl w.heap.size w).alloc (Nat.le_refl _) (.cells #[.int .i64 p, .int .i64 o, .int .i64 (kq : Int), .slice A r.length c, .int .i64 (kc : Int), .int .i64 b, .int .i64 e] 45)
  clear hop hco hfin n0 n1 n3 bp bo bb bq bc be br he
  go_enter Tryd.func31, Tryd.ntmps31
  go_wp2_with fail
  refine (n4'.out _).mono ?_
  rintro ex w1 ⟨rfl, hb1⟩
  have hbx1 := ClBox.kept (x := ⟨p, o, (kq : Int), r, (kc : Int), b, e⟩) hbx.out hb1
  have hB1 := hB0.trans (hb1.mono hB0.size)
  obtain ⟨n, hn⟩ : ∃ n, w.heap.size = n := ⟨_, rfl⟩
  rw [hn] at hbx1 ⊢
  have hbs1 := hB1.size
  obtain ⟨d0, d1, d2, d3, d4, d5, d6⟩ := hbx1.cells
  simp only at d0 d1 d2 d3 d4 d5 d6
  clear hbx hB0
  go_wp2_with fail
  have hSd : RLt w1 n ⟨p, o, (kq : Int), r, (kc : Int), b, e⟩ A c w1.drew := RLt.drew ⟨Below.refl _ _, d0, d1, d2, d3, d4, d5⟩
  clear hbx1 d6
  refine wp_region_held_drew (S := fun w' => Below w1.heap.size w1 w' ∧ w'.cell? ⟨n, 0, none⟩ = some (.int .i64 p) ∧ w'.cell? ⟨n, 1, none⟩ = some (.int .i64 o) ∧ w'.cell? ⟨n, 2, none⟩ = some (.int .i64 (kq : Int)) ∧ w'.cell? ⟨n, 3, none⟩ = some (.slice A r.length c) ∧ w'.cell? ⟨n, 4, none⟩ = some (.int .i64 (kc : Int)) ∧ w'.cell? ⟨n, 5, none⟩ = some (.int .i64 b)) (by kernel_rfl) hSd (fun hHeld => ?_)
  refine wpAnyH_take (i := 0) (oi := ?_) (v := ?_) ?_ (by kernel_rfl) (by kernel_rfl) (by kernel_rfl) ?_ (Or.inl ⟨?_, ?_⟩) (by assumption) ?_
  rotate_left 2
  · (simp only [List.getElem?_toArray, List.getElem?_cons_zero]; rfl)
  · first | exact fun _ _ _ h => h | exact fun _ _ _ h => by cases h.1
  · rfl
  · ((intro wq hSq; (try dsimp only at hSq); go_simp); (try with_reducible rfl))
  try simp only [Act.put, List.setIfInBounds_toArray, List.set_cons_zero, List.set_cons_succ]
  refine wpAnyH_take (i := 1) (oi := ?_) (v := ?_) ?_ (by kernel_rfl) (by kernel_rfl) (by kernel_rfl) ?_ (Or.inl ⟨?_, ?_⟩) (by assumption) ?_
  rotate_left 2
  · (simp only [List.getElem?_toArray, List.getElem?_cons_succ, List.getElem?_cons_zero]; rfl)
  · first | exact fun _ _ _ h => h | exact fun _ _ _ h => by cases h.1
  · rfl
  · ((intro wq hSq; (try dsimp only at hSq); go_simp); (try with_reducible rfl))
  try simp only [Act.put, List.setIfInBounds_toArray, List.set_cons_zero, List.set_cons_succ]
  refine wpAnyH_take (i := 4) (oi := ?_) (v := ?_) ?_ (by kernel_rfl) (by kernel_rfl) (by kernel_rfl) ?_ (Or.inl ⟨?_, ?_⟩) (by assumption) ?_
  rotate_left 2
  · (simp only [List.getElem?_toArray, List.getElem?_cons_succ, List.getElem?_cons_zero]; rfl)
  · first | exact fun _ _ _ h => h | exact fun _ _ _ h => by cases h.1
  · rfl
  · ((intro wq hSq; (try dsimp only at hSq); go_simp); (try with_reducible rfl))
  try simp only [Act.put, List.setIfInBounds_toArray, List.set_cons_zero, List.set_cons_succ]
  refine wpAnyH_take (i := 5) (oi := ?_) (v := ?_) ?_ (by kernel_rfl) (by kernel_rfl) (by kernel_rfl) ?_ (Or.inl ⟨?_, ?_⟩) (by assumption) ?_
  rotate_left 2
  · (simp only [List.getElem?_toArray, List.getElem?_cons_succ, List.getElem?_cons_zero]; rfl)
  · first | exact fun _ _ _ h => h | exact fun _ _ _ h => by cases h.1
  · rfl
  · ((intro wq hSq; (try dsimp only at hSq); go_simp); (try with_reducible rfl))
  try simp only [Act.put, List.setIfInBounds_toArray, List.set_cons_zero, List.set_cons_succ]
  refine wpAnyH_take (i := 10) (oi := ?_) (v := ?_) ?_ (by kernel_rfl) (by kernel_rfl) (by kernel_rfl) ?_ (Or.inl ⟨?_, ?_⟩) (by assumption) ?_
  rotate_left 2
  · (simp only [List.getElem?_toArray, List.getElem?_cons_succ, List.getElem?_cons_zero]; rfl)
  · first | exact fun _ _ _ h => h | exact fun _ _ _ h => by cases h.1
  · rfl
  · ((intro wq hSq; (try dsimp only at hSq); go_simp); (try with_reducible rfl))
  try simp only [Act.put, List.setIfInBounds_toArray, List.set_cons_zero, List.set_cons_succ]
  refine wpAnyH_take (i := 11) (oi := ?_) (v := ?_) ?_ (by kernel_rfl) (by kernel_rfl) (by kernel_rfl) ?_ (Or.inl ⟨?_, ?_⟩) (by assumption) ?_
  rotate_left 2
  · (simp only [List.getElem?_toArray, List.getElem?_cons_succ, List.getElem?_cons_zero]; rfl)
  · first | exact fun _ _ _ h => h | exact fun _ _ _ h => by cases h.1
  · rfl
  · ((intro wq hSq; (try dsimp only at hSq); go_simp); (try with_reducible rfl))
  try simp only [Act.put, List.setIfInBounds_toArray, List.set_cons_zero, List.set_cons_succ]
  refine wpAnyH_take (i := 16) (oi := ?_) (v := ?_) ?_ (by kernel_rfl) (by kernel_rfl) (by kernel_rfl) ?_ (Or.inl ⟨?_, ?_⟩) (by assumption) ?_
  rotate_left 2
  · (simp only [List.getElem?_toArray, List.getElem?_cons_succ, List.getElem?_cons_zero]; rfl)
  · first | exact fun _ _ _ h => h | exact fun _ _ _ h => by cases h.1
  · rfl
  · ((intro wq hSq; (try dsimp only at hSq); go_simp); (try with_reducible rfl))
  try simp only [Act.put, List.setIfInBounds_toArray, List.set_cons_zero, List.set_cons_succ]
  refine wpAnyH_take (i := 17) (oi := ?_) (v := ?_) ?_ (by kernel_rfl) (by kernel_rfl) (by kernel_rfl) ?_ (Or.inl ⟨?_, ?_⟩) (by assumption) ?_
  rotate_left 2
  · (simp only [List.getElem?_toArray, List.getElem?_cons_succ, List.getElem?_cons_zero]; rfl)
  · first | exact fun _ _ _ h => h | exact fun _ _ _ h => by cases h.1
  · rfl
  · ((intro wq hSq; (try dsimp only at hSq); go_simp); (try with_reducible rfl))
  try simp only [Act.put, List.setIfInBounds_toArray, List.set_cons_zero, List.set_cons_succ]
  refine wpAnyH_take (i := 21) (oi := ?_) (v := ?_) ?_ (by kernel_rfl) (by kernel_rfl) (by kernel_rfl) ?_ (Or.inl ⟨?_, ?_⟩) (by assumption) ?_
  rotate_left 2
  · (simp only [List.getElem?_toArray, List.getElem?_cons_succ, List.getElem?_cons_zero]; rfl)
  · first | exact fun _ _ _ h => h | exact fun _ _ _ h => by cases h.1
  · rfl
  · ((intro wq hSq; (try dsimp only at hSq); go_simp); (try with_reducible rfl))
  try simp only [Act.put, List.setIfInBounds_toArray, List.set_cons_zero, List.set_cons_succ]
  refine wpAnyH_take (i := 25) (oi := ?_) (v := ?_) ?_ (by kernel_rfl) (by kernel_rfl) (by kernel_rfl) ?_ (Or.inl ⟨?_, ?_⟩) (by assumption) ?_
  rotate_left 2
  · (simp only [List.getElem?_toArray, List.getElem?_cons_succ, List.getElem?_cons_zero]; rfl)
  · first | exact fun _ _ _ h => h | exact fun _ _ _ h => by cases h.1
  · rfl
  · ((intro wq hSq; (try dsimp only at hSq); go_simp); (try with_reducible rfl))
  try simp only [Act.put, List.setIfInBounds_toArray, List.set_cons_zero, List.set_cons_succ]
  refine wpAnyH_take (i := 26) (oi := ?_) (v := ?_) ?_ (by kernel_rfl) (by kernel_rfl) (by kernel_rfl) ?_ (Or.inl ⟨?_, ?_⟩) (by assumption) ?_
  rotate_left 2
  · (simp only [List.getElem?_toArray, List.getElem?_cons_succ, List.getElem?_cons_zero]; rfl)
  · first | exact fun _ _ _ h => h | exact fun _ _ _ h => by cases h.1
  · rfl
  · ((intro wq hSq; (try dsimp only at hSq); go_simp); (try with_reducible rfl))
  try simp only [Act.put, List.setIfInBounds_toArray, List.set_cons_zero, List.set_cons_succ]
  refine wpAnyH_ready (rs := [2]) (by kernel_rfl) (by simp) ?_
  refine AllReadyH.cons (o := ?_) ?_ (fun K hK => ?_) AllReadyH.nil
  rotate_left
  · (simp only [List.getElem?_toArray, List.getElem?_cons_succ, List.getElem?_cons_zero]; rfl)
  go_simp
  go_at_call 69
  refine (N0.out _).mono ?_
  rintro ex wx ⟨rfl, hbx⟩
  have hSx := RLt.below (w2 := w1) (n := n) (x := ⟨p, o, (kq : Int), r, (kc : Int), b, e⟩) (A := A) (c := c) hHeld hbx
  refine hK.out _ _ hSx (fun hHeld => ?_)
  clear hK K
  try simp only [Act.put, List.setIfInBounds_toArray, List.set_cons_zero, List.set_cons_succ]
  refine wpAnyH_take (i := 3) (oi := ?_) (v := ?_) ?_ (by kernel_rfl) (by kernel_rfl) (by kernel_rfl) ?_ (Or.inl ⟨?_, ?_⟩) (by assumption) ?_
  rotate_left 2
  · (simp only [List.getElem?_toArray, List.getElem?_cons_succ, List.getElem?_cons_zero]; rfl)
  · first | exact fun _ _ _ h => h | exact fun _ _ _ h => by cases h.1
  · rfl
  · ((intro wq hSq; (try dsimp only at hSq); go_simp); (try with_reducible rfl))
  try simp only [Act.put, List.setIfInBounds_toArray, List.set_cons_zero, List.set_cons_succ]
  refine wpAnyH_ready (rs := [6]) (by kernel_rfl) (by simp) ?_
  refine AllReadyH.cons (o := ?_) ?_ (fun K hK => ?_) AllReadyH.nil
  rotate_left
  · (simp only [List.getElem?_toArray, List.getElem?_cons_succ, List.getElem?_cons_zero]; rfl)
  go_simp
  go_at_call 69
  refine (N1.out _).mono ?_
  rintro ex wx ⟨rfl, hbx⟩
  have hSx := RLt.below (w2 := w1) (n := n) (x := ⟨p, o, (kq : Int), r, (kc : Int), b, e⟩) (A := A) (c := c) hHeld hbx
  refine hK.out _ _ hSx (fun hHeld => ?_)
  clear hK K
  try simp only [Act.put, List.setIfInBounds_toArray, List.set_cons_zero, List.set_cons_succ]
  refine wpAnyH_take (i := 7) (oi := ?_) (v := ?_) ?_ (by kernel_rfl) (by kernel_rfl) (by kernel_rfl) ?_ (Or.inl ⟨?_, ?_⟩) (by assumption) ?_
  rotate_left 2
  · (simp only [List.getElem?_toArray, List.getElem?_cons_succ, List.getElem?_cons_zero]; rfl)
  · first | exact fun _ _ _ h => h | exact fun _ _ _ h => by cases h.1
  · rfl
  · ((intro wq hSq; (try dsimp only at hSq); go_simp); (try with_reducible rfl))
  try simp only [Act.put, List.setIfInBounds_toArray, List.set_cons_zero, List.set_cons_succ]
  refine wpAnyH_take (i := 8) (oi := ?_) (v := ?_) ?_ (by kernel_rfl) (by kernel_rfl) (by kernel_rfl) ?_ (Or.inl ⟨?_, ?_⟩) (by assumption) ?_
  rotate_left 2
  · (simp only [List.getElem?_toArray, List.getElem?_cons_succ, List.getElem?_cons_zero]; rfl)
  · first | exact fun _ _ _ h => h | exact fun _ _ _ h => by cases h.1
  · rfl
  · ((intro wq hSq; (try dsimp only at hSq); go_simp); (try with_reducible rfl))
  try simp only [Act.put, List.setIfInBounds_toArray, List.set_cons_zero, List.set_cons_succ]
  refine wpAnyH_ready (rs := [9]) (by kernel_rfl) (by simp) ?_
  refine AllReadyH.cons (o := ?_) ?_ (fun K hK => ?_) AllReadyH.nil
  rotate_left
  · (simp only [List.getElem?_toArray, List.getElem?_cons_succ, List.getElem?_cons_zero]; rfl)
  go_simp
  go_at_call 70
  refine (rops_any _).mono ?_
  rintro ex wx ⟨bw, rfl, hcw, hlw, hgw, hbx⟩
  have hSx := RLt.below (w2 := w1) (n := n) (x := ⟨p, o, (kq : Int), r, (kc : Int), b, e⟩) (A := A) (c := c) hHeld hbx
  have hcw0 := hcw _ _ HO.out
  refine hK.out _ _ hSx (fun hHeld => ?_)
  clear hK K
  try simp only [Act.put, List.setIfInBounds_toArray, List.set_cons_zero, List.set_cons_succ]
  have hSy : (RLt w1 n ⟨p, o, (kq : Int), r, (kc : Int), b, e⟩ A c _) ∧ _ := ⟨hHeld, hcw0⟩
  refine wpAnyH_strong (S' := fun w' => (Below w1.heap.size w1 w' ∧ w'.cell? ⟨n, 0, none⟩ = some (.int .i64 p) ∧ w'.cell? ⟨n, 1, none⟩ = some (.int .i64 o) ∧ w'.cell? ⟨n, 2, none⟩ = some (.int .i64 (kq : Int)) ∧ w'.cell? ⟨n, 3, none⟩ = some (.slice A r.length c) ∧ w'.cell? ⟨n, 4, none⟩ = some (.int .i64 (kc : Int)) ∧ w'.cell? ⟨n, 5, none⟩ = some (.int .i64 b)) ∧ w'.cell? ⟨bw, kq, none⟩ = some (.string P2)) (fun w h => h.1) _ _ _ _ ?_
  refine wpAnyH_take (i := 12) (oi := ?_) (v := ?_) ?_ (by kernel_rfl) (by kernel_rfl) (by kernel_rfl) ?_ (Or.inl ⟨?_, ?_⟩) (by assumption) ?_
  rotate_left 2
  · (simp only [List.getElem?_toArray, List.getElem?_cons_succ, List.getElem?_cons_zero]; rfl)
  · first | exact fun _ _ _ h => h | exact fun _ _ _ h => by cases h.1
  · rfl
  · ((intro wq hSq; (try dsimp only at hSq); go_simp); (try with_reducible rfl))
  try simp only [Act.put, List.setIfInBounds_toArray, List.set_cons_zero, List.set_cons_succ]
  refine wpAnyH_take (i := 13) (oi := ?_) (v := ?_) ?_ (by kernel_rfl) (by kernel_rfl) (by kernel_rfl) ?_ (Or.inl ⟨?_, ?_⟩) (by assumption) ?_
  rotate_left 2
  · (simp only [List.getElem?_toArray, List.getElem?_cons_succ, List.getElem?_cons_zero]; rfl)
  · first | exact fun _ _ _ h => h | exact fun _ _ _ h => by cases h.1
  · rfl
  · ((intro wq hSq; (try dsimp only at hSq); go_simp); (try with_reducible rfl))
  try simp only [Act.put, List.setIfInBounds_toArray, List.set_cons_zero, List.set_cons_succ]
  refine wpAnyH_take (i := 14) (oi := ?_) (v := ?_) ?_ (by kernel_rfl) (by kernel_rfl) (by kernel_rfl) ?_ (Or.inl ⟨?_, ?_⟩) (by assumption) ?_
  rotate_left 2
  · (simp only [List.getElem?_toArray, List.getElem?_cons_succ, List.getElem?_cons_zero]; rfl)
  · first | exact fun _ _ _ h => h | exact fun _ _ _ h => by cases h.1
  · rfl
  · ((intro wq hSq; (try dsimp only at hSq); go_simp); (try with_reducible rfl))
  try simp only [Act.put, List.setIfInBounds_toArray, List.set_cons_zero, List.set_cons_succ]
  refine wpAnyH_take (i := 15) (oi := ?_) (v := ?_) ?_ (by kernel_rfl) (by kernel_rfl) (by kernel_rfl) ?_ (Or.inl ⟨?_, ?_⟩) (by assumption) ?_
  rotate_left 2
  · (simp only [List.getElem?_toArray, List.getElem?_cons_succ, List.getElem?_cons_zero]; rfl)
  · first | exact fun _ _ _ h => h | exact fun _ _ _ h => by cases h.1
  · rfl
  · ((intro wq hSq; (try dsimp only at hSq); go_simp); (try with_reducible rfl))
  try simp only [Act.put, List.setIfInBounds_toArray, List.set_cons_zero, List.set_cons_succ]
  refine wpAnyH_ready (rs := [18]) (by kernel_rfl) (by simp) ?_
  refine AllReadyH.cons (o := ?_) ?_ (fun K hK => ?_) AllReadyH.nil
  rotate_left
  · (simp only [List.getElem?_toArray, List.getElem?_cons_succ, List.getElem?_cons_zero]; rfl)
  go_simp
  go_at_call 69
  refine (N3.out _).mono ?_
  rintro ex wx ⟨rfl, hbx⟩
  have hSx := RLt2.below (w2 := w1) (n := n) (x := ⟨p, o, (kq : Int), r, (kc : Int), b, e⟩) (A := A) (c := c) (by assumption) hbx
  refine hK.out _ _ hSx (fun hHeld => ?_)
  clear hK K
  try simp only [Act.put, List.setIfInBounds_toArray, List.set_cons_zero, List.set_cons_succ]
  refine wpAnyH_take (i := 19) (oi := ?_) (v := ?_) ?_ (by kernel_rfl) (by kernel_rfl) (by kernel_rfl) ?_ (Or.inl ⟨?_, ?_⟩) (by assumption) ?_
  rotate_left 2
  · (simp only [List.getElem?_toArray, List.getElem?_cons_succ, List.getElem?_cons_zero]; rfl)
  · first | exact fun _ _ _ h => h | exact fun _ _ _ h => by cases h.1
  · rfl
  · ((intro wq hSq; (try dsimp only at hSq); go_simp); (try with_reducible rfl))
  try simp only [Act.put, List.setIfInBounds_toArray, List.set_cons_zero, List.set_cons_succ]
  refine wpAnyH_take (i := 20) (oi := ?_) (v := ?_) ?_ (by kernel_rfl) (by kernel_rfl) (by kernel_rfl) ?_ (Or.inl ⟨?_, ?_⟩) (by assumption) ?_
  rotate_left 2
  · (simp only [List.getElem?_toArray, List.getElem?_cons_succ, List.getElem?_cons_zero]; rfl)
  · first | exact fun _ _ _ h => h | exact fun _ _ _ h => by cases h.1
  · rfl
  · ((intro wq hSq; (try dsimp only at hSq); go_simp); (try with_reducible rfl))
  try simp only [Act.put, List.setIfInBounds_toArray, List.set_cons_zero, List.set_cons_succ]
  refine wpAnyH_take (i := 22) (oi := ?_) (v := ?_) ?_ (by kernel_rfl) (by kernel_rfl) (by kernel_rfl) ?_ (Or.inl ⟨?_, ?_⟩) (by assumption) ?_
  rotate_left 2
  · (simp only [List.getElem?_toArray, List.getElem?_cons_succ, List.getElem?_cons_zero]; rfl)
  · first | exact fun _ _ _ h => h | exact fun _ _ _ h => by cases h.1
  · rfl
  · ((intro wq hSq; (try dsimp only at hSq); go_simp); (try with_reducible rfl))
  try simp only [Act.put, List.setIfInBounds_toArray, List.set_cons_zero, List.set_cons_succ]
  refine wpAnyH_take (i := 23) (oi := ?_) (v := ?_) ?_ (by kernel_rfl) (by kernel_rfl) (by kernel_rfl) ?_ (Or.inl ⟨?_, ?_⟩) (by assumption) ?_
  rotate_left 2
  · (simp only [List.getElem?_toArray, List.getElem?_cons_succ, List.getElem?_cons_zero]; rfl)
  · first | exact fun _ _ _ h => h | exact fun _ _ _ h => by cases h.1
  · rfl
  · ((intro wq hSq; (try dsimp only at hSq); go_simp); (try with_reducible rfl))
  try simp only [Act.put, List.setIfInBounds_toArray, List.set_cons_zero, List.set_cons_succ]
  refine wpAnyH_ready (rs := [24]) (by kernel_rfl) (by simp) ?_
  refine AllReadyH.cons (o := ?_) ?_ (fun K hK => ?_) AllReadyH.nil
  rotate_left
  · (simp only [List.getElem?_toArray, List.getElem?_cons_succ, List.getElem?_cons_zero]; rfl)
  go_simp
  go_at_call 71
  refine (rcodes_any _).mono ?_
  rintro ex wx ⟨bv, rfl, hcv, hlv, hgv, hbx⟩
  have hSx := RLt2.below (w2 := w1) (n := n) (x := ⟨p, o, (kq : Int), r, (kc : Int), b, e⟩) (A := A) (c := c) (by assumption) hbx
  have hcv0 := hcv _ _ HC.out
  refine hK.out _ _ hSx (fun hHeld => ?_)
  clear hK K
  try simp only [Act.put, List.setIfInBounds_toArray, List.set_cons_zero, List.set_cons_succ]
  have hSz : ((RLt w1 n ⟨p, o, (kq : Int), r, (kc : Int), b, e⟩ A c _) ∧ _) ∧ _ := ⟨hHeld, hcv0⟩
  refine wpAnyH_strong (S' := fun w' => ((Below w1.heap.size w1 w' ∧ w'.cell? ⟨n, 0, none⟩ = some (.int .i64 p) ∧ w'.cell? ⟨n, 1, none⟩ = some (.int .i64 o) ∧ w'.cell? ⟨n, 2, none⟩ = some (.int .i64 (kq : Int)) ∧ w'.cell? ⟨n, 3, none⟩ = some (.slice A r.length c) ∧ w'.cell? ⟨n, 4, none⟩ = some (.int .i64 (kc : Int)) ∧ w'.cell? ⟨n, 5, none⟩ = some (.int .i64 b)) ∧ w'.cell? ⟨bw, kq, none⟩ = some (.string P2)) ∧ w'.cell? ⟨bv, kc, none⟩ = some (.string P5)) (fun w h => h.1) _ _ _ _ ?_
  refine wpAnyH_take (i := 27) (oi := ?_) (v := ?_) ?_ (by kernel_rfl) (by kernel_rfl) (by kernel_rfl) ?_ (Or.inl ⟨?_, ?_⟩) (by assumption) ?_
  rotate_left 2
  · (simp only [List.getElem?_toArray, List.getElem?_cons_succ, List.getElem?_cons_zero]; rfl)
  · first | exact fun _ _ _ h => h | exact fun _ _ _ h => by cases h.1
  · rfl
  · ((intro wq hSq; (try dsimp only at hSq); go_simp); (try with_reducible rfl))
  try simp only [Act.put, List.setIfInBounds_toArray, List.set_cons_zero, List.set_cons_succ]
  refine wpAnyH_take (i := 28) (oi := ?_) (v := ?_) ?_ (by kernel_rfl) (by kernel_rfl) (by kernel_rfl) ?_ (Or.inl ⟨?_, ?_⟩) (by assumption) ?_
  rotate_left 2
  · (simp only [List.getElem?_toArray, List.getElem?_cons_succ, List.getElem?_cons_zero]; rfl)
  · first | exact fun _ _ _ h => h | exact fun _ _ _ h => by cases h.1
  · rfl
  · ((intro wq hSq; (try dsimp only at hSq); go_simp); (try with_reducible rfl))
  try simp only [Act.put, List.setIfInBounds_toArray, List.set_cons_zero, List.set_cons_succ]
  refine wpAnyH_take (i := 29) (oi := ?_) (v := ?_) ?_ (by kernel_rfl) (by kernel_rfl) (by kernel_rfl) ?_ (Or.inl ⟨?_, ?_⟩) (by assumption) ?_
  rotate_left 2
  · (simp only [List.getElem?_toArray, List.getElem?_cons_succ, List.getElem?_cons_zero]; rfl)
  · first | exact fun _ _ _ h => h | exact fun _ _ _ h => by cases h.1
  · rfl
  · ((intro wq hSq; (try dsimp only at hSq); go_simp); (try with_reducible rfl))
  try simp only [Act.put, List.setIfInBounds_toArray, List.set_cons_zero, List.set_cons_succ]
  refine wpAnyH_take (i := 30) (oi := ?_) (v := ?_) ?_ (by kernel_rfl) (by kernel_rfl) (by kernel_rfl) ?_ (Or.inl ⟨?_, ?_⟩) (by assumption) ?_
  rotate_left 2
  · (simp only [List.getElem?_toArray, List.getElem?_cons_succ, List.getElem?_cons_zero]; rfl)
  · first | exact fun _ _ _ h => h | exact fun _ _ _ h => by cases h.1
  · rfl
  · ((intro wq hSq; (try dsimp only at hSq); go_simp); (try with_reducible rfl))
  try simp only [Act.put, List.setIfInBounds_toArray, List.set_cons_zero, List.set_cons_succ]
  refine wpAnyH_done (by kernel_rfl) ?_ _
  all_goals
    have hBx := hB1.trans (hSx.1.1.mono hB1.size)
    obtain ⟨_, _, _, _, f3, _, _⟩ := hSx.1
    simp only at f3
    go_wp2_with fail
    refine (hsh'.out _ hBx).mono ?_
    rintro ex w5 ⟨rfl, hb5⟩
    go_wp2_with fail
    go_ret
    exact ⟨by rw [← HF.out]; rfl, by first | exact hBx.trans (hb5.mono hBx.size) | (rw [← hn]; exact hBx.trans (hb5.mono hBx.size))⟩

set_option maxRecDepth 100000 in
set_option maxHeartbeats 4000000 in
theorem rline_b (p o q : Int) (r : List Int) (cc b e : Int) (A : Option Addr) (c : Nat) (w : World) (h : clB ⟨p, o, q, r, cc, b, e⟩ = true) (he : 0 ≤ e) (hrr : r = []) (_hA : Ws w w.heap.size A r) :
    Calls Tryd.prog 31 #[.agg #[.int .i64 p, .int .i64 o, .int .i64 q, .slice A r.length c, .int .i64 cc, .int .i64 b, .int .i64 e]] w fun r' w' => r' = .returned (.string (lineHS ⟨p, o, q, r, cc, b, e⟩)) ∧ Below w.heap.size w w' := by
  obtain ⟨bp, bo, bb, bq, bc, be, br⟩ := clB_iff.1 h
  simp only at bp bo bb bq bc be br
  clear h
  have hfin := rl_six ⟨p, o, q, r, cc, b, e⟩ hrr
  simp only at hfin
  have n0 := fun W => num_any (p.toNat + 1) p.toNat p W (by omega) (by omega) (by omega)
  have n1 := fun W => num_any (o.toNat + 1) o.toNat o W (by omega) (by omega) (by omega)
  have n3 := fun W => num_any (b.toNat + 1) b.toNat b W (by omega) (by omega) (by omega)
  have l0 : (numS p.toNat).size ≤ 20 := numS_le (by omega)
  have l1 : (numS o.toNat).size ≤ 20 := numS_le (by omega)
  have l3 : (numS b.toNat).size ≤ 20 := numS_le (by omega)
  have l2 := opS_size q
  have l5 := codeS_size cc
  have n4 := fun W => num_any (e.toNat + 1) e.toNat e W (by omega) (by omega) (by omega)
  have l4 : (numS e.toNat).size ≤ 20 := numS_le (by omega)
  rw [rendS_num he] at n4 l4
  obtain ⟨E, hE⟩ : ∃ E, endS e = E := ⟨_, rfl⟩
  rw [hE] at n4 l4 hfin
  have he1 : decide (0 ≤ e) = true := decide_eq_true he
  have n4' := Lib.hid n4
  clear n4
  have hrl : r.length = 0 := by rw [hrr]; rfl
  have hsw : decide (0 < r.length) = false := by rw [hrl]; rfl
  have hrr' := Lib.hid hrr
  clear hrr hrl
  have hop : ∀ k : Nat, q = (k : Int) → opsB[k]? = some (opS q) := fun k hk => by rw [hk]; exact opsB_at (by omega)
  have hco : ∀ k : Nat, cc = (k : Int) → codesB[k]? = some (codeS cc) := fun k hk => by rw [hk]; exact codesB_at (by omega)
  obtain ⟨P0, hS0⟩ : ∃ S, numS p.toNat = S := ⟨_, rfl⟩
  obtain ⟨P1, hS1⟩ : ∃ S, numS o.toNat = S := ⟨_, rfl⟩
  obtain ⟨P2, hS2⟩ : ∃ S, opS q = S := ⟨_, rfl⟩
  obtain ⟨P3, hS3⟩ : ∃ S, numS b.toNat = S := ⟨_, rfl⟩
  obtain ⟨P5, hS5⟩ : ∃ S, codeS cc = S := ⟨_, rfl⟩
  rw [hS0] at n0 l0
  rw [hS1] at n1 l1
  rw [hS2] at hop l2
  rw [hS3] at n3 l3
  rw [hS5] at hco l5
  rw [hS0, hS1, hS2, hS3, hS5] at hfin
  clear hS0 hS1 hS2 hS3 hS5
  obtain ⟨kq, rfl⟩ := Int.eq_ofNat_of_zero_le (show 0 ≤ q by omega)
  obtain ⟨kc, rfl⟩ := Int.eq_ofNat_of_zero_le (show 0 ≤ cc by omega)
  have k9 : (kq : Int) < 5 := by omega
  have k0 : (0 : Int) ≤ (kq : Int) := by omega
  have k19 : (kc : Int) < 4 := by omega
  have k10 : (0 : Int) ≤ (kc : Int) := by omega
  have HO := Lib.hid (hop kq rfl)
  have HC := Lib.hid (hco kc rfl)
  have HF := Lib.hid hfin
  have N0 := Lib.hid n0
  have N1 := Lib.hid n1
  have N3 := Lib.hid n3
  have z0 : ¬ 9223372036854775807 < P0.size + 1 := by omega
  have z1 : ¬ 9223372036854775807 < P0.size + 1 + P1.size := by omega
  have z2 : ¬ 9223372036854775807 < P0.size + 1 + P1.size + 1 := by omega
  have z3 : ¬ 9223372036854775807 < P0.size + 1 + P1.size + 1 + P2.size := by omega
  have z4 : ¬ 9223372036854775807 < P0.size + 1 + P1.size + 1 + P2.size + 1 := by omega
  have z5 : ¬ 9223372036854775807 < P0.size + 1 + P1.size + 1 + P2.size + 1 + P3.size := by omega
  have z6 : ¬ 9223372036854775807 < P0.size + 1 + P1.size + 1 + P2.size + 1 + P3.size + 1 := by omega
  have z7 : ¬ 9223372036854775807 < P0.size + 1 + P1.size + 1 + P2.size + 1 + P3.size + 1 + E.size := by omega
  have z8 : ¬ 9223372036854775807 < P0.size + 1 + P1.size + 1 + P2.size + 1 + P3.size + 1 + E.size + 1 := by omega
  have z9 : ¬ 9223372036854775807 < P0.size + 1 + P1.size + 1 + P2.size + 1 + P3.size + 1 + E.size + 1 + P5.size := by omega
  have hbnd := Lib.hid (And.intro bp (And.intro bo (And.intro bb (And.intro bq (And.intro bc (And.intro be br))))))
  have he' := Lib.hid he
  have hbx := Lib.hid (ClBox.new w ⟨p, o, (kq : Int), r, (kc : Int), b, e⟩ A c)
  have hB0 := (Below.refl w.heap.size w).alloc (Nat.le_refl _) (.cells #[.int .i64 p, .int .i64 o, .int .i64 (kq : Int), .slice A r.length c, .int .i64 (kc : Int), .int .i64 b, .int .i64 e] 45)
  clear hop hco hfin n0 n1 n3 bp bo bb bq bc be br he
  go_enter Tryd.func31, Tryd.ntmps31
  go_wp2_with fail
  refine (n4'.out _).mono ?_
  rintro ex w1 ⟨rfl, hb1⟩
  have hbx1 := ClBox.kept (x := ⟨p, o, (kq : Int), r, (kc : Int), b, e⟩) hbx.out hb1
  have hB1 := hB0.trans (hb1.mono hB0.size)
  obtain ⟨n, hn⟩ : ∃ n, w.heap.size = n := ⟨_, rfl⟩
  rw [hn] at hbx1 ⊢
  have hbs1 := hB1.size
  obtain ⟨d0, d1, d2, d3, d4, d5, d6⟩ := hbx1.cells
  simp only at d0 d1 d2 d3 d4 d5 d6
  clear hbx hB0
  go_wp2_with fail
  have hSd : RLt w1 n ⟨p, o, (kq : Int), r, (kc : Int), b, e⟩ A c w1.drew := RLt.drew ⟨Below.refl _ _, d0, d1, d2, d3, d4, d5⟩
  clear hbx1 d6
  refine wp_region_held_drew (S := fun w' => Below w1.heap.size w1 w' ∧ w'.cell? ⟨n, 0, none⟩ = some (.int .i64 p) ∧ w'.cell? ⟨n, 1, none⟩ = some (.int .i64 o) ∧ w'.cell? ⟨n, 2, none⟩ = some (.int .i64 (kq : Int)) ∧ w'.cell? ⟨n, 3, none⟩ = some (.slice A r.length c) ∧ w'.cell? ⟨n, 4, none⟩ = some (.int .i64 (kc : Int)) ∧ w'.cell? ⟨n, 5, none⟩ = some (.int .i64 b)) (by kernel_rfl) hSd (fun hHeld => ?_)
  refine wpAnyH_take (i := 0) (oi := ?_) (v := ?_) ?_ (by kernel_rfl) (by kernel_rfl) (by kernel_rfl) ?_ (Or.inl ⟨?_, ?_⟩) (by assumption) ?_
  rotate_left 2
  · (simp only [List.getElem?_toArray, List.getElem?_cons_zero]; rfl)
  · first | exact fun _ _ _ h => h | exact fun _ _ _ h => by cases h.1
  · rfl
  · ((intro wq hSq; (try dsimp only at hSq); go_simp); (try with_reducible rfl))
  try simp only [Act.put, List.setIfInBounds_toArray, List.set_cons_zero, List.set_cons_succ]
  refine wpAnyH_take (i := 1) (oi := ?_) (v := ?_) ?_ (by kernel_rfl) (by kernel_rfl) (by kernel_rfl) ?_ (Or.inl ⟨?_, ?_⟩) (by assumption) ?_
  rotate_left 2
  · (simp only [List.getElem?_toArray, List.getElem?_cons_succ, List.getElem?_cons_zero]; rfl)
  · first | exact fun _ _ _ h => h | exact fun _ _ _ h => by cases h.1
  · rfl
  · ((intro wq hSq; (try dsimp only at hSq); go_simp); (try with_reducible rfl))
  try simp only [Act.put, List.setIfInBounds_toArray, List.set_cons_zero, List.set_cons_succ]
  refine wpAnyH_take (i := 4) (oi := ?_) (v := ?_) ?_ (by kernel_rfl) (by kernel_rfl) (by kernel_rfl) ?_ (Or.inl ⟨?_, ?_⟩) (by assumption) ?_
  rotate_left 2
  · (simp only [List.getElem?_toArray, List.getElem?_cons_succ, List.getElem?_cons_zero]; rfl)
  · first | exact fun _ _ _ h => h | exact fun _ _ _ h => by cases h.1
  · rfl
  · ((intro wq hSq; (try dsimp only at hSq); go_simp); (try with_reducible rfl))
  try simp only [Act.put, List.setIfInBounds_toArray, List.set_cons_zero, List.set_cons_succ]
  refine wpAnyH_take (i := 5) (oi := ?_) (v := ?_) ?_ (by kernel_rfl) (by kernel_rfl) (by kernel_rfl) ?_ (Or.inl ⟨?_, ?_⟩) (by assumption) ?_
  rotate_left 2
  · (simp only [List.getElem?_toArray, List.getElem?_cons_succ, List.getElem?_cons_zero]; rfl)
  · first | exact fun _ _ _ h => h | exact fun _ _ _ h => by cases h.1
  · rfl
  · ((intro wq hSq; (try dsimp only at hSq); go_simp); (try with_reducible rfl))
  try simp only [Act.put, List.setIfInBounds_toArray, List.set_cons_zero, List.set_cons_succ]
  refine wpAnyH_take (i := 10) (oi := ?_) (v := ?_) ?_ (by kernel_rfl) (by kernel_rfl) (by kernel_rfl) ?_ (Or.inl ⟨?_, ?_⟩) (by assumption) ?_
  rotate_left 2
  · (simp only [List.getElem?_toArray, List.getElem?_cons_succ, List.getElem?_cons_zero]; rfl)
  · first | exact fun _ _ _ h => h | exact fun _ _ _ h => by cases h.1
  · rfl
  · ((intro wq hSq; (try dsimp only at hSq); go_simp); (try with_reducible rfl))
  try simp only [Act.put, List.setIfInBounds_toArray, List.set_cons_zero, List.set_cons_succ]
  refine wpAnyH_take (i := 11) (oi := ?_) (v := ?_) ?_ (by kernel_rfl) (by kernel_rfl) (by kernel_rfl) ?_ (Or.inl ⟨?_, ?_⟩) (by assumption) ?_
  rotate_left 2
  · (simp only [List.getElem?_toArray, List.getElem?_cons_succ, List.getElem?_cons_zero]; rfl)
  · first | exact fun _ _ _ h => h | exact fun _ _ _ h => by cases h.1
  · rfl
  · ((intro wq hSq; (try dsimp only at hSq); go_simp); (try with_reducible rfl))
  try simp only [Act.put, List.setIfInBounds_toArray, List.set_cons_zero, List.set_cons_succ]
  refine wpAnyH_take (i := 16) (oi := ?_) (v := ?_) ?_ (by kernel_rfl) (by kernel_rfl) (by kernel_rfl) ?_ (Or.inl ⟨?_, ?_⟩) (by assumption) ?_
  rotate_left 2
  · (simp only [List.getElem?_toArray, List.getElem?_cons_succ, List.getElem?_cons_zero]; rfl)
  · first | exact fun _ _ _ h => h | exact fun _ _ _ h => by cases h.1
  · rfl
  · ((intro wq hSq; (try dsimp only at hSq); go_simp); (try with_reducible rfl))
  try simp only [Act.put, List.setIfInBounds_toArray, List.set_cons_zero, List.set_cons_succ]
  refine wpAnyH_take (i := 17) (oi := ?_) (v := ?_) ?_ (by kernel_rfl) (by kernel_rfl) (by kernel_rfl) ?_ (Or.inl ⟨?_, ?_⟩) (by assumption) ?_
  rotate_left 2
  · (simp only [List.getElem?_toArray, List.getElem?_cons_succ, List.getElem?_cons_zero]; rfl)
  · first | exact fun _ _ _ h => h | exact fun _ _ _ h => by cases h.1
  · rfl
  · ((intro wq hSq; (try dsimp only at hSq); go_simp); (try with_reducible rfl))
  try simp only [Act.put, List.setIfInBounds_toArray, List.set_cons_zero, List.set_cons_succ]
  refine wpAnyH_take (i := 21) (oi := ?_) (v := ?_) ?_ (by kernel_rfl) (by kernel_rfl) (by kernel_rfl) ?_ (Or.inl ⟨?_, ?_⟩) (by assumption) ?_
  rotate_left 2
  · (simp only [List.getElem?_toArray, List.getElem?_cons_succ, List.getElem?_cons_zero]; rfl)
  · first | exact fun _ _ _ h => h | exact fun _ _ _ h => by cases h.1
  · rfl
  · ((intro wq hSq; (try dsimp only at hSq); go_simp); (try with_reducible rfl))
  try simp only [Act.put, List.setIfInBounds_toArray, List.set_cons_zero, List.set_cons_succ]
  refine wpAnyH_take (i := 25) (oi := ?_) (v := ?_) ?_ (by kernel_rfl) (by kernel_rfl) (by kernel_rfl) ?_ (Or.inl ⟨?_, ?_⟩) (by assumption) ?_
  rotate_left 2
  · (simp only [List.getElem?_toArray, List.getElem?_cons_succ, List.getElem?_cons_zero]; rfl)
  · first | exact fun _ _ _ h => h | exact fun _ _ _ h => by cases h.1
  · rfl
  · ((intro wq hSq; (try dsimp only at hSq); go_simp); (try with_reducible rfl))
  try simp only [Act.put, List.setIfInBounds_toArray, List.set_cons_zero, List.set_cons_succ]
  refine wpAnyH_take (i := 26) (oi := ?_) (v := ?_) ?_ (by kernel_rfl) (by kernel_rfl) (by kernel_rfl) ?_ (Or.inl ⟨?_, ?_⟩) (by assumption) ?_
  rotate_left 2
  · (simp only [List.getElem?_toArray, List.getElem?_cons_succ, List.getElem?_cons_zero]; rfl)
  · first | exact fun _ _ _ h => h | exact fun _ _ _ h => by cases h.1
  · rfl
  · ((intro wq hSq; (try dsimp only at hSq); go_simp); (try with_reducible rfl))
  try simp only [Act.put, List.setIfInBounds_toArray, List.set_cons_zero, List.set_cons_succ]
  refine wpAnyH_ready (rs := [2]) (by kernel_rfl) (by simp) ?_
  refine AllReadyH.cons (o := ?_) ?_ (fun K hK => ?_) AllReadyH.nil
  rotate_left
  · (simp only [List.getElem?_toArray, List.getElem?_cons_succ, List.getElem?_cons_zero]; rfl)
  go_simp
  go_at_call 69
  refine (N0.out _).mono ?_
  rintro ex wx ⟨rfl, hbx⟩
  have hSx := RLt.below (w2 := w1) (n := n) (x := ⟨p, o, (kq : Int), r, (kc : Int), b, e⟩) (A := A) (c := c) hHeld hbx
  refine hK.out _ _ hSx (fun hHeld => ?_)
  clear hK K
  try simp only [Act.put, List.setIfInBounds_toArray, List.set_cons_zero, List.set_cons_succ]
  refine wpAnyH_take (i := 3) (oi := ?_) (v := ?_) ?_ (by kernel_rfl) (by kernel_rfl) (by kernel_rfl) ?_ (Or.inl ⟨?_, ?_⟩) (by assumption) ?_
  rotate_left 2
  · (simp only [List.getElem?_toArray, List.getElem?_cons_succ, List.getElem?_cons_zero]; rfl)
  · first | exact fun _ _ _ h => h | exact fun _ _ _ h => by cases h.1
  · rfl
  · ((intro wq hSq; (try dsimp only at hSq); go_simp); (try with_reducible rfl))
  try simp only [Act.put, List.setIfInBounds_toArray, List.set_cons_zero, List.set_cons_succ]
  refine wpAnyH_ready (rs := [6]) (by kernel_rfl) (by simp) ?_
  refine AllReadyH.cons (o := ?_) ?_ (fun K hK => ?_) AllReadyH.nil
  rotate_left
  · (simp only [List.getElem?_toArray, List.getElem?_cons_succ, List.getElem?_cons_zero]; rfl)
  go_simp
  go_at_call 69
  refine (N1.out _).mono ?_
  rintro ex wx ⟨rfl, hbx⟩
  have hSx := RLt.below (w2 := w1) (n := n) (x := ⟨p, o, (kq : Int), r, (kc : Int), b, e⟩) (A := A) (c := c) hHeld hbx
  refine hK.out _ _ hSx (fun hHeld => ?_)
  clear hK K
  try simp only [Act.put, List.setIfInBounds_toArray, List.set_cons_zero, List.set_cons_succ]
  refine wpAnyH_take (i := 7) (oi := ?_) (v := ?_) ?_ (by kernel_rfl) (by kernel_rfl) (by kernel_rfl) ?_ (Or.inl ⟨?_, ?_⟩) (by assumption) ?_
  rotate_left 2
  · (simp only [List.getElem?_toArray, List.getElem?_cons_succ, List.getElem?_cons_zero]; rfl)
  · first | exact fun _ _ _ h => h | exact fun _ _ _ h => by cases h.1
  · rfl
  · ((intro wq hSq; (try dsimp only at hSq); go_simp); (try with_reducible rfl))
  try simp only [Act.put, List.setIfInBounds_toArray, List.set_cons_zero, List.set_cons_succ]
  refine wpAnyH_take (i := 8) (oi := ?_) (v := ?_) ?_ (by kernel_rfl) (by kernel_rfl) (by kernel_rfl) ?_ (Or.inl ⟨?_, ?_⟩) (by assumption) ?_
  rotate_left 2
  · (simp only [List.getElem?_toArray, List.getElem?_cons_succ, List.getElem?_cons_zero]; rfl)
  · first | exact fun _ _ _ h => h | exact fun _ _ _ h => by cases h.1
  · rfl
  · ((intro wq hSq; (try dsimp only at hSq); go_simp); (try with_reducible rfl))
  try simp only [Act.put, List.setIfInBounds_toArray, List.set_cons_zero, List.set_cons_succ]
  refine wpAnyH_ready (rs := [9]) (by kernel_rfl) (by simp) ?_
  refine AllReadyH.cons (o := ?_) ?_ (fun K hK => ?_) AllReadyH.nil
  rotate_left
  · (simp only [List.getElem?_toArray, List.getElem?_cons_succ, List.getElem?_cons_zero]; rfl)
  go_simp
  go_at_call 70
  refine (rops_any _).mono ?_
  rintro ex wx ⟨bw, rfl, hcw, hlw, hgw, hbx⟩
  have hSx := RLt.below (w2 := w1) (n := n) (x := ⟨p, o, (kq : Int), r, (kc : Int), b, e⟩) (A := A) (c := c) hHeld hbx
  have hcw0 := hcw _ _ HO.out
  refine hK.out _ _ hSx (fun hHeld => ?_)
  clear hK K
  try simp only [Act.put, List.setIfInBounds_toArray, List.set_cons_zero, List.set_cons_succ]
  have hSy : (RLt w1 n ⟨p, o, (kq : Int), r, (kc : Int), b, e⟩ A c _) ∧ _ := ⟨hHeld, hcw0⟩
  refine wpAnyH_strong (S' := fun w' => (Below w1.heap.size w1 w' ∧ w'.cell? ⟨n, 0, none⟩ = some (.int .i64 p) ∧ w'.cell? ⟨n, 1, none⟩ = some (.int .i64 o) ∧ w'.cell? ⟨n, 2, none⟩ = some (.int .i64 (kq : Int)) ∧ w'.cell? ⟨n, 3, none⟩ = some (.slice A r.length c) ∧ w'.cell? ⟨n, 4, none⟩ = some (.int .i64 (kc : Int)) ∧ w'.cell? ⟨n, 5, none⟩ = some (.int .i64 b)) ∧ w'.cell? ⟨bw, kq, none⟩ = some (.string P2)) (fun w h => h.1) _ _ _ _ ?_
  refine wpAnyH_take (i := 12) (oi := ?_) (v := ?_) ?_ (by kernel_rfl) (by kernel_rfl) (by kernel_rfl) ?_ (Or.inl ⟨?_, ?_⟩) (by assumption) ?_
  rotate_left 2
  · (simp only [List.getElem?_toArray, List.getElem?_cons_succ, List.getElem?_cons_zero]; rfl)
  · first | exact fun _ _ _ h => h | exact fun _ _ _ h => by cases h.1
  · rfl
  · ((intro wq hSq; (try dsimp only at hSq); go_simp); (try with_reducible rfl))
  try simp only [Act.put, List.setIfInBounds_toArray, List.set_cons_zero, List.set_cons_succ]
  refine wpAnyH_take (i := 13) (oi := ?_) (v := ?_) ?_ (by kernel_rfl) (by kernel_rfl) (by kernel_rfl) ?_ (Or.inl ⟨?_, ?_⟩) (by assumption) ?_
  rotate_left 2
  · (simp only [List.getElem?_toArray, List.getElem?_cons_succ, List.getElem?_cons_zero]; rfl)
  · first | exact fun _ _ _ h => h | exact fun _ _ _ h => by cases h.1
  · rfl
  · ((intro wq hSq; (try dsimp only at hSq); go_simp); (try with_reducible rfl))
  try simp only [Act.put, List.setIfInBounds_toArray, List.set_cons_zero, List.set_cons_succ]
  refine wpAnyH_take (i := 14) (oi := ?_) (v := ?_) ?_ (by kernel_rfl) (by kernel_rfl) (by kernel_rfl) ?_ (Or.inl ⟨?_, ?_⟩) (by assumption) ?_
  rotate_left 2
  · (simp only [List.getElem?_toArray, List.getElem?_cons_succ, List.getElem?_cons_zero]; rfl)
  · first | exact fun _ _ _ h => h | exact fun _ _ _ h => by cases h.1
  · rfl
  · ((intro wq hSq; (try dsimp only at hSq); go_simp); (try with_reducible rfl))
  try simp only [Act.put, List.setIfInBounds_toArray, List.set_cons_zero, List.set_cons_succ]
  refine wpAnyH_take (i := 15) (oi := ?_) (v := ?_) ?_ (by kernel_rfl) (by kernel_rfl) (by kernel_rfl) ?_ (Or.inl ⟨?_, ?_⟩) (by assumption) ?_
  rotate_left 2
  · (simp only [List.getElem?_toArray, List.getElem?_cons_succ, List.getElem?_cons_zero]; rfl)
  · first | exact fun _ _ _ h => h | exact fun _ _ _ h => by cases h.1
  · rfl
  · ((intro wq hSq; (try dsimp only at hSq); go_simp); (try with_reducible rfl))
  try simp only [Act.put, List.setIfInBounds_toArray, List.set_cons_zero, List.set_cons_succ]
  refine wpAnyH_ready (rs := [18]) (by kernel_rfl) (by simp) ?_
  refine AllReadyH.cons (o := ?_) ?_ (fun K hK => ?_) AllReadyH.nil
  rotate_left
  · (simp only [List.getElem?_toArray, List.getElem?_cons_succ, List.getElem?_cons_zero]; rfl)
  go_simp
  go_at_call 69
  refine (N3.out _).mono ?_
  rintro ex wx ⟨rfl, hbx⟩
  have hSx := RLt2.below (w2 := w1) (n := n) (x := ⟨p, o, (kq : Int), r, (kc : Int), b, e⟩) (A := A) (c := c) (by assumption) hbx
  refine hK.out _ _ hSx (fun hHeld => ?_)
  clear hK K
  try simp only [Act.put, List.setIfInBounds_toArray, List.set_cons_zero, List.set_cons_succ]
  refine wpAnyH_take (i := 19) (oi := ?_) (v := ?_) ?_ (by kernel_rfl) (by kernel_rfl) (by kernel_rfl) ?_ (Or.inl ⟨?_, ?_⟩) (by assumption) ?_
  rotate_left 2
  · (simp only [List.getElem?_toArray, List.getElem?_cons_succ, List.getElem?_cons_zero]; rfl)
  · first | exact fun _ _ _ h => h | exact fun _ _ _ h => by cases h.1
  · rfl
  · ((intro wq hSq; (try dsimp only at hSq); go_simp); (try with_reducible rfl))
  try simp only [Act.put, List.setIfInBounds_toArray, List.set_cons_zero, List.set_cons_succ]
  refine wpAnyH_take (i := 20) (oi := ?_) (v := ?_) ?_ (by kernel_rfl) (by kernel_rfl) (by kernel_rfl) ?_ (Or.inl ⟨?_, ?_⟩) (by assumption) ?_
  rotate_left 2
  · (simp only [List.getElem?_toArray, List.getElem?_cons_succ, List.getElem?_cons_zero]; rfl)
  · first | exact fun _ _ _ h => h | exact fun _ _ _ h => by cases h.1
  · rfl
  · ((intro wq hSq; (try dsimp only at hSq); go_simp); (try with_reducible rfl))
  try simp only [Act.put, List.setIfInBounds_toArray, List.set_cons_zero, List.set_cons_succ]
  refine wpAnyH_take (i := 22) (oi := ?_) (v := ?_) ?_ (by kernel_rfl) (by kernel_rfl) (by kernel_rfl) ?_ (Or.inl ⟨?_, ?_⟩) (by assumption) ?_
  rotate_left 2
  · (simp only [List.getElem?_toArray, List.getElem?_cons_succ, List.getElem?_cons_zero]; rfl)
  · first | exact fun _ _ _ h => h | exact fun _ _ _ h => by cases h.1
  · rfl
  · ((intro wq hSq; (try dsimp only at hSq); go_simp); (try with_reducible rfl))
  try simp only [Act.put, List.setIfInBounds_toArray, List.set_cons_zero, List.set_cons_succ]
  refine wpAnyH_take (i := 23) (oi := ?_) (v := ?_) ?_ (by kernel_rfl) (by kernel_rfl) (by kernel_rfl) ?_ (Or.inl ⟨?_, ?_⟩) (by assumption) ?_
  rotate_left 2
  · (simp only [List.getElem?_toArray, List.getElem?_cons_succ, List.getElem?_cons_zero]; rfl)
  · first | exact fun _ _ _ h => h | exact fun _ _ _ h => by cases h.1
  · rfl
  · ((intro wq hSq; (try dsimp only at hSq); go_simp); (try with_reducible rfl))
  try simp only [Act.put, List.setIfInBounds_toArray, List.set_cons_zero, List.set_cons_succ]
  refine wpAnyH_ready (rs := [24]) (by kernel_rfl) (by simp) ?_
  refine AllReadyH.cons (o := ?_) ?_ (fun K hK => ?_) AllReadyH.nil
  rotate_left
  · (simp only [List.getElem?_toArray, List.getElem?_cons_succ, List.getElem?_cons_zero]; rfl)
  go_simp
  go_at_call 71
  refine (rcodes_any _).mono ?_
  rintro ex wx ⟨bv, rfl, hcv, hlv, hgv, hbx⟩
  have hSx := RLt2.below (w2 := w1) (n := n) (x := ⟨p, o, (kq : Int), r, (kc : Int), b, e⟩) (A := A) (c := c) (by assumption) hbx
  have hcv0 := hcv _ _ HC.out
  refine hK.out _ _ hSx (fun hHeld => ?_)
  clear hK K
  try simp only [Act.put, List.setIfInBounds_toArray, List.set_cons_zero, List.set_cons_succ]
  have hSz : ((RLt w1 n ⟨p, o, (kq : Int), r, (kc : Int), b, e⟩ A c _) ∧ _) ∧ _ := ⟨hHeld, hcv0⟩
  refine wpAnyH_strong (S' := fun w' => ((Below w1.heap.size w1 w' ∧ w'.cell? ⟨n, 0, none⟩ = some (.int .i64 p) ∧ w'.cell? ⟨n, 1, none⟩ = some (.int .i64 o) ∧ w'.cell? ⟨n, 2, none⟩ = some (.int .i64 (kq : Int)) ∧ w'.cell? ⟨n, 3, none⟩ = some (.slice A r.length c) ∧ w'.cell? ⟨n, 4, none⟩ = some (.int .i64 (kc : Int)) ∧ w'.cell? ⟨n, 5, none⟩ = some (.int .i64 b)) ∧ w'.cell? ⟨bw, kq, none⟩ = some (.string P2)) ∧ w'.cell? ⟨bv, kc, none⟩ = some (.string P5)) (fun w h => h.1) _ _ _ _ ?_
  refine wpAnyH_take (i := 27) (oi := ?_) (v := ?_) ?_ (by kernel_rfl) (by kernel_rfl) (by kernel_rfl) ?_ (Or.inl ⟨?_, ?_⟩) (by assumption) ?_
  rotate_left 2
  · (simp only [List.getElem?_toArray, List.getElem?_cons_succ, List.getElem?_cons_zero]; rfl)
  · first | exact fun _ _ _ h => h | exact fun _ _ _ h => by cases h.1
  · rfl
  · ((intro wq hSq; (try dsimp only at hSq); go_simp); (try with_reducible rfl))
  try simp only [Act.put, List.setIfInBounds_toArray, List.set_cons_zero, List.set_cons_succ]
  refine wpAnyH_take (i := 28) (oi := ?_) (v := ?_) ?_ (by kernel_rfl) (by kernel_rfl) (by kernel_rfl) ?_ (Or.inl ⟨?_, ?_⟩) (by assumption) ?_
  rotate_left 2
  · (simp only [List.getElem?_toArray, List.getElem?_cons_succ, List.getElem?_cons_zero]; rfl)
  · first | exact fun _ _ _ h => h | exact fun _ _ _ h => by cases h.1
  · rfl
  · ((intro wq hSq; (try dsimp only at hSq); go_simp); (try with_reducible rfl))
  try simp only [Act.put, List.setIfInBounds_toArray, List.set_cons_zero, List.set_cons_succ]
  refine wpAnyH_take (i := 29) (oi := ?_) (v := ?_) ?_ (by kernel_rfl) (by kernel_rfl) (by kernel_rfl) ?_ (Or.inl ⟨?_, ?_⟩) (by assumption) ?_
  rotate_left 2
  · (simp only [List.getElem?_toArray, List.getElem?_cons_succ, List.getElem?_cons_zero]; rfl)
  · first | exact fun _ _ _ h => h | exact fun _ _ _ h => by cases h.1
  · rfl
  · ((intro wq hSq; (try dsimp only at hSq); go_simp); (try with_reducible rfl))
  try simp only [Act.put, List.setIfInBounds_toArray, List.set_cons_zero, List.set_cons_succ]
  refine wpAnyH_take (i := 30) (oi := ?_) (v := ?_) ?_ (by kernel_rfl) (by kernel_rfl) (by kernel_rfl) ?_ (Or.inl ⟨?_, ?_⟩) (by assumption) ?_
  rotate_left 2
  · (simp only [List.getElem?_toArray, List.getElem?_cons_succ, List.getElem?_cons_zero]; rfl)
  · first | exact fun _ _ _ h => h | exact fun _ _ _ h => by cases h.1
  · rfl
  · ((intro wq hSq; (try dsimp only at hSq); go_simp); (try with_reducible rfl))
  try simp only [Act.put, List.setIfInBounds_toArray, List.set_cons_zero, List.set_cons_succ]
  refine wpAnyH_done (by kernel_rfl) ?_ _
  all_goals
    have hBx := hB1.trans (hSx.1.1.mono hB1.size)
    obtain ⟨_, _, _, _, f3, _, _⟩ := hSx.1
    simp only at f3
    go_wp2_with fail
    go_ret
    exact ⟨by rw [← HF.out]; rfl, by first | exact hBx | (rw [← hn]; exact hBx)⟩

set_option maxRecDepth 100000 in
set_option maxHeartbeats 4000000 in
theorem rline_c (p o q : Int) (r : List Int) (cc b e : Int) (A : Option Addr) (c : Nat) (w : World) (h : clB ⟨p, o, q, r, cc, b, e⟩ = true) (he : e = -1) (hrr : r ≠ []) (hA : Ws w w.heap.size A r) :
    Calls Tryd.prog 31 #[.agg #[.int .i64 p, .int .i64 o, .int .i64 q, .slice A r.length c, .int .i64 cc, .int .i64 b, .int .i64 e]] w fun r' w' => r' = .returned (.string (lineHS ⟨p, o, q, r, cc, b, e⟩)) ∧ Below w.heap.size w w' := by
  obtain ⟨bp, bo, bb, bq, bc, be, br⟩ := clB_iff.1 h
  simp only at bp bo bb bq bc be br
  clear h
  have hfin := rl_rec ⟨p, o, q, r, cc, b, e⟩ hrr
  simp only at hfin
  have n0 := fun W => num_any (p.toNat + 1) p.toNat p W (by omega) (by omega) (by omega)
  have n1 := fun W => num_any (o.toNat + 1) o.toNat o W (by omega) (by omega) (by omega)
  have n3 := fun W => num_any (b.toNat + 1) b.toNat b W (by omega) (by omega) (by omega)
  have l0 : (numS p.toNat).size ≤ 20 := numS_le (by omega)
  have l1 : (numS o.toNat).size ≤ 20 := numS_le (by omega)
  have l3 : (numS b.toNat).size ≤ 20 := numS_le (by omega)
  have l2 := opS_size q
  have l5 := codeS_size cc
  have hE : endS e = ⟨#[45]⟩ := by rw [he]; rfl
  rw [hE] at hfin
  have he1 : decide (0 ≤ e) = false := by rw [decide_eq_false_iff_not]; omega
  have hsh := fun (W : World) (hb : Below w.heap.size w W) => refShow_any A c r W (by omega) (hA.below hb hb.size)
  have hshE : showS r = recT r := rfl
  have l6 : (recT r).size ≤ 1000 := by
    have h1 := showL_len r (fun z hz => by
      obtain ⟨i, hi⟩ := List.getElem?_of_mem hz
      exact (hA.get hi).1.2.2) r.length (Nat.le_refl _)
    rw [List.take_length] at h1
    have h2 : (recT r).size = (showL r).length := by simp [recT, showL, ByteArray.size]
    omega
  rw [hshE] at hsh
  obtain ⟨R, hR⟩ : ∃ R, recT r = R := ⟨_, rfl⟩
  rw [hR] at hsh l6 hfin
  have hsw : decide (0 < r.length) = true := by
    rw [decide_eq_true_iff]
    rcases r with _ | ⟨a, t⟩
    · exact absurd rfl hrr
    · simp
  have hrr' := Lib.hid hrr
  have hsh' := Lib.hid hsh
  clear hrr hsh hR hshE
  have hop : ∀ k : Nat, q = (k : Int) → opsB[k]? = some (opS q) := fun k hk => by rw [hk]; exact opsB_at (by omega)
  have hco : ∀ k : Nat, cc = (k : Int) → codesB[k]? = some (codeS cc) := fun k hk => by rw [hk]; exact codesB_at (by omega)
  obtain ⟨P0, hS0⟩ : ∃ S, numS p.toNat = S := ⟨_, rfl⟩
  obtain ⟨P1, hS1⟩ : ∃ S, numS o.toNat = S := ⟨_, rfl⟩
  obtain ⟨P2, hS2⟩ : ∃ S, opS q = S := ⟨_, rfl⟩
  obtain ⟨P3, hS3⟩ : ∃ S, numS b.toNat = S := ⟨_, rfl⟩
  obtain ⟨P5, hS5⟩ : ∃ S, codeS cc = S := ⟨_, rfl⟩
  rw [hS0] at n0 l0
  rw [hS1] at n1 l1
  rw [hS2] at hop l2
  rw [hS3] at n3 l3
  rw [hS5] at hco l5
  rw [hS0, hS1, hS2, hS3, hS5] at hfin
  clear hS0 hS1 hS2 hS3 hS5
  obtain ⟨kq, rfl⟩ := Int.eq_ofNat_of_zero_le (show 0 ≤ q by omega)
  obtain ⟨kc, rfl⟩ := Int.eq_ofNat_of_zero_le (show 0 ≤ cc by omega)
  have k9 : (kq : Int) < 5 := by omega
  have k0 : (0 : Int) ≤ (kq : Int) := by omega
  have k19 : (kc : Int) < 4 := by omega
  have k10 : (0 : Int) ≤ (kc : Int) := by omega
  have HO := Lib.hid (hop kq rfl)
  have HC := Lib.hid (hco kc rfl)
  have HF := Lib.hid hfin
  have N0 := Lib.hid n0
  have N1 := Lib.hid n1
  have N3 := Lib.hid n3
  have z0 : ¬ 9223372036854775807 < P0.size + 1 := by omega
  have z1 : ¬ 9223372036854775807 < P0.size + 1 + P1.size := by omega
  have z2 : ¬ 9223372036854775807 < P0.size + 1 + P1.size + 1 := by omega
  have z3 : ¬ 9223372036854775807 < P0.size + 1 + P1.size + 1 + P2.size := by omega
  have z4 : ¬ 9223372036854775807 < P0.size + 1 + P1.size + 1 + P2.size + 1 := by omega
  have z5 : ¬ 9223372036854775807 < P0.size + 1 + P1.size + 1 + P2.size + 1 + P3.size := by omega
  have z6 : ¬ 9223372036854775807 < P0.size + 1 + P1.size + 1 + P2.size + 1 + P3.size + 1 := by omega
  have z7 : ¬ 9223372036854775807 < P0.size + 1 + P1.size + 1 + P2.size + 1 + P3.size + 1 + 1 := by omega
  have z8 : ¬ 9223372036854775807 < P0.size + 1 + P1.size + 1 + P2.size + 1 + P3.size + 1 + 1 + 1 := by omega
  have z9 : ¬ 9223372036854775807 < P0.size + 1 + P1.size + 1 + P2.size + 1 + P3.size + 1 + 1 + 1 + P5.size := by omega
  have z10 : ¬ 9223372036854775807 < P0.size + 1 + P1.size + 1 + P2.size + 1 + P3.size + 1 + 1 + 1 + P5.size + 1 := by omega
  have z11 : ¬ 9223372036854775807 < P0.size + 1 + P1.size + 1 + P2.size + 1 + P3.size + 1 + 1 + 1 + P5.size + 1 + R.size := by omega
  have hbnd := Lib.hid (And.intro bp (And.intro bo (And.intro bb (And.intro bq (And.intro bc (And.intro be br))))))
  have he' := Lib.hid he
  have hbx := Lib.hid (ClBox.new w ⟨p, o, (kq : Int), r, (kc : Int), b, e⟩ A c)
  have hB0 := (Below.refl w.heap.size w).alloc (Nat.le_refl _) (.cells #[.int .i64 p, .int .i64 o, .int .i64 (kq : Int), .slice A r.length c, .int .i64 (kc : Int), .int .i64 b, .int .i64 e] 45)
  clear hop hco hfin n0 n1 n3 bp bo bb bq bc be br he
  go_enter Tryd.func31, Tryd.ntmps31
  go_wp2_with fail
  obtain ⟨w0, hw0⟩ : ∃ w0, w.alloc (.cells #[.int .i64 p, .int .i64 o, .int .i64 (kq : Int), .slice A r.length c, .int .i64 (kc : Int), .int .i64 b, .int .i64 e] 45) = w0 := ⟨_, rfl⟩
  have hbx1 := hbx.out
  have hB1 := hB0
  rw [hw0] at hbx1 hB1 ⊢
  obtain ⟨n, hn⟩ : ∃ n, w.heap.size = n := ⟨_, rfl⟩
  rw [hn] at hbx1 ⊢
  have hbs1 := hB1.size
  obtain ⟨d0, d1, d2, d3, d4, d5, d6⟩ := hbx1.cells
  simp only at d0 d1 d2 d3 d4 d5 d6
  clear hbx hB0
  have hSd : RLt w0 n ⟨p, o, (kq : Int), r, (kc : Int), b, e⟩ A c w0.drew := RLt.drew ⟨Below.refl _ _, d0, d1, d2, d3, d4, d5⟩
  clear hbx1 d6
  refine wp_region_held_drew (S := fun w' => Below w0.heap.size w0 w' ∧ w'.cell? ⟨n, 0, none⟩ = some (.int .i64 p) ∧ w'.cell? ⟨n, 1, none⟩ = some (.int .i64 o) ∧ w'.cell? ⟨n, 2, none⟩ = some (.int .i64 (kq : Int)) ∧ w'.cell? ⟨n, 3, none⟩ = some (.slice A r.length c) ∧ w'.cell? ⟨n, 4, none⟩ = some (.int .i64 (kc : Int)) ∧ w'.cell? ⟨n, 5, none⟩ = some (.int .i64 b)) (by kernel_rfl) hSd (fun hHeld => ?_)
  refine wpAnyH_take (i := 0) (oi := ?_) (v := ?_) ?_ (by kernel_rfl) (by kernel_rfl) (by kernel_rfl) ?_ (Or.inl ⟨?_, ?_⟩) (by assumption) ?_
  rotate_left 2
  · (simp only [List.getElem?_toArray, List.getElem?_cons_zero]; rfl)
  · first | exact fun _ _ _ h => h | exact fun _ _ _ h => by cases h.1
  · rfl
  · ((intro wq hSq; (try dsimp only at hSq); go_simp); (try with_reducible rfl))
  try simp only [Act.put, List.setIfInBounds_toArray, List.set_cons_zero, List.set_cons_succ]
  refine wpAnyH_take (i := 1) (oi := ?_) (v := ?_) ?_ (by kernel_rfl) (by kernel_rfl) (by kernel_rfl) ?_ (Or.inl ⟨?_, ?_⟩) (by assumption) ?_
  rotate_left 2
  · (simp only [List.getElem?_toArray, List.getElem?_cons_succ, List.getElem?_cons_zero]; rfl)
  · first | exact fun _ _ _ h => h | exact fun _ _ _ h => by cases h.1
  · rfl
  · ((intro wq hSq; (try dsimp only at hSq); go_simp); (try with_reducible rfl))
  try simp only [Act.put, List.setIfInBounds_toArray, List.set_cons_zero, List.set_cons_succ]
  refine wpAnyH_take (i := 4) (oi := ?_) (v := ?_) ?_ (by kernel_rfl) (by kernel_rfl) (by kernel_rfl) ?_ (Or.inl ⟨?_, ?_⟩) (by assumption) ?_
  rotate_left 2
  · (simp only [List.getElem?_toArray, List.getElem?_cons_succ, List.getElem?_cons_zero]; rfl)
  · first | exact fun _ _ _ h => h | exact fun _ _ _ h => by cases h.1
  · rfl
  · ((intro wq hSq; (try dsimp only at hSq); go_simp); (try with_reducible rfl))
  try simp only [Act.put, List.setIfInBounds_toArray, List.set_cons_zero, List.set_cons_succ]
  refine wpAnyH_take (i := 5) (oi := ?_) (v := ?_) ?_ (by kernel_rfl) (by kernel_rfl) (by kernel_rfl) ?_ (Or.inl ⟨?_, ?_⟩) (by assumption) ?_
  rotate_left 2
  · (simp only [List.getElem?_toArray, List.getElem?_cons_succ, List.getElem?_cons_zero]; rfl)
  · first | exact fun _ _ _ h => h | exact fun _ _ _ h => by cases h.1
  · rfl
  · ((intro wq hSq; (try dsimp only at hSq); go_simp); (try with_reducible rfl))
  try simp only [Act.put, List.setIfInBounds_toArray, List.set_cons_zero, List.set_cons_succ]
  refine wpAnyH_take (i := 10) (oi := ?_) (v := ?_) ?_ (by kernel_rfl) (by kernel_rfl) (by kernel_rfl) ?_ (Or.inl ⟨?_, ?_⟩) (by assumption) ?_
  rotate_left 2
  · (simp only [List.getElem?_toArray, List.getElem?_cons_succ, List.getElem?_cons_zero]; rfl)
  · first | exact fun _ _ _ h => h | exact fun _ _ _ h => by cases h.1
  · rfl
  · ((intro wq hSq; (try dsimp only at hSq); go_simp); (try with_reducible rfl))
  try simp only [Act.put, List.setIfInBounds_toArray, List.set_cons_zero, List.set_cons_succ]
  refine wpAnyH_take (i := 11) (oi := ?_) (v := ?_) ?_ (by kernel_rfl) (by kernel_rfl) (by kernel_rfl) ?_ (Or.inl ⟨?_, ?_⟩) (by assumption) ?_
  rotate_left 2
  · (simp only [List.getElem?_toArray, List.getElem?_cons_succ, List.getElem?_cons_zero]; rfl)
  · first | exact fun _ _ _ h => h | exact fun _ _ _ h => by cases h.1
  · rfl
  · ((intro wq hSq; (try dsimp only at hSq); go_simp); (try with_reducible rfl))
  try simp only [Act.put, List.setIfInBounds_toArray, List.set_cons_zero, List.set_cons_succ]
  refine wpAnyH_take (i := 16) (oi := ?_) (v := ?_) ?_ (by kernel_rfl) (by kernel_rfl) (by kernel_rfl) ?_ (Or.inl ⟨?_, ?_⟩) (by assumption) ?_
  rotate_left 2
  · (simp only [List.getElem?_toArray, List.getElem?_cons_succ, List.getElem?_cons_zero]; rfl)
  · first | exact fun _ _ _ h => h | exact fun _ _ _ h => by cases h.1
  · rfl
  · ((intro wq hSq; (try dsimp only at hSq); go_simp); (try with_reducible rfl))
  try simp only [Act.put, List.setIfInBounds_toArray, List.set_cons_zero, List.set_cons_succ]
  refine wpAnyH_take (i := 17) (oi := ?_) (v := ?_) ?_ (by kernel_rfl) (by kernel_rfl) (by kernel_rfl) ?_ (Or.inl ⟨?_, ?_⟩) (by assumption) ?_
  rotate_left 2
  · (simp only [List.getElem?_toArray, List.getElem?_cons_succ, List.getElem?_cons_zero]; rfl)
  · first | exact fun _ _ _ h => h | exact fun _ _ _ h => by cases h.1
  · rfl
  · ((intro wq hSq; (try dsimp only at hSq); go_simp); (try with_reducible rfl))
  try simp only [Act.put, List.setIfInBounds_toArray, List.set_cons_zero, List.set_cons_succ]
  refine wpAnyH_take (i := 21) (oi := ?_) (v := ?_) ?_ (by kernel_rfl) (by kernel_rfl) (by kernel_rfl) ?_ (Or.inl ⟨?_, ?_⟩) (by assumption) ?_
  rotate_left 2
  · (simp only [List.getElem?_toArray, List.getElem?_cons_succ, List.getElem?_cons_zero]; rfl)
  · first | exact fun _ _ _ h => h | exact fun _ _ _ h => by cases h.1
  · rfl
  · ((intro wq hSq; (try dsimp only at hSq); go_simp); (try with_reducible rfl))
  try simp only [Act.put, List.setIfInBounds_toArray, List.set_cons_zero, List.set_cons_succ]
  refine wpAnyH_take (i := 25) (oi := ?_) (v := ?_) ?_ (by kernel_rfl) (by kernel_rfl) (by kernel_rfl) ?_ (Or.inl ⟨?_, ?_⟩) (by assumption) ?_
  rotate_left 2
  · (simp only [List.getElem?_toArray, List.getElem?_cons_succ, List.getElem?_cons_zero]; rfl)
  · first | exact fun _ _ _ h => h | exact fun _ _ _ h => by cases h.1
  · rfl
  · ((intro wq hSq; (try dsimp only at hSq); go_simp); (try with_reducible rfl))
  try simp only [Act.put, List.setIfInBounds_toArray, List.set_cons_zero, List.set_cons_succ]
  refine wpAnyH_take (i := 26) (oi := ?_) (v := ?_) ?_ (by kernel_rfl) (by kernel_rfl) (by kernel_rfl) ?_ (Or.inl ⟨?_, ?_⟩) (by assumption) ?_
  rotate_left 2
  · (simp only [List.getElem?_toArray, List.getElem?_cons_succ, List.getElem?_cons_zero]; rfl)
  · first | exact fun _ _ _ h => h | exact fun _ _ _ h => by cases h.1
  · rfl
  · ((intro wq hSq; (try dsimp only at hSq); go_simp); (try with_reducible rfl))
  try simp only [Act.put, List.setIfInBounds_toArray, List.set_cons_zero, List.set_cons_succ]
  refine wpAnyH_ready (rs := [2]) (by kernel_rfl) (by simp) ?_
  refine AllReadyH.cons (o := ?_) ?_ (fun K hK => ?_) AllReadyH.nil
  rotate_left
  · (simp only [List.getElem?_toArray, List.getElem?_cons_succ, List.getElem?_cons_zero]; rfl)
  go_simp
  go_at_call 69
  refine (N0.out _).mono ?_
  rintro ex wx ⟨rfl, hbx⟩
  have hSx := RLt.below (w2 := w0) (n := n) (x := ⟨p, o, (kq : Int), r, (kc : Int), b, e⟩) (A := A) (c := c) hHeld hbx
  refine hK.out _ _ hSx (fun hHeld => ?_)
  clear hK K
  try simp only [Act.put, List.setIfInBounds_toArray, List.set_cons_zero, List.set_cons_succ]
  refine wpAnyH_take (i := 3) (oi := ?_) (v := ?_) ?_ (by kernel_rfl) (by kernel_rfl) (by kernel_rfl) ?_ (Or.inl ⟨?_, ?_⟩) (by assumption) ?_
  rotate_left 2
  · (simp only [List.getElem?_toArray, List.getElem?_cons_succ, List.getElem?_cons_zero]; rfl)
  · first | exact fun _ _ _ h => h | exact fun _ _ _ h => by cases h.1
  · rfl
  · ((intro wq hSq; (try dsimp only at hSq); go_simp); (try with_reducible rfl))
  try simp only [Act.put, List.setIfInBounds_toArray, List.set_cons_zero, List.set_cons_succ]
  refine wpAnyH_ready (rs := [6]) (by kernel_rfl) (by simp) ?_
  refine AllReadyH.cons (o := ?_) ?_ (fun K hK => ?_) AllReadyH.nil
  rotate_left
  · (simp only [List.getElem?_toArray, List.getElem?_cons_succ, List.getElem?_cons_zero]; rfl)
  go_simp
  go_at_call 69
  refine (N1.out _).mono ?_
  rintro ex wx ⟨rfl, hbx⟩
  have hSx := RLt.below (w2 := w0) (n := n) (x := ⟨p, o, (kq : Int), r, (kc : Int), b, e⟩) (A := A) (c := c) hHeld hbx
  refine hK.out _ _ hSx (fun hHeld => ?_)
  clear hK K
  try simp only [Act.put, List.setIfInBounds_toArray, List.set_cons_zero, List.set_cons_succ]
  refine wpAnyH_take (i := 7) (oi := ?_) (v := ?_) ?_ (by kernel_rfl) (by kernel_rfl) (by kernel_rfl) ?_ (Or.inl ⟨?_, ?_⟩) (by assumption) ?_
  rotate_left 2
  · (simp only [List.getElem?_toArray, List.getElem?_cons_succ, List.getElem?_cons_zero]; rfl)
  · first | exact fun _ _ _ h => h | exact fun _ _ _ h => by cases h.1
  · rfl
  · ((intro wq hSq; (try dsimp only at hSq); go_simp); (try with_reducible rfl))
  try simp only [Act.put, List.setIfInBounds_toArray, List.set_cons_zero, List.set_cons_succ]
  refine wpAnyH_take (i := 8) (oi := ?_) (v := ?_) ?_ (by kernel_rfl) (by kernel_rfl) (by kernel_rfl) ?_ (Or.inl ⟨?_, ?_⟩) (by assumption) ?_
  rotate_left 2
  · (simp only [List.getElem?_toArray, List.getElem?_cons_succ, List.getElem?_cons_zero]; rfl)
  · first | exact fun _ _ _ h => h | exact fun _ _ _ h => by cases h.1
  · rfl
  · ((intro wq hSq; (try dsimp only at hSq); go_simp); (try with_reducible rfl))
  try simp only [Act.put, List.setIfInBounds_toArray, List.set_cons_zero, List.set_cons_succ]
  refine wpAnyH_ready (rs := [9]) (by kernel_rfl) (by simp) ?_
  refine AllReadyH.cons (o := ?_) ?_ (fun K hK => ?_) AllReadyH.nil
  rotate_left
  · (simp only [List.getElem?_toArray, List.getElem?_cons_succ, List.getElem?_cons_zero]; rfl)
  go_simp
  go_at_call 70
  refine (rops_any _).mono ?_
  rintro ex wx ⟨bw, rfl, hcw, hlw, hgw, hbx⟩
  have hSx := RLt.below (w2 := w0) (n := n) (x := ⟨p, o, (kq : Int), r, (kc : Int), b, e⟩) (A := A) (c := c) hHeld hbx
  have hcw0 := hcw _ _ HO.out
  refine hK.out _ _ hSx (fun hHeld => ?_)
  clear hK K
  try simp only [Act.put, List.setIfInBounds_toArray, List.set_cons_zero, List.set_cons_succ]
  have hSy : (RLt w0 n ⟨p, o, (kq : Int), r, (kc : Int), b, e⟩ A c _) ∧ _ := ⟨hHeld, hcw0⟩
  refine wpAnyH_strong (S' := fun w' => (Below w0.heap.size w0 w' ∧ w'.cell? ⟨n, 0, none⟩ = some (.int .i64 p) ∧ w'.cell? ⟨n, 1, none⟩ = some (.int .i64 o) ∧ w'.cell? ⟨n, 2, none⟩ = some (.int .i64 (kq : Int)) ∧ w'.cell? ⟨n, 3, none⟩ = some (.slice A r.length c) ∧ w'.cell? ⟨n, 4, none⟩ = some (.int .i64 (kc : Int)) ∧ w'.cell? ⟨n, 5, none⟩ = some (.int .i64 b)) ∧ w'.cell? ⟨bw, kq, none⟩ = some (.string P2)) (fun w h => h.1) _ _ _ _ ?_
  refine wpAnyH_take (i := 12) (oi := ?_) (v := ?_) ?_ (by kernel_rfl) (by kernel_rfl) (by kernel_rfl) ?_ (Or.inl ⟨?_, ?_⟩) (by assumption) ?_
  rotate_left 2
  · (simp only [List.getElem?_toArray, List.getElem?_cons_succ, List.getElem?_cons_zero]; rfl)
  · first | exact fun _ _ _ h => h | exact fun _ _ _ h => by cases h.1
  · rfl
  · ((intro wq hSq; (try dsimp only at hSq); go_simp); (try with_reducible rfl))
  try simp only [Act.put, List.setIfInBounds_toArray, List.set_cons_zero, List.set_cons_succ]
  refine wpAnyH_take (i := 13) (oi := ?_) (v := ?_) ?_ (by kernel_rfl) (by kernel_rfl) (by kernel_rfl) ?_ (Or.inl ⟨?_, ?_⟩) (by assumption) ?_
  rotate_left 2
  · (simp only [List.getElem?_toArray, List.getElem?_cons_succ, List.getElem?_cons_zero]; rfl)
  · first | exact fun _ _ _ h => h | exact fun _ _ _ h => by cases h.1
  · rfl
  · ((intro wq hSq; (try dsimp only at hSq); go_simp); (try with_reducible rfl))
  try simp only [Act.put, List.setIfInBounds_toArray, List.set_cons_zero, List.set_cons_succ]
  refine wpAnyH_take (i := 14) (oi := ?_) (v := ?_) ?_ (by kernel_rfl) (by kernel_rfl) (by kernel_rfl) ?_ (Or.inl ⟨?_, ?_⟩) (by assumption) ?_
  rotate_left 2
  · (simp only [List.getElem?_toArray, List.getElem?_cons_succ, List.getElem?_cons_zero]; rfl)
  · first | exact fun _ _ _ h => h | exact fun _ _ _ h => by cases h.1
  · rfl
  · ((intro wq hSq; (try dsimp only at hSq); go_simp); (try with_reducible rfl))
  try simp only [Act.put, List.setIfInBounds_toArray, List.set_cons_zero, List.set_cons_succ]
  refine wpAnyH_take (i := 15) (oi := ?_) (v := ?_) ?_ (by kernel_rfl) (by kernel_rfl) (by kernel_rfl) ?_ (Or.inl ⟨?_, ?_⟩) (by assumption) ?_
  rotate_left 2
  · (simp only [List.getElem?_toArray, List.getElem?_cons_succ, List.getElem?_cons_zero]; rfl)
  · first | exact fun _ _ _ h => h | exact fun _ _ _ h => by cases h.1
  · rfl
  · ((intro wq hSq; (try dsimp only at hSq); go_simp); (try with_reducible rfl))
  try simp only [Act.put, List.setIfInBounds_toArray, List.set_cons_zero, List.set_cons_succ]
  refine wpAnyH_ready (rs := [18]) (by kernel_rfl) (by simp) ?_
  refine AllReadyH.cons (o := ?_) ?_ (fun K hK => ?_) AllReadyH.nil
  rotate_left
  · (simp only [List.getElem?_toArray, List.getElem?_cons_succ, List.getElem?_cons_zero]; rfl)
  go_simp
  go_at_call 69
  refine (N3.out _).mono ?_
  rintro ex wx ⟨rfl, hbx⟩
  have hSx := RLt2.below (w2 := w0) (n := n) (x := ⟨p, o, (kq : Int), r, (kc : Int), b, e⟩) (A := A) (c := c) (by assumption) hbx
  refine hK.out _ _ hSx (fun hHeld => ?_)
  clear hK K
  try simp only [Act.put, List.setIfInBounds_toArray, List.set_cons_zero, List.set_cons_succ]
  refine wpAnyH_take (i := 19) (oi := ?_) (v := ?_) ?_ (by kernel_rfl) (by kernel_rfl) (by kernel_rfl) ?_ (Or.inl ⟨?_, ?_⟩) (by assumption) ?_
  rotate_left 2
  · (simp only [List.getElem?_toArray, List.getElem?_cons_succ, List.getElem?_cons_zero]; rfl)
  · first | exact fun _ _ _ h => h | exact fun _ _ _ h => by cases h.1
  · rfl
  · ((intro wq hSq; (try dsimp only at hSq); go_simp); (try with_reducible rfl))
  try simp only [Act.put, List.setIfInBounds_toArray, List.set_cons_zero, List.set_cons_succ]
  refine wpAnyH_take (i := 20) (oi := ?_) (v := ?_) ?_ (by kernel_rfl) (by kernel_rfl) (by kernel_rfl) ?_ (Or.inl ⟨?_, ?_⟩) (by assumption) ?_
  rotate_left 2
  · (simp only [List.getElem?_toArray, List.getElem?_cons_succ, List.getElem?_cons_zero]; rfl)
  · first | exact fun _ _ _ h => h | exact fun _ _ _ h => by cases h.1
  · rfl
  · ((intro wq hSq; (try dsimp only at hSq); go_simp); (try with_reducible rfl))
  try simp only [Act.put, List.setIfInBounds_toArray, List.set_cons_zero, List.set_cons_succ]
  refine wpAnyH_take (i := 22) (oi := ?_) (v := ?_) ?_ (by kernel_rfl) (by kernel_rfl) (by kernel_rfl) ?_ (Or.inl ⟨?_, ?_⟩) (by assumption) ?_
  rotate_left 2
  · (simp only [List.getElem?_toArray, List.getElem?_cons_succ, List.getElem?_cons_zero]; rfl)
  · first | exact fun _ _ _ h => h | exact fun _ _ _ h => by cases h.1
  · rfl
  · ((intro wq hSq; (try dsimp only at hSq); go_simp); (try with_reducible rfl))
  try simp only [Act.put, List.setIfInBounds_toArray, List.set_cons_zero, List.set_cons_succ]
  refine wpAnyH_take (i := 23) (oi := ?_) (v := ?_) ?_ (by kernel_rfl) (by kernel_rfl) (by kernel_rfl) ?_ (Or.inl ⟨?_, ?_⟩) (by assumption) ?_
  rotate_left 2
  · (simp only [List.getElem?_toArray, List.getElem?_cons_succ, List.getElem?_cons_zero]; rfl)
  · first | exact fun _ _ _ h => h | exact fun _ _ _ h => by cases h.1
  · rfl
  · ((intro wq hSq; (try dsimp only at hSq); go_simp); (try with_reducible rfl))
  try simp only [Act.put, List.setIfInBounds_toArray, List.set_cons_zero, List.set_cons_succ]
  refine wpAnyH_ready (rs := [24]) (by kernel_rfl) (by simp) ?_
  refine AllReadyH.cons (o := ?_) ?_ (fun K hK => ?_) AllReadyH.nil
  rotate_left
  · (simp only [List.getElem?_toArray, List.getElem?_cons_succ, List.getElem?_cons_zero]; rfl)
  go_simp
  go_at_call 71
  refine (rcodes_any _).mono ?_
  rintro ex wx ⟨bv, rfl, hcv, hlv, hgv, hbx⟩
  have hSx := RLt2.below (w2 := w0) (n := n) (x := ⟨p, o, (kq : Int), r, (kc : Int), b, e⟩) (A := A) (c := c) (by assumption) hbx
  have hcv0 := hcv _ _ HC.out
  refine hK.out _ _ hSx (fun hHeld => ?_)
  clear hK K
  try simp only [Act.put, List.setIfInBounds_toArray, List.set_cons_zero, List.set_cons_succ]
  have hSz : ((RLt w0 n ⟨p, o, (kq : Int), r, (kc : Int), b, e⟩ A c _) ∧ _) ∧ _ := ⟨hHeld, hcv0⟩
  refine wpAnyH_strong (S' := fun w' => ((Below w0.heap.size w0 w' ∧ w'.cell? ⟨n, 0, none⟩ = some (.int .i64 p) ∧ w'.cell? ⟨n, 1, none⟩ = some (.int .i64 o) ∧ w'.cell? ⟨n, 2, none⟩ = some (.int .i64 (kq : Int)) ∧ w'.cell? ⟨n, 3, none⟩ = some (.slice A r.length c) ∧ w'.cell? ⟨n, 4, none⟩ = some (.int .i64 (kc : Int)) ∧ w'.cell? ⟨n, 5, none⟩ = some (.int .i64 b)) ∧ w'.cell? ⟨bw, kq, none⟩ = some (.string P2)) ∧ w'.cell? ⟨bv, kc, none⟩ = some (.string P5)) (fun w h => h.1) _ _ _ _ ?_
  refine wpAnyH_take (i := 27) (oi := ?_) (v := ?_) ?_ (by kernel_rfl) (by kernel_rfl) (by kernel_rfl) ?_ (Or.inl ⟨?_, ?_⟩) (by assumption) ?_
  rotate_left 2
  · (simp only [List.getElem?_toArray, List.getElem?_cons_succ, List.getElem?_cons_zero]; rfl)
  · first | exact fun _ _ _ h => h | exact fun _ _ _ h => by cases h.1
  · rfl
  · ((intro wq hSq; (try dsimp only at hSq); go_simp); (try with_reducible rfl))
  try simp only [Act.put, List.setIfInBounds_toArray, List.set_cons_zero, List.set_cons_succ]
  refine wpAnyH_take (i := 28) (oi := ?_) (v := ?_) ?_ (by kernel_rfl) (by kernel_rfl) (by kernel_rfl) ?_ (Or.inl ⟨?_, ?_⟩) (by assumption) ?_
  rotate_left 2
  · (simp only [List.getElem?_toArray, List.getElem?_cons_succ, List.getElem?_cons_zero]; rfl)
  · first | exact fun _ _ _ h => h | exact fun _ _ _ h => by cases h.1
  · rfl
  · ((intro wq hSq; (try dsimp only at hSq); go_simp); (try with_reducible rfl))
  try simp only [Act.put, List.setIfInBounds_toArray, List.set_cons_zero, List.set_cons_succ]
  refine wpAnyH_take (i := 29) (oi := ?_) (v := ?_) ?_ (by kernel_rfl) (by kernel_rfl) (by kernel_rfl) ?_ (Or.inl ⟨?_, ?_⟩) (by assumption) ?_
  rotate_left 2
  · (simp only [List.getElem?_toArray, List.getElem?_cons_succ, List.getElem?_cons_zero]; rfl)
  · first | exact fun _ _ _ h => h | exact fun _ _ _ h => by cases h.1
  · rfl
  · ((intro wq hSq; (try dsimp only at hSq); go_simp); (try with_reducible rfl))
  try simp only [Act.put, List.setIfInBounds_toArray, List.set_cons_zero, List.set_cons_succ]
  refine wpAnyH_take (i := 30) (oi := ?_) (v := ?_) ?_ (by kernel_rfl) (by kernel_rfl) (by kernel_rfl) ?_ (Or.inl ⟨?_, ?_⟩) (by assumption) ?_
  rotate_left 2
  · (simp only [List.getElem?_toArray, List.getElem?_cons_succ, List.getElem?_cons_zero]; rfl)
  · first | exact fun _ _ _ h => h | exact fun _ _ _ h => by cases h.1
  · rfl
  · ((intro wq hSq; (try dsimp only at hSq); go_simp); (try with_reducible rfl))
  try simp only [Act.put, List.setIfInBounds_toArray, List.set_cons_zero, List.set_cons_succ]
  refine wpAnyH_done (by kernel_rfl) ?_ _
  all_goals
    have hBx := hB1.trans (hSx.1.1.mono hB1.size)
    obtain ⟨_, _, _, _, f3, _, _⟩ := hSx.1
    simp only at f3
    go_wp2_with fail
    refine (hsh'.out _ hBx).mono ?_
    rintro ex w5 ⟨rfl, hb5⟩
    go_wp2_with fail
    go_ret
    exact ⟨by rw [← HF.out]; rfl, by first | exact hBx.trans (hb5.mono hBx.size) | (rw [← hn]; exact hBx.trans (hb5.mono hBx.size))⟩

set_option maxRecDepth 100000 in
set_option maxHeartbeats 4000000 in
theorem rline_d (p o q : Int) (r : List Int) (cc b e : Int) (A : Option Addr) (c : Nat) (w : World) (h : clB ⟨p, o, q, r, cc, b, e⟩ = true) (he : e = -1) (hrr : r = []) (_hA : Ws w w.heap.size A r) :
    Calls Tryd.prog 31 #[.agg #[.int .i64 p, .int .i64 o, .int .i64 q, .slice A r.length c, .int .i64 cc, .int .i64 b, .int .i64 e]] w fun r' w' => r' = .returned (.string (lineHS ⟨p, o, q, r, cc, b, e⟩)) ∧ Below w.heap.size w w' := by
  obtain ⟨bp, bo, bb, bq, bc, be, br⟩ := clB_iff.1 h
  simp only at bp bo bb bq bc be br
  clear h
  have hfin := rl_six ⟨p, o, q, r, cc, b, e⟩ hrr
  simp only at hfin
  have n0 := fun W => num_any (p.toNat + 1) p.toNat p W (by omega) (by omega) (by omega)
  have n1 := fun W => num_any (o.toNat + 1) o.toNat o W (by omega) (by omega) (by omega)
  have n3 := fun W => num_any (b.toNat + 1) b.toNat b W (by omega) (by omega) (by omega)
  have l0 : (numS p.toNat).size ≤ 20 := numS_le (by omega)
  have l1 : (numS o.toNat).size ≤ 20 := numS_le (by omega)
  have l3 : (numS b.toNat).size ≤ 20 := numS_le (by omega)
  have l2 := opS_size q
  have l5 := codeS_size cc
  have hE : endS e = ⟨#[45]⟩ := by rw [he]; rfl
  rw [hE] at hfin
  have he1 : decide (0 ≤ e) = false := by rw [decide_eq_false_iff_not]; omega
  have hrl : r.length = 0 := by rw [hrr]; rfl
  have hsw : decide (0 < r.length) = false := by rw [hrl]; rfl
  have hrr' := Lib.hid hrr
  clear hrr hrl
  have hop : ∀ k : Nat, q = (k : Int) → opsB[k]? = some (opS q) := fun k hk => by rw [hk]; exact opsB_at (by omega)
  have hco : ∀ k : Nat, cc = (k : Int) → codesB[k]? = some (codeS cc) := fun k hk => by rw [hk]; exact codesB_at (by omega)
  obtain ⟨P0, hS0⟩ : ∃ S, numS p.toNat = S := ⟨_, rfl⟩
  obtain ⟨P1, hS1⟩ : ∃ S, numS o.toNat = S := ⟨_, rfl⟩
  obtain ⟨P2, hS2⟩ : ∃ S, opS q = S := ⟨_, rfl⟩
  obtain ⟨P3, hS3⟩ : ∃ S, numS b.toNat = S := ⟨_, rfl⟩
  obtain ⟨P5, hS5⟩ : ∃ S, codeS cc = S := ⟨_, rfl⟩
  rw [hS0] at n0 l0
  rw [hS1] at n1 l1
  rw [hS2] at hop l2
  rw [hS3] at n3 l3
  rw [hS5] at hco l5
  rw [hS0, hS1, hS2, hS3, hS5] at hfin
  clear hS0 hS1 hS2 hS3 hS5
  obtain ⟨kq, rfl⟩ := Int.eq_ofNat_of_zero_le (show 0 ≤ q by omega)
  obtain ⟨kc, rfl⟩ := Int.eq_ofNat_of_zero_le (show 0 ≤ cc by omega)
  have k9 : (kq : Int) < 5 := by omega
  have k0 : (0 : Int) ≤ (kq : Int) := by omega
  have k19 : (kc : Int) < 4 := by omega
  have k10 : (0 : Int) ≤ (kc : Int) := by omega
  have HO := Lib.hid (hop kq rfl)
  have HC := Lib.hid (hco kc rfl)
  have HF := Lib.hid hfin
  have N0 := Lib.hid n0
  have N1 := Lib.hid n1
  have N3 := Lib.hid n3
  have z0 : ¬ 9223372036854775807 < P0.size + 1 := by omega
  have z1 : ¬ 9223372036854775807 < P0.size + 1 + P1.size := by omega
  have z2 : ¬ 9223372036854775807 < P0.size + 1 + P1.size + 1 := by omega
  have z3 : ¬ 9223372036854775807 < P0.size + 1 + P1.size + 1 + P2.size := by omega
  have z4 : ¬ 9223372036854775807 < P0.size + 1 + P1.size + 1 + P2.size + 1 := by omega
  have z5 : ¬ 9223372036854775807 < P0.size + 1 + P1.size + 1 + P2.size + 1 + P3.size := by omega
  have z6 : ¬ 9223372036854775807 < P0.size + 1 + P1.size + 1 + P2.size + 1 + P3.size + 1 := by omega
  have z7 : ¬ 9223372036854775807 < P0.size + 1 + P1.size + 1 + P2.size + 1 + P3.size + 1 + 1 := by omega
  have z8 : ¬ 9223372036854775807 < P0.size + 1 + P1.size + 1 + P2.size + 1 + P3.size + 1 + 1 + 1 := by omega
  have z9 : ¬ 9223372036854775807 < P0.size + 1 + P1.size + 1 + P2.size + 1 + P3.size + 1 + 1 + 1 + P5.size := by omega
  have hbnd := Lib.hid (And.intro bp (And.intro bo (And.intro bb (And.intro bq (And.intro bc (And.intro be br))))))
  have he' := Lib.hid he
  have hbx := Lib.hid (ClBox.new w ⟨p, o, (kq : Int), r, (kc : Int), b, e⟩ A c)
  have hB0 := (Below.refl w.heap.size w).alloc (Nat.le_refl _) (.cells #[.int .i64 p, .int .i64 o, .int .i64 (kq : Int), .slice A r.length c, .int .i64 (kc : Int), .int .i64 b, .int .i64 e] 45)
  clear hop hco hfin n0 n1 n3 bp bo bb bq bc be br he
  go_enter Tryd.func31, Tryd.ntmps31
  go_wp2_with fail
  obtain ⟨w0, hw0⟩ : ∃ w0, w.alloc (.cells #[.int .i64 p, .int .i64 o, .int .i64 (kq : Int), .slice A r.length c, .int .i64 (kc : Int), .int .i64 b, .int .i64 e] 45) = w0 := ⟨_, rfl⟩
  have hbx1 := hbx.out
  have hB1 := hB0
  rw [hw0] at hbx1 hB1 ⊢
  obtain ⟨n, hn⟩ : ∃ n, w.heap.size = n := ⟨_, rfl⟩
  rw [hn] at hbx1 ⊢
  have hbs1 := hB1.size
  obtain ⟨d0, d1, d2, d3, d4, d5, d6⟩ := hbx1.cells
  simp only at d0 d1 d2 d3 d4 d5 d6
  clear hbx hB0
  have hSd : RLt w0 n ⟨p, o, (kq : Int), r, (kc : Int), b, e⟩ A c w0.drew := RLt.drew ⟨Below.refl _ _, d0, d1, d2, d3, d4, d5⟩
  clear hbx1 d6
  refine wp_region_held_drew (S := fun w' => Below w0.heap.size w0 w' ∧ w'.cell? ⟨n, 0, none⟩ = some (.int .i64 p) ∧ w'.cell? ⟨n, 1, none⟩ = some (.int .i64 o) ∧ w'.cell? ⟨n, 2, none⟩ = some (.int .i64 (kq : Int)) ∧ w'.cell? ⟨n, 3, none⟩ = some (.slice A r.length c) ∧ w'.cell? ⟨n, 4, none⟩ = some (.int .i64 (kc : Int)) ∧ w'.cell? ⟨n, 5, none⟩ = some (.int .i64 b)) (by kernel_rfl) hSd (fun hHeld => ?_)
  refine wpAnyH_take (i := 0) (oi := ?_) (v := ?_) ?_ (by kernel_rfl) (by kernel_rfl) (by kernel_rfl) ?_ (Or.inl ⟨?_, ?_⟩) (by assumption) ?_
  rotate_left 2
  · (simp only [List.getElem?_toArray, List.getElem?_cons_zero]; rfl)
  · first | exact fun _ _ _ h => h | exact fun _ _ _ h => by cases h.1
  · rfl
  · ((intro wq hSq; (try dsimp only at hSq); go_simp); (try with_reducible rfl))
  try simp only [Act.put, List.setIfInBounds_toArray, List.set_cons_zero, List.set_cons_succ]
  refine wpAnyH_take (i := 1) (oi := ?_) (v := ?_) ?_ (by kernel_rfl) (by kernel_rfl) (by kernel_rfl) ?_ (Or.inl ⟨?_, ?_⟩) (by assumption) ?_
  rotate_left 2
  · (simp only [List.getElem?_toArray, List.getElem?_cons_succ, List.getElem?_cons_zero]; rfl)
  · first | exact fun _ _ _ h => h | exact fun _ _ _ h => by cases h.1
  · rfl
  · ((intro wq hSq; (try dsimp only at hSq); go_simp); (try with_reducible rfl))
  try simp only [Act.put, List.setIfInBounds_toArray, List.set_cons_zero, List.set_cons_succ]
  refine wpAnyH_take (i := 4) (oi := ?_) (v := ?_) ?_ (by kernel_rfl) (by kernel_rfl) (by kernel_rfl) ?_ (Or.inl ⟨?_, ?_⟩) (by assumption) ?_
  rotate_left 2
  · (simp only [List.getElem?_toArray, List.getElem?_cons_succ, List.getElem?_cons_zero]; rfl)
  · first | exact fun _ _ _ h => h | exact fun _ _ _ h => by cases h.1
  · rfl
  · ((intro wq hSq; (try dsimp only at hSq); go_simp); (try with_reducible rfl))
  try simp only [Act.put, List.setIfInBounds_toArray, List.set_cons_zero, List.set_cons_succ]
  refine wpAnyH_take (i := 5) (oi := ?_) (v := ?_) ?_ (by kernel_rfl) (by kernel_rfl) (by kernel_rfl) ?_ (Or.inl ⟨?_, ?_⟩) (by assumption) ?_
  rotate_left 2
  · (simp only [List.getElem?_toArray, List.getElem?_cons_succ, List.getElem?_cons_zero]; rfl)
  · first | exact fun _ _ _ h => h | exact fun _ _ _ h => by cases h.1
  · rfl
  · ((intro wq hSq; (try dsimp only at hSq); go_simp); (try with_reducible rfl))
  try simp only [Act.put, List.setIfInBounds_toArray, List.set_cons_zero, List.set_cons_succ]
  refine wpAnyH_take (i := 10) (oi := ?_) (v := ?_) ?_ (by kernel_rfl) (by kernel_rfl) (by kernel_rfl) ?_ (Or.inl ⟨?_, ?_⟩) (by assumption) ?_
  rotate_left 2
  · (simp only [List.getElem?_toArray, List.getElem?_cons_succ, List.getElem?_cons_zero]; rfl)
  · first | exact fun _ _ _ h => h | exact fun _ _ _ h => by cases h.1
  · rfl
  · ((intro wq hSq; (try dsimp only at hSq); go_simp); (try with_reducible rfl))
  try simp only [Act.put, List.setIfInBounds_toArray, List.set_cons_zero, List.set_cons_succ]
  refine wpAnyH_take (i := 11) (oi := ?_) (v := ?_) ?_ (by kernel_rfl) (by kernel_rfl) (by kernel_rfl) ?_ (Or.inl ⟨?_, ?_⟩) (by assumption) ?_
  rotate_left 2
  · (simp only [List.getElem?_toArray, List.getElem?_cons_succ, List.getElem?_cons_zero]; rfl)
  · first | exact fun _ _ _ h => h | exact fun _ _ _ h => by cases h.1
  · rfl
  · ((intro wq hSq; (try dsimp only at hSq); go_simp); (try with_reducible rfl))
  try simp only [Act.put, List.setIfInBounds_toArray, List.set_cons_zero, List.set_cons_succ]
  refine wpAnyH_take (i := 16) (oi := ?_) (v := ?_) ?_ (by kernel_rfl) (by kernel_rfl) (by kernel_rfl) ?_ (Or.inl ⟨?_, ?_⟩) (by assumption) ?_
  rotate_left 2
  · (simp only [List.getElem?_toArray, List.getElem?_cons_succ, List.getElem?_cons_zero]; rfl)
  · first | exact fun _ _ _ h => h | exact fun _ _ _ h => by cases h.1
  · rfl
  · ((intro wq hSq; (try dsimp only at hSq); go_simp); (try with_reducible rfl))
  try simp only [Act.put, List.setIfInBounds_toArray, List.set_cons_zero, List.set_cons_succ]
  refine wpAnyH_take (i := 17) (oi := ?_) (v := ?_) ?_ (by kernel_rfl) (by kernel_rfl) (by kernel_rfl) ?_ (Or.inl ⟨?_, ?_⟩) (by assumption) ?_
  rotate_left 2
  · (simp only [List.getElem?_toArray, List.getElem?_cons_succ, List.getElem?_cons_zero]; rfl)
  · first | exact fun _ _ _ h => h | exact fun _ _ _ h => by cases h.1
  · rfl
  · ((intro wq hSq; (try dsimp only at hSq); go_simp); (try with_reducible rfl))
  try simp only [Act.put, List.setIfInBounds_toArray, List.set_cons_zero, List.set_cons_succ]
  refine wpAnyH_take (i := 21) (oi := ?_) (v := ?_) ?_ (by kernel_rfl) (by kernel_rfl) (by kernel_rfl) ?_ (Or.inl ⟨?_, ?_⟩) (by assumption) ?_
  rotate_left 2
  · (simp only [List.getElem?_toArray, List.getElem?_cons_succ, List.getElem?_cons_zero]; rfl)
  · first | exact fun _ _ _ h => h | exact fun _ _ _ h => by cases h.1
  · rfl
  · ((intro wq hSq; (try dsimp only at hSq); go_simp); (try with_reducible rfl))
  try simp only [Act.put, List.setIfInBounds_toArray, List.set_cons_zero, List.set_cons_succ]
  refine wpAnyH_take (i := 25) (oi := ?_) (v := ?_) ?_ (by kernel_rfl) (by kernel_rfl) (by kernel_rfl) ?_ (Or.inl ⟨?_, ?_⟩) (by assumption) ?_
  rotate_left 2
  · (simp only [List.getElem?_toArray, List.getElem?_cons_succ, List.getElem?_cons_zero]; rfl)
  · first | exact fun _ _ _ h => h | exact fun _ _ _ h => by cases h.1
  · rfl
  · ((intro wq hSq; (try dsimp only at hSq); go_simp); (try with_reducible rfl))
  try simp only [Act.put, List.setIfInBounds_toArray, List.set_cons_zero, List.set_cons_succ]
  refine wpAnyH_take (i := 26) (oi := ?_) (v := ?_) ?_ (by kernel_rfl) (by kernel_rfl) (by kernel_rfl) ?_ (Or.inl ⟨?_, ?_⟩) (by assumption) ?_
  rotate_left 2
  · (simp only [List.getElem?_toArray, List.getElem?_cons_succ, List.getElem?_cons_zero]; rfl)
  · first | exact fun _ _ _ h => h | exact fun _ _ _ h => by cases h.1
  · rfl
  · ((intro wq hSq; (try dsimp only at hSq); go_simp); (try with_reducible rfl))
  try simp only [Act.put, List.setIfInBounds_toArray, List.set_cons_zero, List.set_cons_succ]
  refine wpAnyH_ready (rs := [2]) (by kernel_rfl) (by simp) ?_
  refine AllReadyH.cons (o := ?_) ?_ (fun K hK => ?_) AllReadyH.nil
  rotate_left
  · (simp only [List.getElem?_toArray, List.getElem?_cons_succ, List.getElem?_cons_zero]; rfl)
  go_simp
  go_at_call 69
  refine (N0.out _).mono ?_
  rintro ex wx ⟨rfl, hbx⟩
  have hSx := RLt.below (w2 := w0) (n := n) (x := ⟨p, o, (kq : Int), r, (kc : Int), b, e⟩) (A := A) (c := c) hHeld hbx
  refine hK.out _ _ hSx (fun hHeld => ?_)
  clear hK K
  try simp only [Act.put, List.setIfInBounds_toArray, List.set_cons_zero, List.set_cons_succ]
  refine wpAnyH_take (i := 3) (oi := ?_) (v := ?_) ?_ (by kernel_rfl) (by kernel_rfl) (by kernel_rfl) ?_ (Or.inl ⟨?_, ?_⟩) (by assumption) ?_
  rotate_left 2
  · (simp only [List.getElem?_toArray, List.getElem?_cons_succ, List.getElem?_cons_zero]; rfl)
  · first | exact fun _ _ _ h => h | exact fun _ _ _ h => by cases h.1
  · rfl
  · ((intro wq hSq; (try dsimp only at hSq); go_simp); (try with_reducible rfl))
  try simp only [Act.put, List.setIfInBounds_toArray, List.set_cons_zero, List.set_cons_succ]
  refine wpAnyH_ready (rs := [6]) (by kernel_rfl) (by simp) ?_
  refine AllReadyH.cons (o := ?_) ?_ (fun K hK => ?_) AllReadyH.nil
  rotate_left
  · (simp only [List.getElem?_toArray, List.getElem?_cons_succ, List.getElem?_cons_zero]; rfl)
  go_simp
  go_at_call 69
  refine (N1.out _).mono ?_
  rintro ex wx ⟨rfl, hbx⟩
  have hSx := RLt.below (w2 := w0) (n := n) (x := ⟨p, o, (kq : Int), r, (kc : Int), b, e⟩) (A := A) (c := c) hHeld hbx
  refine hK.out _ _ hSx (fun hHeld => ?_)
  clear hK K
  try simp only [Act.put, List.setIfInBounds_toArray, List.set_cons_zero, List.set_cons_succ]
  refine wpAnyH_take (i := 7) (oi := ?_) (v := ?_) ?_ (by kernel_rfl) (by kernel_rfl) (by kernel_rfl) ?_ (Or.inl ⟨?_, ?_⟩) (by assumption) ?_
  rotate_left 2
  · (simp only [List.getElem?_toArray, List.getElem?_cons_succ, List.getElem?_cons_zero]; rfl)
  · first | exact fun _ _ _ h => h | exact fun _ _ _ h => by cases h.1
  · rfl
  · ((intro wq hSq; (try dsimp only at hSq); go_simp); (try with_reducible rfl))
  try simp only [Act.put, List.setIfInBounds_toArray, List.set_cons_zero, List.set_cons_succ]
  refine wpAnyH_take (i := 8) (oi := ?_) (v := ?_) ?_ (by kernel_rfl) (by kernel_rfl) (by kernel_rfl) ?_ (Or.inl ⟨?_, ?_⟩) (by assumption) ?_
  rotate_left 2
  · (simp only [List.getElem?_toArray, List.getElem?_cons_succ, List.getElem?_cons_zero]; rfl)
  · first | exact fun _ _ _ h => h | exact fun _ _ _ h => by cases h.1
  · rfl
  · ((intro wq hSq; (try dsimp only at hSq); go_simp); (try with_reducible rfl))
  try simp only [Act.put, List.setIfInBounds_toArray, List.set_cons_zero, List.set_cons_succ]
  refine wpAnyH_ready (rs := [9]) (by kernel_rfl) (by simp) ?_
  refine AllReadyH.cons (o := ?_) ?_ (fun K hK => ?_) AllReadyH.nil
  rotate_left
  · (simp only [List.getElem?_toArray, List.getElem?_cons_succ, List.getElem?_cons_zero]; rfl)
  go_simp
  go_at_call 70
  refine (rops_any _).mono ?_
  rintro ex wx ⟨bw, rfl, hcw, hlw, hgw, hbx⟩
  have hSx := RLt.below (w2 := w0) (n := n) (x := ⟨p, o, (kq : Int), r, (kc : Int), b, e⟩) (A := A) (c := c) hHeld hbx
  have hcw0 := hcw _ _ HO.out
  refine hK.out _ _ hSx (fun hHeld => ?_)
  clear hK K
  try simp only [Act.put, List.setIfInBounds_toArray, List.set_cons_zero, List.set_cons_succ]
  have hSy : (RLt w0 n ⟨p, o, (kq : Int), r, (kc : Int), b, e⟩ A c _) ∧ _ := ⟨hHeld, hcw0⟩
  refine wpAnyH_strong (S' := fun w' => (Below w0.heap.size w0 w' ∧ w'.cell? ⟨n, 0, none⟩ = some (.int .i64 p) ∧ w'.cell? ⟨n, 1, none⟩ = some (.int .i64 o) ∧ w'.cell? ⟨n, 2, none⟩ = some (.int .i64 (kq : Int)) ∧ w'.cell? ⟨n, 3, none⟩ = some (.slice A r.length c) ∧ w'.cell? ⟨n, 4, none⟩ = some (.int .i64 (kc : Int)) ∧ w'.cell? ⟨n, 5, none⟩ = some (.int .i64 b)) ∧ w'.cell? ⟨bw, kq, none⟩ = some (.string P2)) (fun w h => h.1) _ _ _ _ ?_
  refine wpAnyH_take (i := 12) (oi := ?_) (v := ?_) ?_ (by kernel_rfl) (by kernel_rfl) (by kernel_rfl) ?_ (Or.inl ⟨?_, ?_⟩) (by assumption) ?_
  rotate_left 2
  · (simp only [List.getElem?_toArray, List.getElem?_cons_succ, List.getElem?_cons_zero]; rfl)
  · first | exact fun _ _ _ h => h | exact fun _ _ _ h => by cases h.1
  · rfl
  · ((intro wq hSq; (try dsimp only at hSq); go_simp); (try with_reducible rfl))
  try simp only [Act.put, List.setIfInBounds_toArray, List.set_cons_zero, List.set_cons_succ]
  refine wpAnyH_take (i := 13) (oi := ?_) (v := ?_) ?_ (by kernel_rfl) (by kernel_rfl) (by kernel_rfl) ?_ (Or.inl ⟨?_, ?_⟩) (by assumption) ?_
  rotate_left 2
  · (simp only [List.getElem?_toArray, List.getElem?_cons_succ, List.getElem?_cons_zero]; rfl)
  · first | exact fun _ _ _ h => h | exact fun _ _ _ h => by cases h.1
  · rfl
  · ((intro wq hSq; (try dsimp only at hSq); go_simp); (try with_reducible rfl))
  try simp only [Act.put, List.setIfInBounds_toArray, List.set_cons_zero, List.set_cons_succ]
  refine wpAnyH_take (i := 14) (oi := ?_) (v := ?_) ?_ (by kernel_rfl) (by kernel_rfl) (by kernel_rfl) ?_ (Or.inl ⟨?_, ?_⟩) (by assumption) ?_
  rotate_left 2
  · (simp only [List.getElem?_toArray, List.getElem?_cons_succ, List.getElem?_cons_zero]; rfl)
  · first | exact fun _ _ _ h => h | exact fun _ _ _ h => by cases h.1
  · rfl
  · ((intro wq hSq; (try dsimp only at hSq); go_simp); (try with_reducible rfl))
  try simp only [Act.put, List.setIfInBounds_toArray, List.set_cons_zero, List.set_cons_succ]
  refine wpAnyH_take (i := 15) (oi := ?_) (v := ?_) ?_ (by kernel_rfl) (by kernel_rfl) (by kernel_rfl) ?_ (Or.inl ⟨?_, ?_⟩) (by assumption) ?_
  rotate_left 2
  · (simp only [List.getElem?_toArray, List.getElem?_cons_succ, List.getElem?_cons_zero]; rfl)
  · first | exact fun _ _ _ h => h | exact fun _ _ _ h => by cases h.1
  · rfl
  · ((intro wq hSq; (try dsimp only at hSq); go_simp); (try with_reducible rfl))
  try simp only [Act.put, List.setIfInBounds_toArray, List.set_cons_zero, List.set_cons_succ]
  refine wpAnyH_ready (rs := [18]) (by kernel_rfl) (by simp) ?_
  refine AllReadyH.cons (o := ?_) ?_ (fun K hK => ?_) AllReadyH.nil
  rotate_left
  · (simp only [List.getElem?_toArray, List.getElem?_cons_succ, List.getElem?_cons_zero]; rfl)
  go_simp
  go_at_call 69
  refine (N3.out _).mono ?_
  rintro ex wx ⟨rfl, hbx⟩
  have hSx := RLt2.below (w2 := w0) (n := n) (x := ⟨p, o, (kq : Int), r, (kc : Int), b, e⟩) (A := A) (c := c) (by assumption) hbx
  refine hK.out _ _ hSx (fun hHeld => ?_)
  clear hK K
  try simp only [Act.put, List.setIfInBounds_toArray, List.set_cons_zero, List.set_cons_succ]
  refine wpAnyH_take (i := 19) (oi := ?_) (v := ?_) ?_ (by kernel_rfl) (by kernel_rfl) (by kernel_rfl) ?_ (Or.inl ⟨?_, ?_⟩) (by assumption) ?_
  rotate_left 2
  · (simp only [List.getElem?_toArray, List.getElem?_cons_succ, List.getElem?_cons_zero]; rfl)
  · first | exact fun _ _ _ h => h | exact fun _ _ _ h => by cases h.1
  · rfl
  · ((intro wq hSq; (try dsimp only at hSq); go_simp); (try with_reducible rfl))
  try simp only [Act.put, List.setIfInBounds_toArray, List.set_cons_zero, List.set_cons_succ]
  refine wpAnyH_take (i := 20) (oi := ?_) (v := ?_) ?_ (by kernel_rfl) (by kernel_rfl) (by kernel_rfl) ?_ (Or.inl ⟨?_, ?_⟩) (by assumption) ?_
  rotate_left 2
  · (simp only [List.getElem?_toArray, List.getElem?_cons_succ, List.getElem?_cons_zero]; rfl)
  · first | exact fun _ _ _ h => h | exact fun _ _ _ h => by cases h.1
  · rfl
  · ((intro wq hSq; (try dsimp only at hSq); go_simp); (try with_reducible rfl))
  try simp only [Act.put, List.setIfInBounds_toArray, List.set_cons_zero, List.set_cons_succ]
  refine wpAnyH_take (i := 22) (oi := ?_) (v := ?_) ?_ (by kernel_rfl) (by kernel_rfl) (by kernel_rfl) ?_ (Or.inl ⟨?_, ?_⟩) (by assumption) ?_
  rotate_left 2
  · (simp only [List.getElem?_toArray, List.getElem?_cons_succ, List.getElem?_cons_zero]; rfl)
  · first | exact fun _ _ _ h => h | exact fun _ _ _ h => by cases h.1
  · rfl
  · ((intro wq hSq; (try dsimp only at hSq); go_simp); (try with_reducible rfl))
  try simp only [Act.put, List.setIfInBounds_toArray, List.set_cons_zero, List.set_cons_succ]
  refine wpAnyH_take (i := 23) (oi := ?_) (v := ?_) ?_ (by kernel_rfl) (by kernel_rfl) (by kernel_rfl) ?_ (Or.inl ⟨?_, ?_⟩) (by assumption) ?_
  rotate_left 2
  · (simp only [List.getElem?_toArray, List.getElem?_cons_succ, List.getElem?_cons_zero]; rfl)
  · first | exact fun _ _ _ h => h | exact fun _ _ _ h => by cases h.1
  · rfl
  · ((intro wq hSq; (try dsimp only at hSq); go_simp); (try with_reducible rfl))
  try simp only [Act.put, List.setIfInBounds_toArray, List.set_cons_zero, List.set_cons_succ]
  refine wpAnyH_ready (rs := [24]) (by kernel_rfl) (by simp) ?_
  refine AllReadyH.cons (o := ?_) ?_ (fun K hK => ?_) AllReadyH.nil
  rotate_left
  · (simp only [List.getElem?_toArray, List.getElem?_cons_succ, List.getElem?_cons_zero]; rfl)
  go_simp
  go_at_call 71
  refine (rcodes_any _).mono ?_
  rintro ex wx ⟨bv, rfl, hcv, hlv, hgv, hbx⟩
  have hSx := RLt2.below (w2 := w0) (n := n) (x := ⟨p, o, (kq : Int), r, (kc : Int), b, e⟩) (A := A) (c := c) (by assumption) hbx
  have hcv0 := hcv _ _ HC.out
  refine hK.out _ _ hSx (fun hHeld => ?_)
  clear hK K
  try simp only [Act.put, List.setIfInBounds_toArray, List.set_cons_zero, List.set_cons_succ]
  have hSz : ((RLt w0 n ⟨p, o, (kq : Int), r, (kc : Int), b, e⟩ A c _) ∧ _) ∧ _ := ⟨hHeld, hcv0⟩
  refine wpAnyH_strong (S' := fun w' => ((Below w0.heap.size w0 w' ∧ w'.cell? ⟨n, 0, none⟩ = some (.int .i64 p) ∧ w'.cell? ⟨n, 1, none⟩ = some (.int .i64 o) ∧ w'.cell? ⟨n, 2, none⟩ = some (.int .i64 (kq : Int)) ∧ w'.cell? ⟨n, 3, none⟩ = some (.slice A r.length c) ∧ w'.cell? ⟨n, 4, none⟩ = some (.int .i64 (kc : Int)) ∧ w'.cell? ⟨n, 5, none⟩ = some (.int .i64 b)) ∧ w'.cell? ⟨bw, kq, none⟩ = some (.string P2)) ∧ w'.cell? ⟨bv, kc, none⟩ = some (.string P5)) (fun w h => h.1) _ _ _ _ ?_
  refine wpAnyH_take (i := 27) (oi := ?_) (v := ?_) ?_ (by kernel_rfl) (by kernel_rfl) (by kernel_rfl) ?_ (Or.inl ⟨?_, ?_⟩) (by assumption) ?_
  rotate_left 2
  · (simp only [List.getElem?_toArray, List.getElem?_cons_succ, List.getElem?_cons_zero]; rfl)
  · first | exact fun _ _ _ h => h | exact fun _ _ _ h => by cases h.1
  · rfl
  · ((intro wq hSq; (try dsimp only at hSq); go_simp); (try with_reducible rfl))
  try simp only [Act.put, List.setIfInBounds_toArray, List.set_cons_zero, List.set_cons_succ]
  refine wpAnyH_take (i := 28) (oi := ?_) (v := ?_) ?_ (by kernel_rfl) (by kernel_rfl) (by kernel_rfl) ?_ (Or.inl ⟨?_, ?_⟩) (by assumption) ?_
  rotate_left 2
  · (simp only [List.getElem?_toArray, List.getElem?_cons_succ, List.getElem?_cons_zero]; rfl)
  · first | exact fun _ _ _ h => h | exact fun _ _ _ h => by cases h.1
  · rfl
  · ((intro wq hSq; (try dsimp only at hSq); go_simp); (try with_reducible rfl))
  try simp only [Act.put, List.setIfInBounds_toArray, List.set_cons_zero, List.set_cons_succ]
  refine wpAnyH_take (i := 29) (oi := ?_) (v := ?_) ?_ (by kernel_rfl) (by kernel_rfl) (by kernel_rfl) ?_ (Or.inl ⟨?_, ?_⟩) (by assumption) ?_
  rotate_left 2
  · (simp only [List.getElem?_toArray, List.getElem?_cons_succ, List.getElem?_cons_zero]; rfl)
  · first | exact fun _ _ _ h => h | exact fun _ _ _ h => by cases h.1
  · rfl
  · ((intro wq hSq; (try dsimp only at hSq); go_simp); (try with_reducible rfl))
  try simp only [Act.put, List.setIfInBounds_toArray, List.set_cons_zero, List.set_cons_succ]
  refine wpAnyH_take (i := 30) (oi := ?_) (v := ?_) ?_ (by kernel_rfl) (by kernel_rfl) (by kernel_rfl) ?_ (Or.inl ⟨?_, ?_⟩) (by assumption) ?_
  rotate_left 2
  · (simp only [List.getElem?_toArray, List.getElem?_cons_succ, List.getElem?_cons_zero]; rfl)
  · first | exact fun _ _ _ h => h | exact fun _ _ _ h => by cases h.1
  · rfl
  · ((intro wq hSq; (try dsimp only at hSq); go_simp); (try with_reducible rfl))
  try simp only [Act.put, List.setIfInBounds_toArray, List.set_cons_zero, List.set_cons_succ]
  refine wpAnyH_done (by kernel_rfl) ?_ _
  all_goals
    have hBx := hB1.trans (hSx.1.1.mono hB1.size)
    obtain ⟨_, _, _, _, f3, _, _⟩ := hSx.1
    simp only at f3
    go_wp2_with fail
    go_ret
    exact ⟨by rw [← HF.out]; rfl, by first | exact hBx | (rw [← hn]; exact hBx)⟩

theorem rhline_any (x : Cl) (A : Option Addr) (c : Nat) (w : World) (h : clB x = true) (hA : Ws w w.heap.size A x.r) :
    Calls Tryd.prog 31 #[clV x A c] w fun r' w' => r' = .returned (.string (lineHS x)) ∧ Below w.heap.size w w' := by
  obtain ⟨p, o, q, r, cc, b, e⟩ := x
  have be := (clB_iff.1 h).e
  simp only at be hA
  by_cases hr : r = []
  · by_cases he : 0 ≤ e
    · exact rline_b p o q r cc b e A c w h he hr hA
    · exact rline_d p o q r cc b e A c w h (by omega) hr hA
  · by_cases he : 0 ≤ e
    · exact rline_a p o q r cc b e A c w h he hr hA
    · exact rline_c p o q r cc b e A c w h (by omega) hr hA

end Go.Proofs.YtkcdmonmgnmojaaDoor
