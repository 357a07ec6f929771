/- A queue's finder: the spot behind the next put. -/
import Derived.Test.YtgmmblknaeepbaaZlS
namespace Go.Proofs.Ytgmmblknaeepbaa
open Go.RowKit
attribute [local go_sem] Oper.semAt_some

theorem f4_below {w w' : World} {b : Nat} {v0 v1 v2 v3 : Value} (h : w.cell? ⟨b, 0, none⟩ = some (v0) ∧ w.cell? ⟨b, 1, none⟩ = some (v1) ∧ w.cell? ⟨b, 2, none⟩ = some (v2) ∧ w.cell? ⟨b, 3, none⟩ = some (v3)) (hb : Below w.heap.size w w') : w'.cell? ⟨b, 0, none⟩ = some (v0) ∧ w'.cell? ⟨b, 1, none⟩ = some (v1) ∧ w'.cell? ⟨b, 2, none⟩ = some (v2) ∧ w'.cell? ⟨b, 3, none⟩ = some (v3) :=
  ⟨cell_below h.1 hb, cell_below h.2.1 hb, cell_below h.2.2.1 hb, cell_below h.2.2.2 hb⟩
theorem cell_low {w w' : World} {b o N : Nat} {v : Value} (h : w.cell? ⟨b, o, none⟩ = some v) (hb : Below N w w') (hl : b < N) : w'.cell? ⟨b, o, none⟩ = some v := (hb.cell (p := ⟨b, o, none⟩) hl).trans h
theorem f4_low {w w' : World} {b N : Nat} {v0 v1 v2 v3 : Value} (h : w.cell? ⟨b, 0, none⟩ = some (v0) ∧ w.cell? ⟨b, 1, none⟩ = some (v1) ∧ w.cell? ⟨b, 2, none⟩ = some (v2) ∧ w.cell? ⟨b, 3, none⟩ = some (v3)) (hb : Below N w w') (hl : b < N) : w'.cell? ⟨b, 0, none⟩ = some (v0) ∧ w'.cell? ⟨b, 1, none⟩ = some (v1) ∧ w'.cell? ⟨b, 2, none⟩ = some (v2) ∧ w'.cell? ⟨b, 3, none⟩ = some (v3) :=
  ⟨cell_low h.1 hb hl, cell_low h.2.1 hb hl, cell_low h.2.2.1 hb hl, cell_low h.2.2.2 hb hl⟩
theorem cl7_low {w w' : World} {b off N : Nat} {v0 v1 v2 v3 v4 v5 v6 : Value} (h : w.cell? ⟨b, off, none⟩ = some (v0) ∧ w.cell? ⟨b, off + 1, none⟩ = some (v1) ∧ w.cell? ⟨b, off + 2, none⟩ = some (v2) ∧ w.cell? ⟨b, off + 3, none⟩ = some (v3) ∧ w.cell? ⟨b, off + 4, none⟩ = some (v4) ∧ w.cell? ⟨b, off + 5, none⟩ = some (v5) ∧ w.cell? ⟨b, off + 6, none⟩ = some (v6)) (hb : Below N w w') (hl : b < N) : w'.cell? ⟨b, off, none⟩ = some (v0) ∧ w'.cell? ⟨b, off + 1, none⟩ = some (v1) ∧ w'.cell? ⟨b, off + 2, none⟩ = some (v2) ∧ w'.cell? ⟨b, off + 3, none⟩ = some (v3) ∧ w'.cell? ⟨b, off + 4, none⟩ = some (v4) ∧ w'.cell? ⟨b, off + 5, none⟩ = some (v5) ∧ w'.cell? ⟨b, off + 6, none⟩ = some (v6) :=
  ⟨cell_low h.1 hb hl, cell_low h.2.1 hb hl, cell_low h.2.2.1 hb hl, cell_low h.2.2.2.1 hb hl, cell_low h.2.2.2.2.1 hb hl, cell_low h.2.2.2.2.2.1 hb hl, cell_low h.2.2.2.2.2.2 hb hl⟩
theorem SpC {W : World} {B : Nat} {v0 v1 v2 v3 : Value} {ty : TypeId} (h : W.heap[B]? = some (.cells #[v0, v1, v2, v3] ty (0, 0))) : W.cell? ⟨B, 0, none⟩ = some (v0) ∧ W.cell? ⟨B, 1, none⟩ = some (v1) ∧ W.cell? ⟨B, 2, none⟩ = some (v2) ∧ W.cell? ⟨B, 3, none⟩ = some (v3) := ⟨row_cell h 0, row_cell h 1, row_cell h 2, row_cell h 3⟩
theorem cell_oth {w : World} {b o B j : Nat} {x v : Value} (h : w.cell? ⟨b, o, none⟩ = some v) (hn : b ≠ B) : (w.setCell ⟨B, j, none⟩ x).cell? ⟨b, o, none⟩ = some v := by
  unfold World.cell? at *
  rw [lheap_set w B j x b hn]
  exact h
theorem f4_other {w : World} {b B j : Nat} {x v0 v1 v2 v3 : Value} (h : w.cell? ⟨b, 0, none⟩ = some (v0) ∧ w.cell? ⟨b, 1, none⟩ = some (v1) ∧ w.cell? ⟨b, 2, none⟩ = some (v2) ∧ w.cell? ⟨b, 3, none⟩ = some (v3)) (hn : b ≠ B) : (w.setCell ⟨B, j, none⟩ x).cell? ⟨b, 0, none⟩ = some (v0) ∧ (w.setCell ⟨B, j, none⟩ x).cell? ⟨b, 1, none⟩ = some (v1) ∧ (w.setCell ⟨B, j, none⟩ x).cell? ⟨b, 2, none⟩ = some (v2) ∧ (w.setCell ⟨B, j, none⟩ x).cell? ⟨b, 3, none⟩ = some (v3) :=
  ⟨cell_oth h.1 hn, cell_oth h.2.1 hn, cell_oth h.2.2.1 hn, cell_oth h.2.2.2 hn⟩
theorem cell_sset {w : World} {b o B : Nat} {x0 x1 x2 x3 v : Value} (h : w.cell? ⟨b, o, none⟩ = some v) (hn : b ≠ B) : (sset4 w B x0 x1 x2 x3).cell? ⟨b, o, none⟩ = some v := cell_oth (cell_oth (cell_oth (cell_oth h hn) hn) hn) hn
theorem f4_sset {w : World} {b B : Nat} {x0 x1 x2 x3 v0 v1 v2 v3 : Value} (h : w.cell? ⟨b, 0, none⟩ = some (v0) ∧ w.cell? ⟨b, 1, none⟩ = some (v1) ∧ w.cell? ⟨b, 2, none⟩ = some (v2) ∧ w.cell? ⟨b, 3, none⟩ = some (v3)) (hn : b ≠ B) : (sset4 w B x0 x1 x2 x3).cell? ⟨b, 0, none⟩ = some (v0) ∧ (sset4 w B x0 x1 x2 x3).cell? ⟨b, 1, none⟩ = some (v1) ∧ (sset4 w B x0 x1 x2 x3).cell? ⟨b, 2, none⟩ = some (v2) ∧ (sset4 w B x0 x1 x2 x3).cell? ⟨b, 3, none⟩ = some (v3) := f4_other (f4_other (f4_other (f4_other h hn) hn) hn) hn

set_option maxRecDepth 100000 in
set_option maxHeartbeats 4000000 in
theorem fput_0 {n : Int} {P T : List Cl} {s : Sp} (hs : Inv n P T s) (hP : P.length ≤ 60) (hT : T.length ≤ 60) {fb bm cP cT LI cI : Nat} {AP AT AI : Option Addr} {vE : Value} (hcP : P.length ≤ cP) (hcT : T.length ≤ cT) (W : World)
    (hF : FBox W fb n AP P.length cP AT T.length cT AI LI cI bm vE) (hlP : ClSl W W.heap.size AP P) (hlT : ClSl W W.heap.size AT T) (h0 : s.a = P.length) :
    Calls Try.prog 34 #[.pointer (some ⟨fb, 0, none⟩), spV s] W (PutR (stepP n P T s) W) := by
  have huse := And.intro hP (And.intro hT (And.intro hcP (And.intro hcT (And.intro hlP hlT))))
  clear huse
  obtain ⟨LP, hLP⟩ : ∃ x, P.length = x := ⟨_, rfl⟩
  obtain ⟨LT, hLT⟩ : ∃ x, T.length = x := ⟨_, rfl⟩
  have s1 := hs.a
  have s2 := hs.b
  have s3 := hs.oi
  have s4 : s.i ≤ 60 := by rw [hs.i]; exact Nat.le_trans List.countP_le_length (by rw [List.length_take]; omega)
  rw [hLP] at hF s1 hP hcP
  rw [hLT] at hF s2 hT hcT
  have hst := (show stepP n P T s = none by unfold stepP; rw [List.getElem?_eq_none (by omega)])
  rw [hst]
  have h0i : ((s.a : Int) == (LP : Int)) = true := by rw [hLP] at h0; simp; omega
  clear hst h0 hlP hlT hLP hLT hs
  have hb1 := (Below.refl W.heap.size W).alloc (Nat.le_refl _) (.cells #[.int .i64 (s.a : Int), .int .i64 (s.b : Int), .int .i64 (s.i : Int), .int .i64 (s.o : Int)] 48)
  have hb2 := hb1.alloc hb1.size (.cells #[.int .i64 0, .int .i64 0, .int .i64 0, .int .i64 0] 48)
  have hs1 := heap_alloc_new W (.cells #[.int .i64 (s.a : Int), .int .i64 (s.b : Int), .int .i64 (s.i : Int), .int .i64 (s.o : Int)] 48)
  have hs2 := row_kept hs1 ((Below.refl _ _).alloc (Nat.le_refl _) (.cells #[.int .i64 0, .int .i64 0, .int .i64 0, .int .i64 0] 48))
  have hr2 := heap_alloc_new (W.alloc (.cells #[.int .i64 (s.a : Int), .int .i64 (s.b : Int), .int .i64 (s.i : Int), .int .i64 (s.o : Int)] 48)) (.cells #[.int .i64 0, .int .i64 0, .int .i64 0, .int .i64 0] 48)
  have hf2 := row_kept hF hb2
  rw [World.size_alloc] at hr2
  have hlt := row_lt hF
  have hsz2 : W.heap.size + 2 ≤ ((W.alloc (.cells #[.int .i64 (s.a : Int), .int .i64 (s.b : Int), .int .i64 (s.i : Int), .int .i64 (s.o : Int)] 48)).alloc (.cells #[.int .i64 0, .int .i64 0, .int .i64 0, .int .i64 0] 48)).heap.size := by rw [World.size_alloc, World.size_alloc]; omega
  clear hs1 hb1 hF
  unfold spV
  obtain ⟨sb, hsb⟩ : ∃ x, W.heap.size = x := ⟨_, rfl⟩
  rw [hsb] at hs2 hr2 hb2 hlt hsz2
  go_enter Try.func34, Try.ntmps34
  go_wp2_with fail
  obtain ⟨W2, hW2⟩ : ∃ x, (W.alloc (.cells #[.int .i64 (s.a : Int), .int .i64 (s.b : Int), .int .i64 (s.i : Int), .int .i64 (s.o : Int)] 48)).alloc (.cells #[.int .i64 0, .int .i64 0, .int .i64 0, .int .i64 0] 48) = x := ⟨_, rfl⟩
  rw [hW2] at hs2 hr2 hb2 hf2 hsz2 ⊢
  clear hW2
  have hc2 := FBox.cells hf2
  have hp2 := SpBox.cells hs2
  have hSd : (fun w' => Below W2.heap.size W2 w' ∧ (w'.cell? ⟨fb, 0, none⟩ = some (.int .i64 n) ∧ w'.cell? ⟨fb, 1, none⟩ = some (.slice AP LP cP) ∧ w'.cell? ⟨fb, 2, none⟩ = some (.slice AT LT cT) ∧ w'.cell? ⟨fb, 3, none⟩ = some (.slice AI LI cI)) ∧ (w'.cell? ⟨sb, 0, none⟩ = some (.int .i64 (s.a : Int)) ∧ w'.cell? ⟨sb, 1, none⟩ = some (.int .i64 (s.b : Int)) ∧ w'.cell? ⟨sb, 2, none⟩ = some (.int .i64 (s.i : Int)) ∧ w'.cell? ⟨sb, 3, none⟩ = some (.int .i64 (s.o : Int)))) W2.drew := ⟨(Below.refl _ W2).drew, ⟨hc2.1, hc2.2.1, hc2.2.2.1, hc2.2.2.2.1⟩, hp2⟩
  refine wp_region_held_drew (S := (fun w' => Below W2.heap.size W2 w' ∧ (w'.cell? ⟨fb, 0, none⟩ = some (.int .i64 n) ∧ w'.cell? ⟨fb, 1, none⟩ = some (.slice AP LP cP) ∧ w'.cell? ⟨fb, 2, none⟩ = some (.slice AT LT cT) ∧ w'.cell? ⟨fb, 3, none⟩ = some (.slice AI LI cI)) ∧ (w'.cell? ⟨sb, 0, none⟩ = some (.int .i64 (s.a : Int)) ∧ w'.cell? ⟨sb, 1, none⟩ = some (.int .i64 (s.b : Int)) ∧ w'.cell? ⟨sb, 2, none⟩ = some (.int .i64 (s.i : Int)) ∧ w'.cell? ⟨sb, 3, none⟩ = some (.int .i64 (s.o : Int))))) (by kernel_rfl) hSd (fun hHeld => ?_)
  generalize W2.drew = wd at hHeld ⊢
  have hHeld : (fun w' => Below W2.heap.size W2 w' ∧ (w'.cell? ⟨fb, 0, none⟩ = some (.int .i64 n) ∧ w'.cell? ⟨fb, 1, none⟩ = some (.slice AP LP cP) ∧ w'.cell? ⟨fb, 2, none⟩ = some (.slice AT LT cT) ∧ w'.cell? ⟨fb, 3, none⟩ = some (.slice AI LI cI)) ∧ (w'.cell? ⟨sb, 0, none⟩ = some (.int .i64 (s.a : Int)) ∧ w'.cell? ⟨sb, 1, none⟩ = some (.int .i64 (s.b : Int)) ∧ w'.cell? ⟨sb, 2, none⟩ = some (.int .i64 (s.i : Int)) ∧ w'.cell? ⟨sb, 3, none⟩ = some (.int .i64 (s.o : Int)))) wd := hHeld
  refine tkH 0 ?_
  try first | simp only [pS, List.set] | simp only [pN]
  refine tkH 1 ?_
  try first | simp only [pS, List.set] | simp only [pN]
  refine tkH 2 ?_
  try first | simp only [pS, List.set] | simp only [pN]
  refine tkH 3 ?_
  try first | simp only [pS, List.set] | simp only [pN]
  refine tkH 4 ?_
  try first | simp only [pS, List.set] | simp only [pN]
  refine tkH 5 ?_
  try first | simp only [pS, List.set] | simp only [pN]
  refine tkH 6 ?_
  try first | simp only [pS, List.set] | simp only [pN]
  refine tkH 7 ?_
  try first | simp only [pS, List.set] | simp only [pN]
  refine tkH 8 ?_
  try first | simp only [pS, List.set] | simp only [pN]
  refine wpAnyH_take (i := 9) (oi := ?_) (v := undef) ?_ (by kernel_rfl) (by kernel_rfl) (by kernel_rfl) ?_ (Or.inr ⟨?_, rfl⟩) (by assumption) ?_
  rotate_left 1
  · (simp only [List.getElem?_toArray, List.getElem?_cons_succ, List.getElem?_cons_zero]; rfl)
  · first | exact fun _ _ _ h => h | exact fun _ _ _ h => by cases h.1
  · rfl
  try first | simp only [pS, List.set] | simp only [pN]
  refine wpAnyH_take (i := 10) (oi := ?_) (v := undef) ?_ (by kernel_rfl) (by kernel_rfl) (by kernel_rfl) ?_ (Or.inr ⟨?_, rfl⟩) (by assumption) ?_
  rotate_left 1
  · (simp only [List.getElem?_toArray, List.getElem?_cons_succ, List.getElem?_cons_zero]; rfl)
  · first | exact fun _ _ _ h => h | exact fun _ _ _ h => by cases h.1
  · rfl
  try first | simp only [pS, List.set] | simp only [pN]
  refine wpAnyH_take (i := 11) (oi := ?_) (v := undef) ?_ (by kernel_rfl) (by kernel_rfl) (by kernel_rfl) ?_ (Or.inr ⟨?_, rfl⟩) (by assumption) ?_
  rotate_left 1
  · (simp only [List.getElem?_toArray, List.getElem?_cons_succ, List.getElem?_cons_zero]; rfl)
  · first | exact fun _ _ _ h => h | exact fun _ _ _ h => by cases h.1
  · rfl
  try first | simp only [pS, List.set] | simp only [pN]
  refine wpAnyH_take (i := 12) (oi := ?_) (v := undef) ?_ (by kernel_rfl) (by kernel_rfl) (by kernel_rfl) ?_ (Or.inr ⟨?_, rfl⟩) (by assumption) ?_
  rotate_left 1
  · (simp only [List.getElem?_toArray, List.getElem?_cons_succ, List.getElem?_cons_zero]; rfl)
  · first | exact fun _ _ _ h => h | exact fun _ _ _ h => by cases h.1
  · rfl
  try first | simp only [pS, List.set] | simp only [pN]
  refine wpAnyH_take (i := 13) (oi := ?_) (v := undef) ?_ (by kernel_rfl) (by kernel_rfl) (by kernel_rfl) ?_ (Or.inr ⟨?_, rfl⟩) (by assumption) ?_
  rotate_left 1
  · (simp only [List.getElem?_toArray, List.getElem?_cons_succ, List.getElem?_cons_zero]; rfl)
  · first | exact fun _ _ _ h => h | exact fun _ _ _ h => by cases h.1
  · rfl
  try first | simp only [pS, List.set] | simp only [pN]
  refine wpAnyH_take (i := 14) (oi := ?_) (v := undef) ?_ (by kernel_rfl) (by kernel_rfl) (by kernel_rfl) ?_ (Or.inr ⟨?_, rfl⟩) (by assumption) ?_
  rotate_left 1
  · (simp only [List.getElem?_toArray, List.getElem?_cons_succ, List.getElem?_cons_zero]; rfl)
  · first | exact fun _ _ _ h => h | exact fun _ _ _ h => by cases h.1
  · rfl
  try first | simp only [pS, List.set] | simp only [pN]
  refine wpAnyH_take (i := 15) (oi := ?_) (v := undef) ?_ (by kernel_rfl) (by kernel_rfl) (by kernel_rfl) ?_ (Or.inr ⟨?_, rfl⟩) (by assumption) ?_
  rotate_left 1
  · (simp only [List.getElem?_toArray, List.getElem?_cons_succ, List.getElem?_cons_zero]; rfl)
  · first | exact fun _ _ _ h => h | exact fun _ _ _ h => by cases h.1
  · rfl
  try first | simp only [pS, List.set] | simp only [pN]
  refine wpAnyH_take (i := 16) (oi := ?_) (v := undef) ?_ (by kernel_rfl) (by kernel_rfl) (by kernel_rfl) ?_ (Or.inr ⟨?_, rfl⟩) (by assumption) ?_
  rotate_left 1
  · (simp only [List.getElem?_toArray, List.getElem?_cons_succ, List.getElem?_cons_zero]; rfl)
  · first | exact fun _ _ _ h => h | exact fun _ _ _ h => by cases h.1
  · rfl
  try first | simp only [pS, List.set] | simp only [pN]
  refine wpAnyH_take (i := 17) (oi := ?_) (v := undef) ?_ (by kernel_rfl) (by kernel_rfl) (by kernel_rfl) ?_ (Or.inr ⟨?_, rfl⟩) (by assumption) ?_
  rotate_left 1
  · (simp only [List.getElem?_toArray, List.getElem?_cons_succ, List.getElem?_cons_zero]; rfl)
  · first | exact fun _ _ _ h => h | exact fun _ _ _ h => by cases h.1
  · rfl
  try first | simp only [pS, List.set] | simp only [pN]
  refine wpAnyH_take (i := 18) (oi := ?_) (v := undef) ?_ (by kernel_rfl) (by kernel_rfl) (by kernel_rfl) ?_ (Or.inr ⟨?_, rfl⟩) (by assumption) ?_
  rotate_left 1
  · (simp only [List.getElem?_toArray, List.getElem?_cons_succ, List.getElem?_cons_zero]; rfl)
  · first | exact fun _ _ _ h => h | exact fun _ _ _ h => by cases h.1
  · rfl
  try first | simp only [pS, List.set] | simp only [pN]
  refine wpAnyH_take (i := 19) (oi := ?_) (v := undef) ?_ (by kernel_rfl) (by kernel_rfl) (by kernel_rfl) ?_ (Or.inr ⟨?_, rfl⟩) (by assumption) ?_
  rotate_left 1
  · (simp only [List.getElem?_toArray, List.getElem?_cons_succ, List.getElem?_cons_zero]; rfl)
  · first | exact fun _ _ _ h => h | exact fun _ _ _ h => by cases h.1
  · rfl
  try first | simp only [pS, List.set] | simp only [pN]
  refine wpAnyH_take (i := 20) (oi := ?_) (v := undef) ?_ (by kernel_rfl) (by kernel_rfl) (by kernel_rfl) ?_ (Or.inr ⟨?_, rfl⟩) (by assumption) ?_
  rotate_left 1
  · (simp only [List.getElem?_toArray, List.getElem?_cons_succ, List.getElem?_cons_zero]; rfl)
  · first | exact fun _ _ _ h => h | exact fun _ _ _ h => by cases h.1
  · rfl
  try first | simp only [pS, List.set] | simp only [pN]
  refine wpAnyH_take (i := 21) (oi := ?_) (v := undef) ?_ (by kernel_rfl) (by kernel_rfl) (by kernel_rfl) ?_ (Or.inr ⟨?_, rfl⟩) (by assumption) ?_
  rotate_left 1
  · (simp only [List.getElem?_toArray, List.getElem?_cons_succ, List.getElem?_cons_zero]; rfl)
  · first | exact fun _ _ _ h => h | exact fun _ _ _ h => by cases h.1
  · rfl
  try first | simp only [pS, List.set] | simp only [pN]
  refine wpAnyH_take (i := 22) (oi := ?_) (v := undef) ?_ (by kernel_rfl) (by kernel_rfl) (by kernel_rfl) ?_ (Or.inr ⟨?_, rfl⟩) (by assumption) ?_
  rotate_left 1
  · (simp only [List.getElem?_toArray, List.getElem?_cons_succ, List.getElem?_cons_zero]; rfl)
  · first | exact fun _ _ _ h => h | exact fun _ _ _ h => by cases h.1
  · rfl
  try first | simp only [pS, List.set] | simp only [pN]
  refine wpAnyH_take (i := 23) (oi := ?_) (v := undef) ?_ (by kernel_rfl) (by kernel_rfl) (by kernel_rfl) ?_ (Or.inr ⟨?_, rfl⟩) (by assumption) ?_
  rotate_left 1
  · (simp only [List.getElem?_toArray, List.getElem?_cons_succ, List.getElem?_cons_zero]; rfl)
  · first | exact fun _ _ _ h => h | exact fun _ _ _ h => by cases h.1
  · rfl
  try first | simp only [pS, List.set] | simp only [pN]
  refine wpAnyH_take (i := 24) (oi := ?_) (v := undef) ?_ (by kernel_rfl) (by kernel_rfl) (by kernel_rfl) ?_ (Or.inr ⟨?_, rfl⟩) (by assumption) ?_
  rotate_left 1
  · (simp only [List.getElem?_toArray, List.getElem?_cons_succ, List.getElem?_cons_zero]; rfl)
  · first | exact fun _ _ _ h => h | exact fun _ _ _ h => by cases h.1
  · rfl
  try first | simp only [pS, List.set] | simp only [pN]
  refine wpAnyH_take (i := 25) (oi := ?_) (v := undef) ?_ (by kernel_rfl) (by kernel_rfl) (by kernel_rfl) ?_ (Or.inr ⟨?_, rfl⟩) (by assumption) ?_
  rotate_left 1
  · (simp only [List.getElem?_toArray, List.getElem?_cons_succ, List.getElem?_cons_zero]; rfl)
  · first | exact fun _ _ _ h => h | exact fun _ _ _ h => by cases h.1
  · rfl
  try first | simp only [pS, List.set] | simp only [pN]
  refine tkH 26 ?_
  try first | simp only [pS, List.set] | simp only [pN]
  refine wpAnyH_done (by kernel_rfl) ?_ _
  have hR := row_kept hr2 hHeld.1
  have hB := hb2.trans (hHeld.1.mono (by omega))
  obtain ⟨c0, c1, c2, c3⟩ := hHeld.2.2
  have f0 := row_frozen hR 0
  have f1 := row_frozen hR 1
  have f2 := row_frozen hR 2
  have f3 := row_frozen hR 3
  have z0 := row_cell hR 0
  have z1 := row_cell hR 1
  have z2 := row_cell hR 2
  have z3 := row_cell hR 3
  simp at z0 z1 z2 z3
  clear hSd hc2 hp2
  have HH := Lib.hid hHeld
  clear hHeld
  go_wp2_with fail
  have hfin := sset4_row hR (.int .i64 (s.a : Int)) (.int .i64 (s.b : Int)) (.int .i64 (s.i : Int)) (.int .i64 (s.o : Int))
  refine bodyPost_ret (res_put _ _ (s := s) (ok := false) rfl rfl hfin) rfl ?_
  exact ⟨_, _, rfl, by simp, by rw [hsb]; exact sset4_below hB (by omega) _ _ _ _⟩

set_option maxRecDepth 100000 in
set_option maxHeartbeats 4000000 in
theorem fput_1 {n : Int} {P T : List Cl} {s : Sp} (hs : Inv n P T s) (hP : P.length ≤ 60) (hT : T.length ≤ 60) {fb bm cP cT LI cI : Nat} {AP AT AI : Option Addr} {vE : Value} (hcP : P.length ≤ cP) (hcT : T.length ≤ cT) (W : World)
    (hF : FBox W fb n AP P.length cP AT T.length cT AI LI cI bm vE) (hlP : ClSl W W.heap.size AP P) (hlT : ClSl W W.heap.size AT T) {c : Cl} (hc : P[s.a]? = some c) (hm : mayB c (T.drop s.b) = false) :
    Calls Try.prog 34 #[.pointer (some ⟨fb, 0, none⟩), spV s] W (PutR (stepP n P T s) W) := by
  have huse := And.intro hP (And.intro hT (And.intro hcP (And.intro hcT (And.intro hlP hlT))))
  clear huse
  obtain ⟨LP, hLP⟩ : ∃ x, P.length = x := ⟨_, rfl⟩
  obtain ⟨LT, hLT⟩ : ∃ x, T.length = x := ⟨_, rfl⟩
  have s1 := hs.a
  have s2 := hs.b
  have s3 := hs.oi
  have s4 : s.i ≤ 60 := by rw [hs.i]; exact Nat.le_trans List.countP_le_length (by rw [List.length_take]; omega)
  rw [hLP] at hF s1 hP hcP
  rw [hLT] at hF s2 hT hcT
  have HST := Lib.hid (show stepP n P T s = (if (false) = true then some ⟨s.a, s.b, s.i, s.o⟩ else none) by unfold stepP; rw [hc]; simp [hm])
  have hlto : s.a < LP := by rw [← hLP]; exact get_lt hc
  obtain ⟨eb, eo, Ac, cc, hAP, hebl, hec, hcw, hcc1, hcc2⟩ := hlP s.a c hc
  have hsl := fun W => slice_calls AT LT cT s.b s2 W
  have htl := hlT.tail (c := cT) (n := s.b) (by rw [hLT]; exact hcT) (by rw [hLT]; exact s2)
  obtain ⟨A2, hA2⟩ : ∃ x, (if cT = s.b then AT else AT.map (·.add (s.b * 7))) = x := ⟨_, rfl⟩
  rw [hA2] at hsl htl
  have hmay := fun (W' : World) (hb : Below W.heap.size W W') => lmay_any c Ac A2 cc (cT - s.b) (T.drop s.b) W' (by rw [List.length_drop]; omega) (htl.below hb hb.size)
  rw [List.length_drop, hLT, hm] at hmay
  subst hAP
  have h0i : ((s.a : Int) == (LP : Int)) = false := by simp; omega
  have hltoi : (s.a : Int) < (LP : Int) := by omega
  have hlt2i : (s.b : Int) ≤ (LT : Int) := by omega
  unfold clV at hmay
  have HMAY := Lib.hid hmay
  have HCW := Lib.hid hcw
  clear hmay htl hcw hA2 hlP hlT hLP hLT hs hc hm
  have hb1 := (Below.refl W.heap.size W).alloc (Nat.le_refl _) (.cells #[.int .i64 (s.a : Int), .int .i64 (s.b : Int), .int .i64 (s.i : Int), .int .i64 (s.o : Int)] 48)
  have hb2 := hb1.alloc hb1.size (.cells #[.int .i64 0, .int .i64 0, .int .i64 0, .int .i64 0] 48)
  have hs1 := heap_alloc_new W (.cells #[.int .i64 (s.a : Int), .int .i64 (s.b : Int), .int .i64 (s.i : Int), .int .i64 (s.o : Int)] 48)
  have hs2 := row_kept hs1 ((Below.refl _ _).alloc (Nat.le_refl _) (.cells #[.int .i64 0, .int .i64 0, .int .i64 0, .int .i64 0] 48))
  have hr2 := heap_alloc_new (W.alloc (.cells #[.int .i64 (s.a : Int), .int .i64 (s.b : Int), .int .i64 (s.i : Int), .int .i64 (s.o : Int)] 48)) (.cells #[.int .i64 0, .int .i64 0, .int .i64 0, .int .i64 0] 48)
  have hf2 := row_kept hF hb2
  rw [World.size_alloc] at hr2
  have hlt := row_lt hF
  have hsz2 : W.heap.size + 2 ≤ ((W.alloc (.cells #[.int .i64 (s.a : Int), .int .i64 (s.b : Int), .int .i64 (s.i : Int), .int .i64 (s.o : Int)] 48)).alloc (.cells #[.int .i64 0, .int .i64 0, .int .i64 0, .int .i64 0] 48)).heap.size := by rw [World.size_alloc, World.size_alloc]; omega
  clear hs1 hb1 hF
  unfold spV
  obtain ⟨sb, hsb⟩ : ∃ x, W.heap.size = x := ⟨_, rfl⟩
  rw [hsb] at hs2 hr2 hb2 hlt hsz2
  have hebl : eb < sb := by omega
  go_enter Try.func34, Try.ntmps34
  go_wp2_with fail
  obtain ⟨W2, hW2⟩ : ∃ x, (W.alloc (.cells #[.int .i64 (s.a : Int), .int .i64 (s.b : Int), .int .i64 (s.i : Int), .int .i64 (s.o : Int)] 48)).alloc (.cells #[.int .i64 0, .int .i64 0, .int .i64 0, .int .i64 0] 48) = x := ⟨_, rfl⟩
  rw [hW2] at hs2 hr2 hb2 hf2 hsz2 ⊢
  clear hW2
  have hec2 := cl7_low hec hb2 hebl
  have hc2 := FBox.cells hf2
  have hp2 := SpBox.cells hs2
  clear hec
  have hSd : (fun w' => Below W2.heap.size W2 w' ∧ (w'.cell? ⟨fb, 0, none⟩ = some (.int .i64 n) ∧ w'.cell? ⟨fb, 1, none⟩ = some (.slice (some ⟨eb, eo, none⟩) LP cP) ∧ w'.cell? ⟨fb, 2, none⟩ = some (.slice AT LT cT) ∧ w'.cell? ⟨fb, 3, none⟩ = some (.slice AI LI cI)) ∧ (w'.cell? ⟨sb, 0, none⟩ = some (.int .i64 (s.a : Int)) ∧ w'.cell? ⟨sb, 1, none⟩ = some (.int .i64 (s.b : Int)) ∧ w'.cell? ⟨sb, 2, none⟩ = some (.int .i64 (s.i : Int)) ∧ w'.cell? ⟨sb, 3, none⟩ = some (.int .i64 (s.o : Int))) ∧ (w'.cell? ⟨eb, eo + s.a * 7, none⟩ = some (.int .i64 c.p) ∧ w'.cell? ⟨eb, eo + s.a * 7 + 1, none⟩ = some (.int .i64 c.o) ∧ w'.cell? ⟨eb, eo + s.a * 7 + 2, none⟩ = some (.int .i64 c.q) ∧ w'.cell? ⟨eb, eo + s.a * 7 + 3, none⟩ = some (.slice Ac c.r.length cc) ∧ w'.cell? ⟨eb, eo + s.a * 7 + 4, none⟩ = some (.int .i64 c.c) ∧ w'.cell? ⟨eb, eo + s.a * 7 + 5, none⟩ = some (.int .i64 c.b) ∧ w'.cell? ⟨eb, eo + s.a * 7 + 6, none⟩ = some (.int .i64 c.e))) W2.drew := ⟨(Below.refl _ W2).drew, ⟨hc2.1, hc2.2.1, hc2.2.2.1, hc2.2.2.2.1⟩, hp2, hec2⟩
  refine wp_region_held_drew (S := (fun w' => Below W2.heap.size W2 w' ∧ (w'.cell? ⟨fb, 0, none⟩ = some (.int .i64 n) ∧ w'.cell? ⟨fb, 1, none⟩ = some (.slice (some ⟨eb, eo, none⟩) LP cP) ∧ w'.cell? ⟨fb, 2, none⟩ = some (.slice AT LT cT) ∧ w'.cell? ⟨fb, 3, none⟩ = some (.slice AI LI cI)) ∧ (w'.cell? ⟨sb, 0, none⟩ = some (.int .i64 (s.a : Int)) ∧ w'.cell? ⟨sb, 1, none⟩ = some (.int .i64 (s.b : Int)) ∧ w'.cell? ⟨sb, 2, none⟩ = some (.int .i64 (s.i : Int)) ∧ w'.cell? ⟨sb, 3, none⟩ = some (.int .i64 (s.o : Int))) ∧ (w'.cell? ⟨eb, eo + s.a * 7, none⟩ = some (.int .i64 c.p) ∧ w'.cell? ⟨eb, eo + s.a * 7 + 1, none⟩ = some (.int .i64 c.o) ∧ w'.cell? ⟨eb, eo + s.a * 7 + 2, none⟩ = some (.int .i64 c.q) ∧ w'.cell? ⟨eb, eo + s.a * 7 + 3, none⟩ = some (.slice Ac c.r.length cc) ∧ w'.cell? ⟨eb, eo + s.a * 7 + 4, none⟩ = some (.int .i64 c.c) ∧ w'.cell? ⟨eb, eo + s.a * 7 + 5, none⟩ = some (.int .i64 c.b) ∧ w'.cell? ⟨eb, eo + s.a * 7 + 6, none⟩ = some (.int .i64 c.e)))) (by kernel_rfl) hSd (fun hHeld => ?_)
  generalize W2.drew = wd at hHeld ⊢
  have hHeld : (fun w' => Below W2.heap.size W2 w' ∧ (w'.cell? ⟨fb, 0, none⟩ = some (.int .i64 n) ∧ w'.cell? ⟨fb, 1, none⟩ = some (.slice (some ⟨eb, eo, none⟩) LP cP) ∧ w'.cell? ⟨fb, 2, none⟩ = some (.slice AT LT cT) ∧ w'.cell? ⟨fb, 3, none⟩ = some (.slice AI LI cI)) ∧ (w'.cell? ⟨sb, 0, none⟩ = some (.int .i64 (s.a : Int)) ∧ w'.cell? ⟨sb, 1, none⟩ = some (.int .i64 (s.b : Int)) ∧ w'.cell? ⟨sb, 2, none⟩ = some (.int .i64 (s.i : Int)) ∧ w'.cell? ⟨sb, 3, none⟩ = some (.int .i64 (s.o : Int))) ∧ (w'.cell? ⟨eb, eo + s.a * 7, none⟩ = some (.int .i64 c.p) ∧ w'.cell? ⟨eb, eo + s.a * 7 + 1, none⟩ = some (.int .i64 c.o) ∧ w'.cell? ⟨eb, eo + s.a * 7 + 2, none⟩ = some (.int .i64 c.q) ∧ w'.cell? ⟨eb, eo + s.a * 7 + 3, none⟩ = some (.slice Ac c.r.length cc) ∧ w'.cell? ⟨eb, eo + s.a * 7 + 4, none⟩ = some (.int .i64 c.c) ∧ w'.cell? ⟨eb, eo + s.a * 7 + 5, none⟩ = some (.int .i64 c.b) ∧ w'.cell? ⟨eb, eo + s.a * 7 + 6, none⟩ = some (.int .i64 c.e))) wd := hHeld
  refine tkH 0 ?_
  try first | simp only [pS, List.set] | simp only [pN]
  refine tkH 1 ?_
  try first | simp only [pS, List.set] | simp only [pN]
  refine tkH 2 ?_
  try first | simp only [pS, List.set] | simp only [pN]
  refine tkH 3 ?_
  try first | simp only [pS, List.set] | simp only [pN]
  refine tkH 4 ?_
  try first | simp only [pS, List.set] | simp only [pN]
  refine tkH 5 ?_
  try first | simp only [pS, List.set] | simp only [pN]
  refine tkH 6 ?_
  try first | simp only [pS, List.set] | simp only [pN]
  refine tkH 7 ?_
  try first | simp only [pS, List.set] | simp only [pN]
  refine tkH 8 ?_
  try first | simp only [pS, List.set] | simp only [pN]
  refine tkH 9 ?_
  try first | simp only [pS, List.set] | simp only [pN]
  refine tkH 10 ?_
  try first | simp only [pS, List.set] | simp only [pN]
  refine tkH 11 ?_
  try first | simp only [pS, List.set] | simp only [pN]
  refine tkH 12 ?_
  try first | simp only [pS, List.set] | simp only [pN]
  refine tkH 13 ?_
  try first | simp only [pS, List.set] | simp only [pN]
  refine tkH 14 ?_
  try first | simp only [pS, List.set] | simp only [pN]
  refine tkH 15 ?_
  try first | simp only [pS, List.set] | simp only [pN]
  refine tkH 16 ?_
  try first | simp only [pS, List.set] | simp only [pN]
  refine tkH 17 ?_
  try first | simp only [pS, List.set] | simp only [pN]
  refine tkH 18 ?_
  try first | simp only [pS, List.set] | simp only [pN]
  refine tkH 19 ?_
  try first | simp only [pS, List.set] | simp only [pN]
  refine tkH 20 ?_
  try first | simp only [pS, List.set] | simp only [pN]
  refine tkH 21 ?_
  try first | simp only [pS, List.set] | simp only [pN]
  refine tkH 22 ?_
  try first | simp only [pS, List.set] | simp only [pN]
  refine tkH 23 ?_
  try first | simp only [pS, List.set] | simp only [pN]
  refine wpAnyH_ready (rs := [24]) (by kernel_rfl) (by simp) ?_
  refine AllReadyH.cons (o := ?_) ?_ (fun K hK => ?_) AllReadyH.nil
  rotate_left
  · (simp only [List.getElem?_toArray, List.getElem?_cons_succ, List.getElem?_cons_zero]; rfl)
  go_simp
  go_at_call 48
  refine (HMAY.out _ (by rw [hsb]; exact hb2.trans (hHeld.1.mono (by omega)))).mono ?_
  rintro e wx ⟨rfl, hbx⟩
  have hSx : (fun w' => Below W2.heap.size W2 w' ∧ (w'.cell? ⟨fb, 0, none⟩ = some (.int .i64 n) ∧ w'.cell? ⟨fb, 1, none⟩ = some (.slice (some ⟨eb, eo, none⟩) LP cP) ∧ w'.cell? ⟨fb, 2, none⟩ = some (.slice AT LT cT) ∧ w'.cell? ⟨fb, 3, none⟩ = some (.slice AI LI cI)) ∧ (w'.cell? ⟨sb, 0, none⟩ = some (.int .i64 (s.a : Int)) ∧ w'.cell? ⟨sb, 1, none⟩ = some (.int .i64 (s.b : Int)) ∧ w'.cell? ⟨sb, 2, none⟩ = some (.int .i64 (s.i : Int)) ∧ w'.cell? ⟨sb, 3, none⟩ = some (.int .i64 (s.o : Int))) ∧ (w'.cell? ⟨eb, eo + s.a * 7, none⟩ = some (.int .i64 c.p) ∧ w'.cell? ⟨eb, eo + s.a * 7 + 1, none⟩ = some (.int .i64 c.o) ∧ w'.cell? ⟨eb, eo + s.a * 7 + 2, none⟩ = some (.int .i64 c.q) ∧ w'.cell? ⟨eb, eo + s.a * 7 + 3, none⟩ = some (.slice Ac c.r.length cc) ∧ w'.cell? ⟨eb, eo + s.a * 7 + 4, none⟩ = some (.int .i64 c.c) ∧ w'.cell? ⟨eb, eo + s.a * 7 + 5, none⟩ = some (.int .i64 c.b) ∧ w'.cell? ⟨eb, eo + s.a * 7 + 6, none⟩ = some (.int .i64 c.e))) wx := ⟨hHeld.1.trans (hbx.mono hHeld.1.size), f4_below hHeld.2.1 hbx, f4_below hHeld.2.2.1 hbx, cl7_below hHeld.2.2.2 hbx⟩
  refine hK.out _ _ hSx (fun hHeld => ?_)
  clear hK K
  try first | simp only [pS, List.set] | simp only [pN]
  refine tkH 25 ?_
  try first | simp only [pS, List.set] | simp only [pN]
  refine tkH 26 ?_
  try first | simp only [pS, List.set] | simp only [pN]
  refine wpAnyH_done (by kernel_rfl) ?_ _
  have hR := row_kept hr2 hHeld.1
  have hB := hb2.trans (hHeld.1.mono (by omega))
  obtain ⟨c0, c1, c2, c3⟩ := hHeld.2.2.1
  have f0 := row_frozen hR 0
  have f1 := row_frozen hR 1
  have f2 := row_frozen hR 2
  have f3 := row_frozen hR 3
  have z0 := row_cell hR 0
  have z1 := row_cell hR 1
  have z2 := row_cell hR 2
  have z3 := row_cell hR 3
  simp at z0 z1 z2 z3
  clear hSd hc2 hp2
  have HH := Lib.hid hHeld
  clear hHeld
  go_wp2_with fail
  have hfin := sset4_row hR (.int .i64 (s.a : Int)) (.int .i64 (s.b : Int)) (.int .i64 (s.i : Int)) (.int .i64 (s.o : Int))
  refine bodyPost_ret (res_put _ _ (s := s) (ok := false) rfl rfl hfin) rfl ?_
  exact ⟨_, _, rfl, HST.out, by rw [hsb]; exact sset4_below hB (by omega) _ _ _ _⟩

set_option maxRecDepth 100000 in
set_option maxHeartbeats 4000000 in
theorem fput_2 {n : Int} {P T : List Cl} {s : Sp} (hs : Inv n P T s) (hP : P.length ≤ 60) (hT : T.length ≤ 60) {fb bm cP cT LI cI : Nat} {AP AT AI : Option Addr} {vE : Value} (hcP : P.length ≤ cP) (hcT : T.length ≤ cT) (W : World)
    (hF : FBox W fb n AP P.length cP AT T.length cT AI LI cI bm vE) (hlP : ClSl W W.heap.size AP P) (hlT : ClSl W W.heap.size AT T) {c : Cl} (hc : P[s.a]? = some c) (hm : mayB c (T.drop s.b) = true) (he : 0 ≤ c.e) (h2 : (c.c == 2) = true) :
    Calls Try.prog 34 #[.pointer (some ⟨fb, 0, none⟩), spV s] W (PutR (stepP n P T s) W) := by
  have huse := And.intro hP (And.intro hT (And.intro hcP (And.intro hcT (And.intro hlP hlT))))
  clear huse
  obtain ⟨LP, hLP⟩ : ∃ x, P.length = x := ⟨_, rfl⟩
  obtain ⟨LT, hLT⟩ : ∃ x, T.length = x := ⟨_, rfl⟩
  have s1 := hs.a
  have s2 := hs.b
  have s3 := hs.oi
  have s4 : s.i ≤ 60 := by rw [hs.i]; exact Nat.le_trans List.countP_le_length (by rw [List.length_take]; omega)
  rw [hLP] at hF s1 hP hcP
  rw [hLT] at hF s2 hT hcT
  have HST := Lib.hid (show stepP n P T s = (if (((s.i : Int) - (s.o : Int)) == n) = true then some ⟨s.a + 1, s.b, s.i, s.o⟩ else none) by unfold stepP; rw [hc]; simp [hm, show ful c = true by simp [ful, opn]; exact ⟨he, by simpa using h2⟩])
  have hlto : s.a < LP := by rw [← hLP]; exact get_lt hc
  obtain ⟨eb, eo, Ac, cc, hAP, hebl, hec, hcw, hcc1, hcc2⟩ := hlP s.a c hc
  have hsl := fun W => slice_calls AT LT cT s.b s2 W
  have htl := hlT.tail (c := cT) (n := s.b) (by rw [hLT]; exact hcT) (by rw [hLT]; exact s2)
  obtain ⟨A2, hA2⟩ : ∃ x, (if cT = s.b then AT else AT.map (·.add (s.b * 7))) = x := ⟨_, rfl⟩
  rw [hA2] at hsl htl
  have hmay := fun (W' : World) (hb : Below W.heap.size W W') => lmay_any c Ac A2 cc (cT - s.b) (T.drop s.b) W' (by rw [List.length_drop]; omega) (htl.below hb hb.size)
  rw [List.length_drop, hLT, hm] at hmay
  subst hAP
  have h0i : ((s.a : Int) == (LP : Int)) = false := by simp; omega
  have hltoi : (s.a : Int) < (LP : Int) := by omega
  have hlt2i : (s.b : Int) ≤ (LT : Int) := by omega
  have hwr : IntKind.i64.wrap ((s.i : Int) - (s.o : Int)) = ((s.i : Int) - (s.o : Int)) := IntWalk.i64_in _ (by omega)
  unfold clV at hmay
  have HMAY := Lib.hid hmay
  have HCW := Lib.hid hcw
  clear hmay htl hcw hA2 hlP hlT hLP hLT hs hc hm
  have hb1 := (Below.refl W.heap.size W).alloc (Nat.le_refl _) (.cells #[.int .i64 (s.a : Int), .int .i64 (s.b : Int), .int .i64 (s.i : Int), .int .i64 (s.o : Int)] 48)
  have hb2 := hb1.alloc hb1.size (.cells #[.int .i64 0, .int .i64 0, .int .i64 0, .int .i64 0] 48)
  have hs1 := heap_alloc_new W (.cells #[.int .i64 (s.a : Int), .int .i64 (s.b : Int), .int .i64 (s.i : Int), .int .i64 (s.o : Int)] 48)
  have hs2 := row_kept hs1 ((Below.refl _ _).alloc (Nat.le_refl _) (.cells #[.int .i64 0, .int .i64 0, .int .i64 0, .int .i64 0] 48))
  have hr2 := heap_alloc_new (W.alloc (.cells #[.int .i64 (s.a : Int), .int .i64 (s.b : Int), .int .i64 (s.i : Int), .int .i64 (s.o : Int)] 48)) (.cells #[.int .i64 0, .int .i64 0, .int .i64 0, .int .i64 0] 48)
  have hf2 := row_kept hF hb2
  rw [World.size_alloc] at hr2
  have hlt := row_lt hF
  have hsz2 : W.heap.size + 2 ≤ ((W.alloc (.cells #[.int .i64 (s.a : Int), .int .i64 (s.b : Int), .int .i64 (s.i : Int), .int .i64 (s.o : Int)] 48)).alloc (.cells #[.int .i64 0, .int .i64 0, .int .i64 0, .int .i64 0] 48)).heap.size := by rw [World.size_alloc, World.size_alloc]; omega
  clear hs1 hb1 hF
  unfold spV
  obtain ⟨sb, hsb⟩ : ∃ x, W.heap.size = x := ⟨_, rfl⟩
  rw [hsb] at hs2 hr2 hb2 hlt hsz2
  have hebl : eb < sb := by omega
  go_enter Try.func34, Try.ntmps34
  go_wp2_with fail
  obtain ⟨W2, hW2⟩ : ∃ x, (W.alloc (.cells #[.int .i64 (s.a : Int), .int .i64 (s.b : Int), .int .i64 (s.i : Int), .int .i64 (s.o : Int)] 48)).alloc (.cells #[.int .i64 0, .int .i64 0, .int .i64 0, .int .i64 0] 48) = x := ⟨_, rfl⟩
  rw [hW2] at hs2 hr2 hb2 hf2 hsz2 ⊢
  clear hW2
  have hec2 := cl7_low hec hb2 hebl
  have hc2 := FBox.cells hf2
  have hp2 := SpBox.cells hs2
  clear hec
  have hSd : (fun w' => Below W2.heap.size W2 w' ∧ (w'.cell? ⟨fb, 0, none⟩ = some (.int .i64 n) ∧ w'.cell? ⟨fb, 1, none⟩ = some (.slice (some ⟨eb, eo, none⟩) LP cP) ∧ w'.cell? ⟨fb, 2, none⟩ = some (.slice AT LT cT) ∧ w'.cell? ⟨fb, 3, none⟩ = some (.slice AI LI cI)) ∧ (w'.cell? ⟨sb, 0, none⟩ = some (.int .i64 (s.a : Int)) ∧ w'.cell? ⟨sb, 1, none⟩ = some (.int .i64 (s.b : Int)) ∧ w'.cell? ⟨sb, 2, none⟩ = some (.int .i64 (s.i : Int)) ∧ w'.cell? ⟨sb, 3, none⟩ = some (.int .i64 (s.o : Int))) ∧ (w'.cell? ⟨eb, eo + s.a * 7, none⟩ = some (.int .i64 c.p) ∧ w'.cell? ⟨eb, eo + s.a * 7 + 1, none⟩ = some (.int .i64 c.o) ∧ w'.cell? ⟨eb, eo + s.a * 7 + 2, none⟩ = some (.int .i64 c.q) ∧ w'.cell? ⟨eb, eo + s.a * 7 + 3, none⟩ = some (.slice Ac c.r.length cc) ∧ w'.cell? ⟨eb, eo + s.a * 7 + 4, none⟩ = some (.int .i64 c.c) ∧ w'.cell? ⟨eb, eo + s.a * 7 + 5, none⟩ = some (.int .i64 c.b) ∧ w'.cell? ⟨eb, eo + s.a * 7 + 6, none⟩ = some (.int .i64 c.e))) W2.drew := ⟨(Below.refl _ W2).drew, ⟨hc2.1, hc2.2.1, hc2.2.2.1, hc2.2.2.2.1⟩, hp2, hec2⟩
  refine wp_region_held_drew (S := (fun w' => Below W2.heap.size W2 w' ∧ (w'.cell? ⟨fb, 0, none⟩ = some (.int .i64 n) ∧ w'.cell? ⟨fb, 1, none⟩ = some (.slice (some ⟨eb, eo, none⟩) LP cP) ∧ w'.cell? ⟨fb, 2, none⟩ = some (.slice AT LT cT) ∧ w'.cell? ⟨fb, 3, none⟩ = some (.slice AI LI cI)) ∧ (w'.cell? ⟨sb, 0, none⟩ = some (.int .i64 (s.a : Int)) ∧ w'.cell? ⟨sb, 1, none⟩ = some (.int .i64 (s.b : Int)) ∧ w'.cell? ⟨sb, 2, none⟩ = some (.int .i64 (s.i : Int)) ∧ w'.cell? ⟨sb, 3, none⟩ = some (.int .i64 (s.o : Int))) ∧ (w'.cell? ⟨eb, eo + s.a * 7, none⟩ = some (.int .i64 c.p) ∧ w'.cell? ⟨eb, eo + s.a * 7 + 1, none⟩ = some (.int .i64 c.o) ∧ w'.cell? ⟨eb, eo + s.a * 7 + 2, none⟩ = some (.int .i64 c.q) ∧ w'.cell? ⟨eb, eo + s.a * 7 + 3, none⟩ = some (.slice Ac c.r.length cc) ∧ w'.cell? ⟨eb, eo + s.a * 7 + 4, none⟩ = some (.int .i64 c.c) ∧ w'.cell? ⟨eb, eo + s.a * 7 + 5, none⟩ = some (.int .i64 c.b) ∧ w'.cell? ⟨eb, eo + s.a * 7 + 6, none⟩ = some (.int .i64 c.e)))) (by kernel_rfl) hSd (fun hHeld => ?_)
  generalize W2.drew = wd at hHeld ⊢
  have hHeld : (fun w' => Below W2.heap.size W2 w' ∧ (w'.cell? ⟨fb, 0, none⟩ = some (.int .i64 n) ∧ w'.cell? ⟨fb, 1, none⟩ = some (.slice (some ⟨eb, eo, none⟩) LP cP) ∧ w'.cell? ⟨fb, 2, none⟩ = some (.slice AT LT cT) ∧ w'.cell? ⟨fb, 3, none⟩ = some (.slice AI LI cI)) ∧ (w'.cell? ⟨sb, 0, none⟩ = some (.int .i64 (s.a : Int)) ∧ w'.cell? ⟨sb, 1, none⟩ = some (.int .i64 (s.b : Int)) ∧ w'.cell? ⟨sb, 2, none⟩ = some (.int .i64 (s.i : Int)) ∧ w'.cell? ⟨sb, 3, none⟩ = some (.int .i64 (s.o : Int))) ∧ (w'.cell? ⟨eb, eo + s.a * 7, none⟩ = some (.int .i64 c.p) ∧ w'.cell? ⟨eb, eo + s.a * 7 + 1, none⟩ = some (.int .i64 c.o) ∧ w'.cell? ⟨eb, eo + s.a * 7 + 2, none⟩ = some (.int .i64 c.q) ∧ w'.cell? ⟨eb, eo + s.a * 7 + 3, none⟩ = some (.slice Ac c.r.length cc) ∧ w'.cell? ⟨eb, eo + s.a * 7 + 4, none⟩ = some (.int .i64 c.c) ∧ w'.cell? ⟨eb, eo + s.a * 7 + 5, none⟩ = some (.int .i64 c.b) ∧ w'.cell? ⟨eb, eo + s.a * 7 + 6, none⟩ = some (.int .i64 c.e))) wd := hHeld
  refine tkH 0 ?_
  try first | simp only [pS, List.set] | simp only [pN]
  refine tkH 1 ?_
  try first | simp only [pS, List.set] | simp only [pN]
  refine tkH 2 ?_
  try first | simp only [pS, List.set] | simp only [pN]
  refine tkH 3 ?_
  try first | simp only [pS, List.set] | simp only [pN]
  refine tkH 4 ?_
  try first | simp only [pS, List.set] | simp only [pN]
  refine tkH 5 ?_
  try first | simp only [pS, List.set] | simp only [pN]
  refine tkH 6 ?_
  try first | simp only [pS, List.set] | simp only [pN]
  refine tkH 7 ?_
  try first | simp only [pS, List.set] | simp only [pN]
  refine tkH 8 ?_
  try first | simp only [pS, List.set] | simp only [pN]
  refine tkH 9 ?_
  try first | simp only [pS, List.set] | simp only [pN]
  refine tkH 10 ?_
  try first | simp only [pS, List.set] | simp only [pN]
  refine tkH 11 ?_
  try first | simp only [pS, List.set] | simp only [pN]
  refine tkH 12 ?_
  try first | simp only [pS, List.set] | simp only [pN]
  refine tkH 13 ?_
  try first | simp only [pS, List.set] | simp only [pN]
  refine tkH 14 ?_
  try first | simp only [pS, List.set] | simp only [pN]
  refine tkH 15 ?_
  try first | simp only [pS, List.set] | simp only [pN]
  refine tkH 16 ?_
  try first | simp only [pS, List.set] | simp only [pN]
  refine tkH 17 ?_
  try first | simp only [pS, List.set] | simp only [pN]
  refine tkH 18 ?_
  try first | simp only [pS, List.set] | simp only [pN]
  refine tkH 19 ?_
  try first | simp only [pS, List.set] | simp only [pN]
  refine tkH 20 ?_
  try first | simp only [pS, List.set] | simp only [pN]
  refine tkH 21 ?_
  try first | simp only [pS, List.set] | simp only [pN]
  refine tkH 22 ?_
  try first | simp only [pS, List.set] | simp only [pN]
  refine tkH 23 ?_
  try first | simp only [pS, List.set] | simp only [pN]
  refine wpAnyH_ready (rs := [24]) (by kernel_rfl) (by simp) ?_
  refine AllReadyH.cons (o := ?_) ?_ (fun K hK => ?_) AllReadyH.nil
  rotate_left
  · (simp only [List.getElem?_toArray, List.getElem?_cons_succ, List.getElem?_cons_zero]; rfl)
  go_simp
  go_at_call 48
  refine (HMAY.out _ (by rw [hsb]; exact hb2.trans (hHeld.1.mono (by omega)))).mono ?_
  rintro e wx ⟨rfl, hbx⟩
  have hSx : (fun w' => Below W2.heap.size W2 w' ∧ (w'.cell? ⟨fb, 0, none⟩ = some (.int .i64 n) ∧ w'.cell? ⟨fb, 1, none⟩ = some (.slice (some ⟨eb, eo, none⟩) LP cP) ∧ w'.cell? ⟨fb, 2, none⟩ = some (.slice AT LT cT) ∧ w'.cell? ⟨fb, 3, none⟩ = some (.slice AI LI cI)) ∧ (w'.cell? ⟨sb, 0, none⟩ = some (.int .i64 (s.a : Int)) ∧ w'.cell? ⟨sb, 1, none⟩ = some (.int .i64 (s.b : Int)) ∧ w'.cell? ⟨sb, 2, none⟩ = some (.int .i64 (s.i : Int)) ∧ w'.cell? ⟨sb, 3, none⟩ = some (.int .i64 (s.o : Int))) ∧ (w'.cell? ⟨eb, eo + s.a * 7, none⟩ = some (.int .i64 c.p) ∧ w'.cell? ⟨eb, eo + s.a * 7 + 1, none⟩ = some (.int .i64 c.o) ∧ w'.cell? ⟨eb, eo + s.a * 7 + 2, none⟩ = some (.int .i64 c.q) ∧ w'.cell? ⟨eb, eo + s.a * 7 + 3, none⟩ = some (.slice Ac c.r.length cc) ∧ w'.cell? ⟨eb, eo + s.a * 7 + 4, none⟩ = some (.int .i64 c.c) ∧ w'.cell? ⟨eb, eo + s.a * 7 + 5, none⟩ = some (.int .i64 c.b) ∧ w'.cell? ⟨eb, eo + s.a * 7 + 6, none⟩ = some (.int .i64 c.e))) wx := ⟨hHeld.1.trans (hbx.mono hHeld.1.size), f4_below hHeld.2.1 hbx, f4_below hHeld.2.2.1 hbx, cl7_below hHeld.2.2.2 hbx⟩
  refine hK.out _ _ hSx (fun hHeld => ?_)
  clear hK K
  try first | simp only [pS, List.set] | simp only [pN]
  refine tkH 25 ?_
  try first | simp only [pS, List.set] | simp only [pN]
  refine tkH 26 ?_
  try first | simp only [pS, List.set] | simp only [pN]
  refine wpAnyH_done (by kernel_rfl) ?_ _
  have hSB := row_kept hs2 hHeld.1
  have hR := row_kept hr2 hHeld.1
  have hB3 := hb2.trans (hHeld.1.mono (by omega))
  have hsx : sb + 2 ≤ wx.heap.size := Nat.le_trans hsz2 hHeld.1.size
  have hH3 := hHeld.2
  have HH := Lib.hid hHeld
  clear hSd hSx hHeld hs2 hr2 hb2 hf2 hc2 hp2 hec2 HMAY hsl hsz2
  obtain ⟨c0, c1, c2, c3⟩ := hH3.2.1
  go_wp2_with fail
  have hSd : (fun w' => Below wx.heap.size wx w' ∧ (w'.cell? ⟨fb, 0, none⟩ = some (.int .i64 n) ∧ w'.cell? ⟨fb, 1, none⟩ = some (.slice (some ⟨eb, eo, none⟩) LP cP) ∧ w'.cell? ⟨fb, 2, none⟩ = some (.slice AT LT cT) ∧ w'.cell? ⟨fb, 3, none⟩ = some (.slice AI LI cI)) ∧ (w'.cell? ⟨sb, 0, none⟩ = some (.int .i64 (s.a : Int)) ∧ w'.cell? ⟨sb, 1, none⟩ = some (.int .i64 (s.b : Int)) ∧ w'.cell? ⟨sb, 2, none⟩ = some (.int .i64 (s.i : Int)) ∧ w'.cell? ⟨sb, 3, none⟩ = some (.int .i64 (s.o : Int))) ∧ (w'.cell? ⟨eb, eo + s.a * 7, none⟩ = some (.int .i64 c.p) ∧ w'.cell? ⟨eb, eo + s.a * 7 + 1, none⟩ = some (.int .i64 c.o) ∧ w'.cell? ⟨eb, eo + s.a * 7 + 2, none⟩ = some (.int .i64 c.q) ∧ w'.cell? ⟨eb, eo + s.a * 7 + 3, none⟩ = some (.slice Ac c.r.length cc) ∧ w'.cell? ⟨eb, eo + s.a * 7 + 4, none⟩ = some (.int .i64 c.c) ∧ w'.cell? ⟨eb, eo + s.a * 7 + 5, none⟩ = some (.int .i64 c.b) ∧ w'.cell? ⟨eb, eo + s.a * 7 + 6, none⟩ = some (.int .i64 c.e))) wx.drew := ⟨(Below.refl _ wx).drew, hH3⟩
  refine wp_region_held_drew (S := (fun w' => Below wx.heap.size wx w' ∧ (w'.cell? ⟨fb, 0, none⟩ = some (.int .i64 n) ∧ w'.cell? ⟨fb, 1, none⟩ = some (.slice (some ⟨eb, eo, none⟩) LP cP) ∧ w'.cell? ⟨fb, 2, none⟩ = some (.slice AT LT cT) ∧ w'.cell? ⟨fb, 3, none⟩ = some (.slice AI LI cI)) ∧ (w'.cell? ⟨sb, 0, none⟩ = some (.int .i64 (s.a : Int)) ∧ w'.cell? ⟨sb, 1, none⟩ = some (.int .i64 (s.b : Int)) ∧ w'.cell? ⟨sb, 2, none⟩ = some (.int .i64 (s.i : Int)) ∧ w'.cell? ⟨sb, 3, none⟩ = some (.int .i64 (s.o : Int))) ∧ (w'.cell? ⟨eb, eo + s.a * 7, none⟩ = some (.int .i64 c.p) ∧ w'.cell? ⟨eb, eo + s.a * 7 + 1, none⟩ = some (.int .i64 c.o) ∧ w'.cell? ⟨eb, eo + s.a * 7 + 2, none⟩ = some (.int .i64 c.q) ∧ w'.cell? ⟨eb, eo + s.a * 7 + 3, none⟩ = some (.slice Ac c.r.length cc) ∧ w'.cell? ⟨eb, eo + s.a * 7 + 4, none⟩ = some (.int .i64 c.c) ∧ w'.cell? ⟨eb, eo + s.a * 7 + 5, none⟩ = some (.int .i64 c.b) ∧ w'.cell? ⟨eb, eo + s.a * 7 + 6, none⟩ = some (.int .i64 c.e)))) (by kernel_rfl) hSd (fun hHeld => ?_)
  generalize wx.drew = wd at hHeld ⊢
  have hHeld : (fun w' => Below wx.heap.size wx w' ∧ (w'.cell? ⟨fb, 0, none⟩ = some (.int .i64 n) ∧ w'.cell? ⟨fb, 1, none⟩ = some (.slice (some ⟨eb, eo, none⟩) LP cP) ∧ w'.cell? ⟨fb, 2, none⟩ = some (.slice AT LT cT) ∧ w'.cell? ⟨fb, 3, none⟩ = some (.slice AI LI cI)) ∧ (w'.cell? ⟨sb, 0, none⟩ = some (.int .i64 (s.a : Int)) ∧ w'.cell? ⟨sb, 1, none⟩ = some (.int .i64 (s.b : Int)) ∧ w'.cell? ⟨sb, 2, none⟩ = some (.int .i64 (s.i : Int)) ∧ w'.cell? ⟨sb, 3, none⟩ = some (.int .i64 (s.o : Int))) ∧ (w'.cell? ⟨eb, eo + s.a * 7, none⟩ = some (.int .i64 c.p) ∧ w'.cell? ⟨eb, eo + s.a * 7 + 1, none⟩ = some (.int .i64 c.o) ∧ w'.cell? ⟨eb, eo + s.a * 7 + 2, none⟩ = some (.int .i64 c.q) ∧ w'.cell? ⟨eb, eo + s.a * 7 + 3, none⟩ = some (.slice Ac c.r.length cc) ∧ w'.cell? ⟨eb, eo + s.a * 7 + 4, none⟩ = some (.int .i64 c.c) ∧ w'.cell? ⟨eb, eo + s.a * 7 + 5, none⟩ = some (.int .i64 c.b) ∧ w'.cell? ⟨eb, eo + s.a * 7 + 6, none⟩ = some (.int .i64 c.e))) wd := hHeld
  refine tkH 0 ?_
  try first | simp only [pS, List.set] | simp only [pN]
  refine tkH 1 ?_
  try first | simp only [pS, List.set] | simp only [pN]
  refine tkH 2 ?_
  try first | simp only [pS, List.set] | simp only [pN]
  refine tkH 3 ?_
  try first | simp only [pS, List.set] | simp only [pN]
  refine tkH 4 ?_
  try first | simp only [pS, List.set] | simp only [pN]
  refine tkH 5 ?_
  try first | simp only [pS, List.set] | simp only [pN]
  refine tkH 6 ?_
  try first | simp only [pS, List.set] | simp only [pN]
  refine tkH 7 ?_
  try first | simp only [pS, List.set] | simp only [pN]
  refine tkH 8 ?_
  try first | simp only [pS, List.set] | simp only [pN]
  refine tkH 9 ?_
  try first | simp only [pS, List.set] | simp only [pN]
  refine tkH 10 ?_
  try first | simp only [pS, List.set] | simp only [pN]
  refine tkH 11 ?_
  try first | simp only [pS, List.set] | simp only [pN]
  refine tkH 12 ?_
  try first | simp only [pS, List.set] | simp only [pN]
  refine wpAnyH_ready (rs := [13]) (by kernel_rfl) (by simp) ?_
  refine AllReadyH.cons (o := ?_) ?_ (fun K hK => ?_) AllReadyH.nil
  rotate_left
  · (simp only [List.getElem?_toArray, List.getElem?_cons_succ, List.getElem?_cons_zero]; rfl)
  go_simp
  have hcz := hHeld.1.size
  have hnew := heap_alloc_new wd (.cells #[.int .i64 0, .int .i64 0, .int .i64 0, .slice none 0 0, .int .i64 0, .int .i64 0, .int .i64 0] 32)
  have hba := (Below.refl wd.heap.size wd).alloc (Nat.le_refl _) (.cells #[.int .i64 0, .int .i64 0, .int .i64 0, .slice none 0 0, .int .i64 0, .int .i64 0, .int .i64 0] 32)
  have hSx : (fun w' => Below wx.heap.size wx w' ∧ (w'.cell? ⟨fb, 0, none⟩ = some (.int .i64 n) ∧ w'.cell? ⟨fb, 1, none⟩ = some (.slice (some ⟨eb, eo, none⟩) LP cP) ∧ w'.cell? ⟨fb, 2, none⟩ = some (.slice AT LT cT) ∧ w'.cell? ⟨fb, 3, none⟩ = some (.slice AI LI cI)) ∧ (w'.cell? ⟨sb, 0, none⟩ = some (.int .i64 (s.a : Int)) ∧ w'.cell? ⟨sb, 1, none⟩ = some (.int .i64 (s.b : Int)) ∧ w'.cell? ⟨sb, 2, none⟩ = some (.int .i64 (s.i : Int)) ∧ w'.cell? ⟨sb, 3, none⟩ = some (.int .i64 (s.o : Int))) ∧ (w'.cell? ⟨eb, eo + s.a * 7, none⟩ = some (.int .i64 c.p) ∧ w'.cell? ⟨eb, eo + s.a * 7 + 1, none⟩ = some (.int .i64 c.o) ∧ w'.cell? ⟨eb, eo + s.a * 7 + 2, none⟩ = some (.int .i64 c.q) ∧ w'.cell? ⟨eb, eo + s.a * 7 + 3, none⟩ = some (.slice Ac c.r.length cc) ∧ w'.cell? ⟨eb, eo + s.a * 7 + 4, none⟩ = some (.int .i64 c.c) ∧ w'.cell? ⟨eb, eo + s.a * 7 + 5, none⟩ = some (.int .i64 c.b) ∧ w'.cell? ⟨eb, eo + s.a * 7 + 6, none⟩ = some (.int .i64 c.e))) (wd.alloc (.cells #[.int .i64 0, .int .i64 0, .int .i64 0, .slice none 0 0, .int .i64 0, .int .i64 0, .int .i64 0] 32)) := ⟨hHeld.1.trans (hba.mono hHeld.1.size), f4_below hHeld.2.1 hba, f4_below hHeld.2.2.1 hba, cl7_below hHeld.2.2.2 hba⟩
  refine hK.out _ _ hSx (fun hHeld => ?_)
  clear hK K
  try first | simp only [pS, List.set] | simp only [pN]
  obtain ⟨wa, hwa⟩ : ∃ x, wd.alloc (.cells #[.int .i64 0, .int .i64 0, .int .i64 0, .slice none 0 0, .int .i64 0, .int .i64 0, .int .i64 0] 32) = x := ⟨_, rfl⟩
  obtain ⟨cb, hcb⟩ : ∃ x, wd.heap.size = x := ⟨_, rfl⟩
  rw [hwa] at hHeld hnew ⊢
  rw [hcb] at hnew hcz ⊢
  clear hwa hcb hba hSx
  have b0 := row_cell hnew 0
  have b1 := row_cell hnew 1
  have b2 := row_cell hnew 2
  have b3 := row_cell hnew 3
  have b4 := row_cell hnew 4
  have b5 := row_cell hnew 5
  have b6 := row_cell hnew 6
  simp at b0 b1 b2 b3 b4 b5 b6
  have f0 := row_frozen hnew 0
  have f1 := row_frozen hnew 1
  have f2 := row_frozen hnew 2
  have f3 := row_frozen hnew 3
  have f4 := row_frozen hnew 4
  have f5 := row_frozen hnew 5
  have f6 := row_frozen hnew 6
  refine wpAnyH_ready (rs := [14]) (by kernel_rfl) (by simp) ?_
  refine AllReadyH.cons (o := ?_) ?_ (fun K hK => ?_) AllReadyH.nil
  rotate_left
  · (simp only [List.getElem?_toArray, List.getElem?_cons_succ, List.getElem?_cons_zero]; rfl)
  go_simp
  have hset := cset7_row hnew (.int .i64 c.p) (.int .i64 c.o) (.int .i64 c.q) (.slice Ac c.r.length cc) (.int .i64 c.c) (.int .i64 c.b) (.int .i64 c.e)
  have hbs := cset7_below (Below.refl cb wa) (Nat.le_refl cb) (.int .i64 c.p) (.int .i64 c.o) (.int .i64 c.q) (.slice Ac c.r.length cc) (.int .i64 c.c) (.int .i64 c.b) (.int .i64 c.e)
  have hSx : (fun w' => Below wx.heap.size wx w' ∧ (w'.cell? ⟨fb, 0, none⟩ = some (.int .i64 n) ∧ w'.cell? ⟨fb, 1, none⟩ = some (.slice (some ⟨eb, eo, none⟩) LP cP) ∧ w'.cell? ⟨fb, 2, none⟩ = some (.slice AT LT cT) ∧ w'.cell? ⟨fb, 3, none⟩ = some (.slice AI LI cI)) ∧ (w'.cell? ⟨sb, 0, none⟩ = some (.int .i64 (s.a : Int)) ∧ w'.cell? ⟨sb, 1, none⟩ = some (.int .i64 (s.b : Int)) ∧ w'.cell? ⟨sb, 2, none⟩ = some (.int .i64 (s.i : Int)) ∧ w'.cell? ⟨sb, 3, none⟩ = some (.int .i64 (s.o : Int))) ∧ (w'.cell? ⟨eb, eo + s.a * 7, none⟩ = some (.int .i64 c.p) ∧ w'.cell? ⟨eb, eo + s.a * 7 + 1, none⟩ = some (.int .i64 c.o) ∧ w'.cell? ⟨eb, eo + s.a * 7 + 2, none⟩ = some (.int .i64 c.q) ∧ w'.cell? ⟨eb, eo + s.a * 7 + 3, none⟩ = some (.slice Ac c.r.length cc) ∧ w'.cell? ⟨eb, eo + s.a * 7 + 4, none⟩ = some (.int .i64 c.c) ∧ w'.cell? ⟨eb, eo + s.a * 7 + 5, none⟩ = some (.int .i64 c.b) ∧ w'.cell? ⟨eb, eo + s.a * 7 + 6, none⟩ = some (.int .i64 c.e))) (cset7 wa cb (.int .i64 c.p) (.int .i64 c.o) (.int .i64 c.q) (.slice Ac c.r.length cc) (.int .i64 c.c) (.int .i64 c.b) (.int .i64 c.e)) := ⟨hHeld.1.trans (hbs.mono hcz), f4_low hHeld.2.1 hbs (by omega), f4_low hHeld.2.2.1 hbs (by omega), cl7_low hHeld.2.2.2 hbs (by omega)⟩
  unfold cset7 at hset
  obtain ⟨wc, hwc⟩ : ∃ x, ((((((wa.setCell ⟨cb, 0, none⟩ (.int .i64 c.p)).setCell ⟨cb, 1, none⟩ (.int .i64 c.o)).setCell ⟨cb, 2, none⟩ (.int .i64 c.q)).setCell ⟨cb, 3, none⟩ (.slice Ac c.r.length cc)).setCell ⟨cb, 4, none⟩ (.int .i64 c.c)).setCell ⟨cb, 5, none⟩ (.int .i64 c.b)).setCell ⟨cb, 6, none⟩ (.int .i64 c.e) = x := ⟨_, rfl⟩
  have hSx2 : (fun w' => Below wx.heap.size wx w' ∧ (w'.cell? ⟨fb, 0, none⟩ = some (.int .i64 n) ∧ w'.cell? ⟨fb, 1, none⟩ = some (.slice (some ⟨eb, eo, none⟩) LP cP) ∧ w'.cell? ⟨fb, 2, none⟩ = some (.slice AT LT cT) ∧ w'.cell? ⟨fb, 3, none⟩ = some (.slice AI LI cI)) ∧ (w'.cell? ⟨sb, 0, none⟩ = some (.int .i64 (s.a : Int)) ∧ w'.cell? ⟨sb, 1, none⟩ = some (.int .i64 (s.b : Int)) ∧ w'.cell? ⟨sb, 2, none⟩ = some (.int .i64 (s.i : Int)) ∧ w'.cell? ⟨sb, 3, none⟩ = some (.int .i64 (s.o : Int))) ∧ (w'.cell? ⟨eb, eo + s.a * 7, none⟩ = some (.int .i64 c.p) ∧ w'.cell? ⟨eb, eo + s.a * 7 + 1, none⟩ = some (.int .i64 c.o) ∧ w'.cell? ⟨eb, eo + s.a * 7 + 2, none⟩ = some (.int .i64 c.q) ∧ w'.cell? ⟨eb, eo + s.a * 7 + 3, none⟩ = some (.slice Ac c.r.length cc) ∧ w'.cell? ⟨eb, eo + s.a * 7 + 4, none⟩ = some (.int .i64 c.c) ∧ w'.cell? ⟨eb, eo + s.a * 7 + 5, none⟩ = some (.int .i64 c.b) ∧ w'.cell? ⟨eb, eo + s.a * 7 + 6, none⟩ = some (.int .i64 c.e))) wc := by rw [← hwc]; exact hSx
  rw [hwc] at hset ⊢
  clear hwc hSx hbs
  have hSx := hSx2
  refine hK.out _ _ hSx (fun hHeld => ?_)
  clear hK K
  try first | simp only [pS, List.set] | simp only [pN]
  refine tkH 15 ?_
  try first | simp only [pS, List.set] | simp only [pN]
  refine wpAnyH_done (by kernel_rfl) ?_ _
  have hSc := row_kept hSB hHeld.1
  have hRc := row_kept hR hHeld.1
  have hBc := hB3.trans (hHeld.1.mono (by omega))
  have hFc := hHeld.2.1
  have hcs := row_lt hset
  clear hSd hSx hHeld hSx2 hH3 HH c0 c1 c2 c3 hSB hR hB3 hnew b0 b1 b2 b3 b4 b5 b6 f0 f1 f2 f3 f4 f5 f6
  have d0 := row_cell hset 0
  have d1 := row_cell hset 1
  have d2 := row_cell hset 2
  have d3 := row_cell hset 3
  have d4 := row_cell hset 4
  have d5 := row_cell hset 5
  have d6 := row_cell hset 6
  simp at d0 d1 d2 d3 d4 d5 d6
  have c0 := row_cell hSc 0
  have c1 := row_cell hSc 1
  have c2 := row_cell hSc 2
  have c3 := row_cell hSc 3
  simp at c0 c1 c2 c3
  have f0 := row_frozen hSc 0
  have f1 := row_frozen hSc 1
  have f2 := row_frozen hSc 2
  have f3 := row_frozen hSc 3
  have hcne : cb ≠ sb := by omega
  have hcne2 : sb ≠ cb := by omega
  have hfs : fb ≠ sb := by omega
  have hrs : sb + 1 ≠ sb := by omega
  have hcr : cb ≠ sb + 1 := by omega
  have hS4 : (wc.setCell ⟨sb, 0, none⟩ (.int .i64 ((s.a : Int) + 1))).heap[sb]? = some (.cells #[.int .i64 ((s.a : Int) + 1), .int .i64 (s.b : Int), .int .i64 (s.i : Int), .int .i64 (s.o : Int)] 48 (0, 0)) := by simpa using lrow_set wc sb _ _ 0 (.int .i64 ((s.a : Int) + 1)) hSc
  have hR4 := row_other hRc sb 0 (.int .i64 ((s.a : Int) + 1)) hrs
  have hF4 := f4_other (j := 0) (x := .int .i64 ((s.a : Int) + 1)) hFc hfs
  have hC4 := row_other hset sb 0 (.int .i64 ((s.a : Int) + 1)) hcne
  have hB4 := hBc.setCell (p := ⟨sb, 0, none⟩) (Nat.le_refl _) (.int .i64 ((s.a : Int) + 1))
  have HS := Lib.hid hS4
  have HR := Lib.hid hR4
  have HF := Lib.hid hF4
  have HC := Lib.hid hC4
  have HB := Lib.hid hB4
  clear hS4 hR4 hF4 hC4 hB4
  clear hSc hRc hFc hBc
  have HSET := Lib.hid hset
  clear hset
  go_wp2_with fail
  obtain ⟨w4, hw4⟩ : ∃ x, wc.setCell ⟨sb, 0, none⟩ (.int .i64 ((s.a : Int) + 1)) = x := ⟨_, rfl⟩
  have hS := HS.out
  have hR := HR.out
  have hF := HF.out
  have hC := HC.out
  have hB := HB.out
  rw [hw4] at hS hR hF hC hB ⊢
  clear hw4 HS HR HF HC HB HSET d0 d1 d2 d3 d4 d5 d6 c0 c1 c2 c3 f0 f1 f2 f3
  have hSd : (fun w' => Below sb W w' ∧ (w'.cell? ⟨fb, 0, none⟩ = some (.int .i64 n) ∧ w'.cell? ⟨fb, 1, none⟩ = some (.slice (some ⟨eb, eo, none⟩) LP cP) ∧ w'.cell? ⟨fb, 2, none⟩ = some (.slice AT LT cT) ∧ w'.cell? ⟨fb, 3, none⟩ = some (.slice AI LI cI)) ∧ (w'.cell? ⟨sb, 0, none⟩ = some (.int .i64 ((s.a : Int) + 1)) ∧ w'.cell? ⟨sb, 1, none⟩ = some (.int .i64 (s.b : Int)) ∧ w'.cell? ⟨sb, 2, none⟩ = some (.int .i64 (s.i : Int)) ∧ w'.cell? ⟨sb, 3, none⟩ = some (.int .i64 (s.o : Int)))) w4.drew := ⟨hB.drew, hF, SpC hS⟩
  refine wp_region_held_drew (S := (fun w' => Below sb W w' ∧ (w'.cell? ⟨fb, 0, none⟩ = some (.int .i64 n) ∧ w'.cell? ⟨fb, 1, none⟩ = some (.slice (some ⟨eb, eo, none⟩) LP cP) ∧ w'.cell? ⟨fb, 2, none⟩ = some (.slice AT LT cT) ∧ w'.cell? ⟨fb, 3, none⟩ = some (.slice AI LI cI)) ∧ (w'.cell? ⟨sb, 0, none⟩ = some (.int .i64 ((s.a : Int) + 1)) ∧ w'.cell? ⟨sb, 1, none⟩ = some (.int .i64 (s.b : Int)) ∧ w'.cell? ⟨sb, 2, none⟩ = some (.int .i64 (s.i : Int)) ∧ w'.cell? ⟨sb, 3, none⟩ = some (.int .i64 (s.o : Int))))) (by kernel_rfl) hSd (fun hHeld => ?_)
  obtain ⟨wd, hwd⟩ : ∃ x, w4.drew = x := ⟨_, rfl⟩
  replace hR := (show wd.heap[sb + 1]? = w4.heap[sb + 1]? from by rw [← hwd]; rfl).trans hR
  rw [hwd] at hHeld ⊢
  clear hwd hSd hB hF hS
  have hHeld : (fun w' => Below sb W w' ∧ (w'.cell? ⟨fb, 0, none⟩ = some (.int .i64 n) ∧ w'.cell? ⟨fb, 1, none⟩ = some (.slice (some ⟨eb, eo, none⟩) LP cP) ∧ w'.cell? ⟨fb, 2, none⟩ = some (.slice AT LT cT) ∧ w'.cell? ⟨fb, 3, none⟩ = some (.slice AI LI cI)) ∧ (w'.cell? ⟨sb, 0, none⟩ = some (.int .i64 ((s.a : Int) + 1)) ∧ w'.cell? ⟨sb, 1, none⟩ = some (.int .i64 (s.b : Int)) ∧ w'.cell? ⟨sb, 2, none⟩ = some (.int .i64 (s.i : Int)) ∧ w'.cell? ⟨sb, 3, none⟩ = some (.int .i64 (s.o : Int)))) wd := hHeld
  refine tkH 0 ?_
  try first | simp only [pS, List.set] | simp only [pN]
  refine tkH 1 ?_
  try first | simp only [pS, List.set] | simp only [pN]
  refine tkH 2 ?_
  try first | simp only [pS, List.set] | simp only [pN]
  refine tkH 3 ?_
  try first | simp only [pS, List.set] | simp only [pN]
  refine tkH 4 ?_
  try first | simp only [pS, List.set] | simp only [pN]
  refine tkH 5 ?_
  try first | simp only [pS, List.set] | simp only [pN]
  refine tkH 6 ?_
  try first | simp only [pS, List.set] | simp only [pN]
  have f0 := row_frozen hR 0
  have f1 := row_frozen hR 1
  have f2 := row_frozen hR 2
  have f3 := row_frozen hR 3
  have z0 := row_cell hR 0
  have z1 := row_cell hR 1
  have z2 := row_cell hR 2
  have z3 := row_cell hR 3
  simp at z0 z1 z2 z3
  refine wpAnyH_ready (rs := [7]) (by kernel_rfl) (by simp) ?_
  refine AllReadyH.cons (o := ?_) ?_ (fun K hK => ?_) AllReadyH.nil
  rotate_left
  · (simp only [List.getElem?_toArray, List.getElem?_cons_succ, List.getElem?_cons_zero]; rfl)
  go_simp
  have hfin := sset4_row hR (.int .i64 ((s.a : Int) + 1)) (.int .i64 (s.b : Int)) (.int .i64 (s.i : Int)) (.int .i64 (s.o : Int))
  have hSx : (fun w' => Below sb W w' ∧ (w'.cell? ⟨fb, 0, none⟩ = some (.int .i64 n) ∧ w'.cell? ⟨fb, 1, none⟩ = some (.slice (some ⟨eb, eo, none⟩) LP cP) ∧ w'.cell? ⟨fb, 2, none⟩ = some (.slice AT LT cT) ∧ w'.cell? ⟨fb, 3, none⟩ = some (.slice AI LI cI)) ∧ (w'.cell? ⟨sb, 0, none⟩ = some (.int .i64 ((s.a : Int) + 1)) ∧ w'.cell? ⟨sb, 1, none⟩ = some (.int .i64 (s.b : Int)) ∧ w'.cell? ⟨sb, 2, none⟩ = some (.int .i64 (s.i : Int)) ∧ w'.cell? ⟨sb, 3, none⟩ = some (.int .i64 (s.o : Int)))) (sset4 wd (sb + 1) (.int .i64 ((s.a : Int) + 1)) (.int .i64 (s.b : Int)) (.int .i64 (s.i : Int)) (.int .i64 (s.o : Int))) := ⟨sset4_below hHeld.1 (by omega) _ _ _ _, f4_sset hHeld.2.1 (by omega), f4_sset hHeld.2.2 (by omega)⟩
  refine hK.out _ _ hSx (fun hHeld => ?_)
  clear hK K
  try first | simp only [pS, List.set] | simp only [pN]
  refine tkH 8 ?_
  try first | simp only [pS, List.set] | simp only [pN]
  refine wpAnyH_done (by kernel_rfl) ?_ _
  go_wp2_with fail
  refine bodyPost_ret (res_put _ _ (s := ⟨s.a + 1, s.b, s.i, s.o⟩) (ok := ((s.i : Int) - (s.o : Int)) == n) rfl rfl hfin) rfl ?_
  exact ⟨_, _, rfl, HST.out, by rw [hsb]; exact hHeld.1⟩

set_option maxRecDepth 100000 in
set_option maxHeartbeats 4000000 in
theorem fput_3 {n : Int} {P T : List Cl} {s : Sp} (hs : Inv n P T s) (hP : P.length ≤ 60) (hT : T.length ≤ 60) {fb bm cP cT LI cI : Nat} {AP AT AI : Option Addr} {vE : Value} (hcP : P.length ≤ cP) (hcT : T.length ≤ cT) (W : World)
    (hF : FBox W fb n AP P.length cP AT T.length cT AI LI cI bm vE) (hlP : ClSl W W.heap.size AP P) (hlT : ClSl W W.heap.size AT T) {c : Cl} (hc : P[s.a]? = some c) (hm : mayB c (T.drop s.b) = true) (he : c.e < 0) :
    Calls Try.prog 34 #[.pointer (some ⟨fb, 0, none⟩), spV s] W (PutR (stepP n P T s) W) := by
  have huse := And.intro hP (And.intro hT (And.intro hcP (And.intro hcT (And.intro hlP hlT))))
  clear huse
  obtain ⟨LP, hLP⟩ : ∃ x, P.length = x := ⟨_, rfl⟩
  obtain ⟨LT, hLT⟩ : ∃ x, T.length = x := ⟨_, rfl⟩
  have s1 := hs.a
  have s2 := hs.b
  have s3 := hs.oi
  have s4 : s.i ≤ 60 := by rw [hs.i]; exact Nat.le_trans List.countP_le_length (by rw [List.length_take]; omega)
  rw [hLP] at hF s1 hP hcP
  rw [hLT] at hF s2 hT hcT
  have HST := Lib.hid (show stepP n P T s = (if (decide (((s.i : Int) - (s.o : Int)) < n)) = true then some ⟨s.a + 1, s.b, s.i + 1, s.o⟩ else none) by unfold stepP; rw [hc]; simp [hm, show ful c = false by simp [ful, opn, he]])
  have hlto : s.a < LP := by rw [← hLP]; exact get_lt hc
  obtain ⟨eb, eo, Ac, cc, hAP, hebl, hec, hcw, hcc1, hcc2⟩ := hlP s.a c hc
  have hsl := fun W => slice_calls AT LT cT s.b s2 W
  have htl := hlT.tail (c := cT) (n := s.b) (by rw [hLT]; exact hcT) (by rw [hLT]; exact s2)
  obtain ⟨A2, hA2⟩ : ∃ x, (if cT = s.b then AT else AT.map (·.add (s.b * 7))) = x := ⟨_, rfl⟩
  rw [hA2] at hsl htl
  have hmay := fun (W' : World) (hb : Below W.heap.size W W') => lmay_any c Ac A2 cc (cT - s.b) (T.drop s.b) W' (by rw [List.length_drop]; omega) (htl.below hb hb.size)
  rw [List.length_drop, hLT, hm] at hmay
  subst hAP
  have h0i : ((s.a : Int) == (LP : Int)) = false := by simp; omega
  have hltoi : (s.a : Int) < (LP : Int) := by omega
  have hlt2i : (s.b : Int) ≤ (LT : Int) := by omega
  have hwr : IntKind.i64.wrap ((s.i : Int) - (s.o : Int)) = ((s.i : Int) - (s.o : Int)) := IntWalk.i64_in _ (by omega)
  unfold clV at hmay
  have HMAY := Lib.hid hmay
  have HCW := Lib.hid hcw
  clear hmay htl hcw hA2 hlP hlT hLP hLT hs hc hm
  have hb1 := (Below.refl W.heap.size W).alloc (Nat.le_refl _) (.cells #[.int .i64 (s.a : Int), .int .i64 (s.b : Int), .int .i64 (s.i : Int), .int .i64 (s.o : Int)] 48)
  have hb2 := hb1.alloc hb1.size (.cells #[.int .i64 0, .int .i64 0, .int .i64 0, .int .i64 0] 48)
  have hs1 := heap_alloc_new W (.cells #[.int .i64 (s.a : Int), .int .i64 (s.b : Int), .int .i64 (s.i : Int), .int .i64 (s.o : Int)] 48)
  have hs2 := row_kept hs1 ((Below.refl _ _).alloc (Nat.le_refl _) (.cells #[.int .i64 0, .int .i64 0, .int .i64 0, .int .i64 0] 48))
  have hr2 := heap_alloc_new (W.alloc (.cells #[.int .i64 (s.a : Int), .int .i64 (s.b : Int), .int .i64 (s.i : Int), .int .i64 (s.o : Int)] 48)) (.cells #[.int .i64 0, .int .i64 0, .int .i64 0, .int .i64 0] 48)
  have hf2 := row_kept hF hb2
  rw [World.size_alloc] at hr2
  have hlt := row_lt hF
  have hsz2 : W.heap.size + 2 ≤ ((W.alloc (.cells #[.int .i64 (s.a : Int), .int .i64 (s.b : Int), .int .i64 (s.i : Int), .int .i64 (s.o : Int)] 48)).alloc (.cells #[.int .i64 0, .int .i64 0, .int .i64 0, .int .i64 0] 48)).heap.size := by rw [World.size_alloc, World.size_alloc]; omega
  clear hs1 hb1 hF
  unfold spV
  obtain ⟨sb, hsb⟩ : ∃ x, W.heap.size = x := ⟨_, rfl⟩
  rw [hsb] at hs2 hr2 hb2 hlt hsz2
  have hebl : eb < sb := by omega
  go_enter Try.func34, Try.ntmps34
  go_wp2_with fail
  obtain ⟨W2, hW2⟩ : ∃ x, (W.alloc (.cells #[.int .i64 (s.a : Int), .int .i64 (s.b : Int), .int .i64 (s.i : Int), .int .i64 (s.o : Int)] 48)).alloc (.cells #[.int .i64 0, .int .i64 0, .int .i64 0, .int .i64 0] 48) = x := ⟨_, rfl⟩
  rw [hW2] at hs2 hr2 hb2 hf2 hsz2 ⊢
  clear hW2
  have hec2 := cl7_low hec hb2 hebl
  have hc2 := FBox.cells hf2
  have hp2 := SpBox.cells hs2
  clear hec
  have hSd : (fun w' => Below W2.heap.size W2 w' ∧ (w'.cell? ⟨fb, 0, none⟩ = some (.int .i64 n) ∧ w'.cell? ⟨fb, 1, none⟩ = some (.slice (some ⟨eb, eo, none⟩) LP cP) ∧ w'.cell? ⟨fb, 2, none⟩ = some (.slice AT LT cT) ∧ w'.cell? ⟨fb, 3, none⟩ = some (.slice AI LI cI)) ∧ (w'.cell? ⟨sb, 0, none⟩ = some (.int .i64 (s.a : Int)) ∧ w'.cell? ⟨sb, 1, none⟩ = some (.int .i64 (s.b : Int)) ∧ w'.cell? ⟨sb, 2, none⟩ = some (.int .i64 (s.i : Int)) ∧ w'.cell? ⟨sb, 3, none⟩ = some (.int .i64 (s.o : Int))) ∧ (w'.cell? ⟨eb, eo + s.a * 7, none⟩ = some (.int .i64 c.p) ∧ w'.cell? ⟨eb, eo + s.a * 7 + 1, none⟩ = some (.int .i64 c.o) ∧ w'.cell? ⟨eb, eo + s.a * 7 + 2, none⟩ = some (.int .i64 c.q) ∧ w'.cell? ⟨eb, eo + s.a * 7 + 3, none⟩ = some (.slice Ac c.r.length cc) ∧ w'.cell? ⟨eb, eo + s.a * 7 + 4, none⟩ = some (.int .i64 c.c) ∧ w'.cell? ⟨eb, eo + s.a * 7 + 5, none⟩ = some (.int .i64 c.b) ∧ w'.cell? ⟨eb, eo + s.a * 7 + 6, none⟩ = some (.int .i64 c.e))) W2.drew := ⟨(Below.refl _ W2).drew, ⟨hc2.1, hc2.2.1, hc2.2.2.1, hc2.2.2.2.1⟩, hp2, hec2⟩
  refine wp_region_held_drew (S := (fun w' => Below W2.heap.size W2 w' ∧ (w'.cell? ⟨fb, 0, none⟩ = some (.int .i64 n) ∧ w'.cell? ⟨fb, 1, none⟩ = some (.slice (some ⟨eb, eo, none⟩) LP cP) ∧ w'.cell? ⟨fb, 2, none⟩ = some (.slice AT LT cT) ∧ w'.cell? ⟨fb, 3, none⟩ = some (.slice AI LI cI)) ∧ (w'.cell? ⟨sb, 0, none⟩ = some (.int .i64 (s.a : Int)) ∧ w'.cell? ⟨sb, 1, none⟩ = some (.int .i64 (s.b : Int)) ∧ w'.cell? ⟨sb, 2, none⟩ = some (.int .i64 (s.i : Int)) ∧ w'.cell? ⟨sb, 3, none⟩ = some (.int .i64 (s.o : Int))) ∧ (w'.cell? ⟨eb, eo + s.a * 7, none⟩ = some (.int .i64 c.p) ∧ w'.cell? ⟨eb, eo + s.a * 7 + 1, none⟩ = some (.int .i64 c.o) ∧ w'.cell? ⟨eb, eo + s.a * 7 + 2, none⟩ = some (.int .i64 c.q) ∧ w'.cell? ⟨eb, eo + s.a * 7 + 3, none⟩ = some (.slice Ac c.r.length cc) ∧ w'.cell? ⟨eb, eo + s.a * 7 + 4, none⟩ = some (.int .i64 c.c) ∧ w'.cell? ⟨eb, eo + s.a * 7 + 5, none⟩ = some (.int .i64 c.b) ∧ w'.cell? ⟨eb, eo + s.a * 7 + 6, none⟩ = some (.int .i64 c.e)))) (by kernel_rfl) hSd (fun hHeld => ?_)
  generalize W2.drew = wd at hHeld ⊢
  have hHeld : (fun w' => Below W2.heap.size W2 w' ∧ (w'.cell? ⟨fb, 0, none⟩ = some (.int .i64 n) ∧ w'.cell? ⟨fb, 1, none⟩ = some (.slice (some ⟨eb, eo, none⟩) LP cP) ∧ w'.cell? ⟨fb, 2, none⟩ = some (.slice AT LT cT) ∧ w'.cell? ⟨fb, 3, none⟩ = some (.slice AI LI cI)) ∧ (w'.cell? ⟨sb, 0, none⟩ = some (.int .i64 (s.a : Int)) ∧ w'.cell? ⟨sb, 1, none⟩ = some (.int .i64 (s.b : Int)) ∧ w'.cell? ⟨sb, 2, none⟩ = some (.int .i64 (s.i : Int)) ∧ w'.cell? ⟨sb, 3, none⟩ = some (.int .i64 (s.o : Int))) ∧ (w'.cell? ⟨eb, eo + s.a * 7, none⟩ = some (.int .i64 c.p) ∧ w'.cell? ⟨eb, eo + s.a * 7 + 1, none⟩ = some (.int .i64 c.o) ∧ w'.cell? ⟨eb, eo + s.a * 7 + 2, none⟩ = some (.int .i64 c.q) ∧ w'.cell? ⟨eb, eo + s.a * 7 + 3, none⟩ = some (.slice Ac c.r.length cc) ∧ w'.cell? ⟨eb, eo + s.a * 7 + 4, none⟩ = some (.int .i64 c.c) ∧ w'.cell? ⟨eb, eo + s.a * 7 + 5, none⟩ = some (.int .i64 c.b) ∧ w'.cell? ⟨eb, eo + s.a * 7 + 6, none⟩ = some (.int .i64 c.e))) wd := hHeld
  refine tkH 0 ?_
  try first | simp only [pS, List.set] | simp only [pN]
  refine tkH 1 ?_
  try first | simp only [pS, List.set] | simp only [pN]
  refine tkH 2 ?_
  try first | simp only [pS, List.set] | simp only [pN]
  refine tkH 3 ?_
  try first | simp only [pS, List.set] | simp only [pN]
  refine tkH 4 ?_
  try first | simp only [pS, List.set] | simp only [pN]
  refine tkH 5 ?_
  try first | simp only [pS, List.set] | simp only [pN]
  refine tkH 6 ?_
  try first | simp only [pS, List.set] | simp only [pN]
  refine tkH 7 ?_
  try first | simp only [pS, List.set] | simp only [pN]
  refine tkH 8 ?_
  try first | simp only [pS, List.set] | simp only [pN]
  refine tkH 9 ?_
  try first | simp only [pS, List.set] | simp only [pN]
  refine tkH 10 ?_
  try first | simp only [pS, List.set] | simp only [pN]
  refine tkH 11 ?_
  try first | simp only [pS, List.set] | simp only [pN]
  refine tkH 12 ?_
  try first | simp only [pS, List.set] | simp only [pN]
  refine tkH 13 ?_
  try first | simp only [pS, List.set] | simp only [pN]
  refine tkH 14 ?_
  try first | simp only [pS, List.set] | simp only [pN]
  refine tkH 15 ?_
  try first | simp only [pS, List.set] | simp only [pN]
  refine tkH 16 ?_
  try first | simp only [pS, List.set] | simp only [pN]
  refine tkH 17 ?_
  try first | simp only [pS, List.set] | simp only [pN]
  refine tkH 18 ?_
  try first | simp only [pS, List.set] | simp only [pN]
  refine tkH 19 ?_
  try first | simp only [pS, List.set] | simp only [pN]
  refine tkH 20 ?_
  try first | simp only [pS, List.set] | simp only [pN]
  refine tkH 21 ?_
  try first | simp only [pS, List.set] | simp only [pN]
  refine tkH 22 ?_
  try first | simp only [pS, List.set] | simp only [pN]
  refine tkH 23 ?_
  try first | simp only [pS, List.set] | simp only [pN]
  refine wpAnyH_ready (rs := [24]) (by kernel_rfl) (by simp) ?_
  refine AllReadyH.cons (o := ?_) ?_ (fun K hK => ?_) AllReadyH.nil
  rotate_left
  · (simp only [List.getElem?_toArray, List.getElem?_cons_succ, List.getElem?_cons_zero]; rfl)
  go_simp
  go_at_call 48
  refine (HMAY.out _ (by rw [hsb]; exact hb2.trans (hHeld.1.mono (by omega)))).mono ?_
  rintro e wx ⟨rfl, hbx⟩
  have hSx : (fun w' => Below W2.heap.size W2 w' ∧ (w'.cell? ⟨fb, 0, none⟩ = some (.int .i64 n) ∧ w'.cell? ⟨fb, 1, none⟩ = some (.slice (some ⟨eb, eo, none⟩) LP cP) ∧ w'.cell? ⟨fb, 2, none⟩ = some (.slice AT LT cT) ∧ w'.cell? ⟨fb, 3, none⟩ = some (.slice AI LI cI)) ∧ (w'.cell? ⟨sb, 0, none⟩ = some (.int .i64 (s.a : Int)) ∧ w'.cell? ⟨sb, 1, none⟩ = some (.int .i64 (s.b : Int)) ∧ w'.cell? ⟨sb, 2, none⟩ = some (.int .i64 (s.i : Int)) ∧ w'.cell? ⟨sb, 3, none⟩ = some (.int .i64 (s.o : Int))) ∧ (w'.cell? ⟨eb, eo + s.a * 7, none⟩ = some (.int .i64 c.p) ∧ w'.cell? ⟨eb, eo + s.a * 7 + 1, none⟩ = some (.int .i64 c.o) ∧ w'.cell? ⟨eb, eo + s.a * 7 + 2, none⟩ = some (.int .i64 c.q) ∧ w'.cell? ⟨eb, eo + s.a * 7 + 3, none⟩ = some (.slice Ac c.r.length cc) ∧ w'.cell? ⟨eb, eo + s.a * 7 + 4, none⟩ = some (.int .i64 c.c) ∧ w'.cell? ⟨eb, eo + s.a * 7 + 5, none⟩ = some (.int .i64 c.b) ∧ w'.cell? ⟨eb, eo + s.a * 7 + 6, none⟩ = some (.int .i64 c.e))) wx := ⟨hHeld.1.trans (hbx.mono hHeld.1.size), f4_below hHeld.2.1 hbx, f4_below hHeld.2.2.1 hbx, cl7_below hHeld.2.2.2 hbx⟩
  refine hK.out _ _ hSx (fun hHeld => ?_)
  clear hK K
  try first | simp only [pS, List.set] | simp only [pN]
  refine tkH 25 ?_
  try first | simp only [pS, List.set] | simp only [pN]
  refine tkH 26 ?_
  try first | simp only [pS, List.set] | simp only [pN]
  refine wpAnyH_done (by kernel_rfl) ?_ _
  have hSB := row_kept hs2 hHeld.1
  have hR := row_kept hr2 hHeld.1
  have hB3 := hb2.trans (hHeld.1.mono (by omega))
  have hsx : sb + 2 ≤ wx.heap.size := Nat.le_trans hsz2 hHeld.1.size
  have hH3 := hHeld.2
  have HH := Lib.hid hHeld
  clear hSd hSx hHeld hs2 hr2 hb2 hf2 hc2 hp2 hec2 HMAY hsl hsz2
  obtain ⟨c0, c1, c2, c3⟩ := hH3.2.1
  go_wp2_with fail
  have hSd : (fun w' => Below wx.heap.size wx w' ∧ (w'.cell? ⟨fb, 0, none⟩ = some (.int .i64 n) ∧ w'.cell? ⟨fb, 1, none⟩ = some (.slice (some ⟨eb, eo, none⟩) LP cP) ∧ w'.cell? ⟨fb, 2, none⟩ = some (.slice AT LT cT) ∧ w'.cell? ⟨fb, 3, none⟩ = some (.slice AI LI cI)) ∧ (w'.cell? ⟨sb, 0, none⟩ = some (.int .i64 (s.a : Int)) ∧ w'.cell? ⟨sb, 1, none⟩ = some (.int .i64 (s.b : Int)) ∧ w'.cell? ⟨sb, 2, none⟩ = some (.int .i64 (s.i : Int)) ∧ w'.cell? ⟨sb, 3, none⟩ = some (.int .i64 (s.o : Int))) ∧ (w'.cell? ⟨eb, eo + s.a * 7, none⟩ = some (.int .i64 c.p) ∧ w'.cell? ⟨eb, eo + s.a * 7 + 1, none⟩ = some (.int .i64 c.o) ∧ w'.cell? ⟨eb, eo + s.a * 7 + 2, none⟩ = some (.int .i64 c.q) ∧ w'.cell? ⟨eb, eo + s.a * 7 + 3, none⟩ = some (.slice Ac c.r.length cc) ∧ w'.cell? ⟨eb, eo + s.a * 7 + 4, none⟩ = some (.int .i64 c.c) ∧ w'.cell? ⟨eb, eo + s.a * 7 + 5, none⟩ = some (.int .i64 c.b) ∧ w'.cell? ⟨eb, eo + s.a * 7 + 6, none⟩ = some (.int .i64 c.e))) wx.drew := ⟨(Below.refl _ wx).drew, hH3⟩
  refine wp_region_held_drew (S := (fun w' => Below wx.heap.size wx w' ∧ (w'.cell? ⟨fb, 0, none⟩ = some (.int .i64 n) ∧ w'.cell? ⟨fb, 1, none⟩ = some (.slice (some ⟨eb, eo, none⟩) LP cP) ∧ w'.cell? ⟨fb, 2, none⟩ = some (.slice AT LT cT) ∧ w'.cell? ⟨fb, 3, none⟩ = some (.slice AI LI cI)) ∧ (w'.cell? ⟨sb, 0, none⟩ = some (.int .i64 (s.a : Int)) ∧ w'.cell? ⟨sb, 1, none⟩ = some (.int .i64 (s.b : Int)) ∧ w'.cell? ⟨sb, 2, none⟩ = some (.int .i64 (s.i : Int)) ∧ w'.cell? ⟨sb, 3, none⟩ = some (.int .i64 (s.o : Int))) ∧ (w'.cell? ⟨eb, eo + s.a * 7, none⟩ = some (.int .i64 c.p) ∧ w'.cell? ⟨eb, eo + s.a * 7 + 1, none⟩ = some (.int .i64 c.o) ∧ w'.cell? ⟨eb, eo + s.a * 7 + 2, none⟩ = some (.int .i64 c.q) ∧ w'.cell? ⟨eb, eo + s.a * 7 + 3, none⟩ = some (.slice Ac c.r.length cc) ∧ w'.cell? ⟨eb, eo + s.a * 7 + 4, none⟩ = some (.int .i64 c.c) ∧ w'.cell? ⟨eb, eo + s.a * 7 + 5, none⟩ = some (.int .i64 c.b) ∧ w'.cell? ⟨eb, eo + s.a * 7 + 6, none⟩ = some (.int .i64 c.e)))) (by kernel_rfl) hSd (fun hHeld => ?_)
  generalize wx.drew = wd at hHeld ⊢
  have hHeld : (fun w' => Below wx.heap.size wx w' ∧ (w'.cell? ⟨fb, 0, none⟩ = some (.int .i64 n) ∧ w'.cell? ⟨fb, 1, none⟩ = some (.slice (some ⟨eb, eo, none⟩) LP cP) ∧ w'.cell? ⟨fb, 2, none⟩ = some (.slice AT LT cT) ∧ w'.cell? ⟨fb, 3, none⟩ = some (.slice AI LI cI)) ∧ (w'.cell? ⟨sb, 0, none⟩ = some (.int .i64 (s.a : Int)) ∧ w'.cell? ⟨sb, 1, none⟩ = some (.int .i64 (s.b : Int)) ∧ w'.cell? ⟨sb, 2, none⟩ = some (.int .i64 (s.i : Int)) ∧ w'.cell? ⟨sb, 3, none⟩ = some (.int .i64 (s.o : Int))) ∧ (w'.cell? ⟨eb, eo + s.a * 7, none⟩ = some (.int .i64 c.p) ∧ w'.cell? ⟨eb, eo + s.a * 7 + 1, none⟩ = some (.int .i64 c.o) ∧ w'.cell? ⟨eb, eo + s.a * 7 + 2, none⟩ = some (.int .i64 c.q) ∧ w'.cell? ⟨eb, eo + s.a * 7 + 3, none⟩ = some (.slice Ac c.r.length cc) ∧ w'.cell? ⟨eb, eo + s.a * 7 + 4, none⟩ = some (.int .i64 c.c) ∧ w'.cell? ⟨eb, eo + s.a * 7 + 5, none⟩ = some (.int .i64 c.b) ∧ w'.cell? ⟨eb, eo + s.a * 7 + 6, none⟩ = some (.int .i64 c.e))) wd := hHeld
  refine tkH 0 ?_
  try first | simp only [pS, List.set] | simp only [pN]
  refine tkH 1 ?_
  try first | simp only [pS, List.set] | simp only [pN]
  refine tkH 2 ?_
  try first | simp only [pS, List.set] | simp only [pN]
  refine tkH 3 ?_
  try first | simp only [pS, List.set] | simp only [pN]
  refine tkH 4 ?_
  try first | simp only [pS, List.set] | simp only [pN]
  refine tkH 5 ?_
  try first | simp only [pS, List.set] | simp only [pN]
  refine tkH 6 ?_
  try first | simp only [pS, List.set] | simp only [pN]
  refine tkH 7 ?_
  try first | simp only [pS, List.set] | simp only [pN]
  refine tkH 8 ?_
  try first | simp only [pS, List.set] | simp only [pN]
  refine tkH 9 ?_
  try first | simp only [pS, List.set] | simp only [pN]
  refine tkH 10 ?_
  try first | simp only [pS, List.set] | simp only [pN]
  refine tkH 11 ?_
  try first | simp only [pS, List.set] | simp only [pN]
  refine tkH 12 ?_
  try first | simp only [pS, List.set] | simp only [pN]
  refine wpAnyH_ready (rs := [13]) (by kernel_rfl) (by simp) ?_
  refine AllReadyH.cons (o := ?_) ?_ (fun K hK => ?_) AllReadyH.nil
  rotate_left
  · (simp only [List.getElem?_toArray, List.getElem?_cons_succ, List.getElem?_cons_zero]; rfl)
  go_simp
  have hcz := hHeld.1.size
  have hnew := heap_alloc_new wd (.cells #[.int .i64 0, .int .i64 0, .int .i64 0, .slice none 0 0, .int .i64 0, .int .i64 0, .int .i64 0] 32)
  have hba := (Below.refl wd.heap.size wd).alloc (Nat.le_refl _) (.cells #[.int .i64 0, .int .i64 0, .int .i64 0, .slice none 0 0, .int .i64 0, .int .i64 0, .int .i64 0] 32)
  have hSx : (fun w' => Below wx.heap.size wx w' ∧ (w'.cell? ⟨fb, 0, none⟩ = some (.int .i64 n) ∧ w'.cell? ⟨fb, 1, none⟩ = some (.slice (some ⟨eb, eo, none⟩) LP cP) ∧ w'.cell? ⟨fb, 2, none⟩ = some (.slice AT LT cT) ∧ w'.cell? ⟨fb, 3, none⟩ = some (.slice AI LI cI)) ∧ (w'.cell? ⟨sb, 0, none⟩ = some (.int .i64 (s.a : Int)) ∧ w'.cell? ⟨sb, 1, none⟩ = some (.int .i64 (s.b : Int)) ∧ w'.cell? ⟨sb, 2, none⟩ = some (.int .i64 (s.i : Int)) ∧ w'.cell? ⟨sb, 3, none⟩ = some (.int .i64 (s.o : Int))) ∧ (w'.cell? ⟨eb, eo + s.a * 7, none⟩ = some (.int .i64 c.p) ∧ w'.cell? ⟨eb, eo + s.a * 7 + 1, none⟩ = some (.int .i64 c.o) ∧ w'.cell? ⟨eb, eo + s.a * 7 + 2, none⟩ = some (.int .i64 c.q) ∧ w'.cell? ⟨eb, eo + s.a * 7 + 3, none⟩ = some (.slice Ac c.r.length cc) ∧ w'.cell? ⟨eb, eo + s.a * 7 + 4, none⟩ = some (.int .i64 c.c) ∧ w'.cell? ⟨eb, eo + s.a * 7 + 5, none⟩ = some (.int .i64 c.b) ∧ w'.cell? ⟨eb, eo + s.a * 7 + 6, none⟩ = some (.int .i64 c.e))) (wd.alloc (.cells #[.int .i64 0, .int .i64 0, .int .i64 0, .slice none 0 0, .int .i64 0, .int .i64 0, .int .i64 0] 32)) := ⟨hHeld.1.trans (hba.mono hHeld.1.size), f4_below hHeld.2.1 hba, f4_below hHeld.2.2.1 hba, cl7_below hHeld.2.2.2 hba⟩
  refine hK.out _ _ hSx (fun hHeld => ?_)
  clear hK K
  try first | simp only [pS, List.set] | simp only [pN]
  obtain ⟨wa, hwa⟩ : ∃ x, wd.alloc (.cells #[.int .i64 0, .int .i64 0, .int .i64 0, .slice none 0 0, .int .i64 0, .int .i64 0, .int .i64 0] 32) = x := ⟨_, rfl⟩
  obtain ⟨cb, hcb⟩ : ∃ x, wd.heap.size = x := ⟨_, rfl⟩
  rw [hwa] at hHeld hnew ⊢
  rw [hcb] at hnew hcz ⊢
  clear hwa hcb hba hSx
  have b0 := row_cell hnew 0
  have b1 := row_cell hnew 1
  have b2 := row_cell hnew 2
  have b3 := row_cell hnew 3
  have b4 := row_cell hnew 4
  have b5 := row_cell hnew 5
  have b6 := row_cell hnew 6
  simp at b0 b1 b2 b3 b4 b5 b6
  have f0 := row_frozen hnew 0
  have f1 := row_frozen hnew 1
  have f2 := row_frozen hnew 2
  have f3 := row_frozen hnew 3
  have f4 := row_frozen hnew 4
  have f5 := row_frozen hnew 5
  have f6 := row_frozen hnew 6
  refine wpAnyH_ready (rs := [14]) (by kernel_rfl) (by simp) ?_
  refine AllReadyH.cons (o := ?_) ?_ (fun K hK => ?_) AllReadyH.nil
  rotate_left
  · (simp only [List.getElem?_toArray, List.getElem?_cons_succ, List.getElem?_cons_zero]; rfl)
  go_simp
  have hset := cset7_row hnew (.int .i64 c.p) (.int .i64 c.o) (.int .i64 c.q) (.slice Ac c.r.length cc) (.int .i64 c.c) (.int .i64 c.b) (.int .i64 c.e)
  have hbs := cset7_below (Below.refl cb wa) (Nat.le_refl cb) (.int .i64 c.p) (.int .i64 c.o) (.int .i64 c.q) (.slice Ac c.r.length cc) (.int .i64 c.c) (.int .i64 c.b) (.int .i64 c.e)
  have hSx : (fun w' => Below wx.heap.size wx w' ∧ (w'.cell? ⟨fb, 0, none⟩ = some (.int .i64 n) ∧ w'.cell? ⟨fb, 1, none⟩ = some (.slice (some ⟨eb, eo, none⟩) LP cP) ∧ w'.cell? ⟨fb, 2, none⟩ = some (.slice AT LT cT) ∧ w'.cell? ⟨fb, 3, none⟩ = some (.slice AI LI cI)) ∧ (w'.cell? ⟨sb, 0, none⟩ = some (.int .i64 (s.a : Int)) ∧ w'.cell? ⟨sb, 1, none⟩ = some (.int .i64 (s.b : Int)) ∧ w'.cell? ⟨sb, 2, none⟩ = some (.int .i64 (s.i : Int)) ∧ w'.cell? ⟨sb, 3, none⟩ = some (.int .i64 (s.o : Int))) ∧ (w'.cell? ⟨eb, eo + s.a * 7, none⟩ = some (.int .i64 c.p) ∧ w'.cell? ⟨eb, eo + s.a * 7 + 1, none⟩ = some (.int .i64 c.o) ∧ w'.cell? ⟨eb, eo + s.a * 7 + 2, none⟩ = some (.int .i64 c.q) ∧ w'.cell? ⟨eb, eo + s.a * 7 + 3, none⟩ = some (.slice Ac c.r.length cc) ∧ w'.cell? ⟨eb, eo + s.a * 7 + 4, none⟩ = some (.int .i64 c.c) ∧ w'.cell? ⟨eb, eo + s.a * 7 + 5, none⟩ = some (.int .i64 c.b) ∧ w'.cell? ⟨eb, eo + s.a * 7 + 6, none⟩ = some (.int .i64 c.e))) (cset7 wa cb (.int .i64 c.p) (.int .i64 c.o) (.int .i64 c.q) (.slice Ac c.r.length cc) (.int .i64 c.c) (.int .i64 c.b) (.int .i64 c.e)) := ⟨hHeld.1.trans (hbs.mono hcz), f4_low hHeld.2.1 hbs (by omega), f4_low hHeld.2.2.1 hbs (by omega), cl7_low hHeld.2.2.2 hbs (by omega)⟩
  unfold cset7 at hset
  obtain ⟨wc, hwc⟩ : ∃ x, ((((((wa.setCell ⟨cb, 0, none⟩ (.int .i64 c.p)).setCell ⟨cb, 1, none⟩ (.int .i64 c.o)).setCell ⟨cb, 2, none⟩ (.int .i64 c.q)).setCell ⟨cb, 3, none⟩ (.slice Ac c.r.length cc)).setCell ⟨cb, 4, none⟩ (.int .i64 c.c)).setCell ⟨cb, 5, none⟩ (.int .i64 c.b)).setCell ⟨cb, 6, none⟩ (.int .i64 c.e) = x := ⟨_, rfl⟩
  have hSx2 : (fun w' => Below wx.heap.size wx w' ∧ (w'.cell? ⟨fb, 0, none⟩ = some (.int .i64 n) ∧ w'.cell? ⟨fb, 1, none⟩ = some (.slice (some ⟨eb, eo, none⟩) LP cP) ∧ w'.cell? ⟨fb, 2, none⟩ = some (.slice AT LT cT) ∧ w'.cell? ⟨fb, 3, none⟩ = some (.slice AI LI cI)) ∧ (w'.cell? ⟨sb, 0, none⟩ = some (.int .i64 (s.a : Int)) ∧ w'.cell? ⟨sb, 1, none⟩ = some (.int .i64 (s.b : Int)) ∧ w'.cell? ⟨sb, 2, none⟩ = some (.int .i64 (s.i : Int)) ∧ w'.cell? ⟨sb, 3, none⟩ = some (.int .i64 (s.o : Int))) ∧ (w'.cell? ⟨eb, eo + s.a * 7, none⟩ = some (.int .i64 c.p) ∧ w'.cell? ⟨eb, eo + s.a * 7 + 1, none⟩ = some (.int .i64 c.o) ∧ w'.cell? ⟨eb, eo + s.a * 7 + 2, none⟩ = some (.int .i64 c.q) ∧ w'.cell? ⟨eb, eo + s.a * 7 + 3, none⟩ = some (.slice Ac c.r.length cc) ∧ w'.cell? ⟨eb, eo + s.a * 7 + 4, none⟩ = some (.int .i64 c.c) ∧ w'.cell? ⟨eb, eo + s.a * 7 + 5, none⟩ = some (.int .i64 c.b) ∧ w'.cell? ⟨eb, eo + s.a * 7 + 6, none⟩ = some (.int .i64 c.e))) wc := by rw [← hwc]; exact hSx
  rw [hwc] at hset ⊢
  clear hwc hSx hbs
  have hSx := hSx2
  refine hK.out _ _ hSx (fun hHeld => ?_)
  clear hK K
  try first | simp only [pS, List.set] | simp only [pN]
  refine tkH 15 ?_
  try first | simp only [pS, List.set] | simp only [pN]
  refine wpAnyH_done (by kernel_rfl) ?_ _
  have hSc := row_kept hSB hHeld.1
  have hRc := row_kept hR hHeld.1
  have hBc := hB3.trans (hHeld.1.mono (by omega))
  have hFc := hHeld.2.1
  have hcs := row_lt hset
  clear hSd hSx hHeld hSx2 hH3 HH c0 c1 c2 c3 hSB hR hB3 hnew b0 b1 b2 b3 b4 b5 b6 f0 f1 f2 f3 f4 f5 f6
  have d0 := row_cell hset 0
  have d1 := row_cell hset 1
  have d2 := row_cell hset 2
  have d3 := row_cell hset 3
  have d4 := row_cell hset 4
  have d5 := row_cell hset 5
  have d6 := row_cell hset 6
  simp at d0 d1 d2 d3 d4 d5 d6
  have c0 := row_cell hSc 0
  have c1 := row_cell hSc 1
  have c2 := row_cell hSc 2
  have c3 := row_cell hSc 3
  simp at c0 c1 c2 c3
  have f0 := row_frozen hSc 0
  have f1 := row_frozen hSc 1
  have f2 := row_frozen hSc 2
  have f3 := row_frozen hSc 3
  have hcne : cb ≠ sb := by omega
  have hcne2 : sb ≠ cb := by omega
  have hfs : fb ≠ sb := by omega
  have hrs : sb + 1 ≠ sb := by omega
  have hcr : cb ≠ sb + 1 := by omega
  have hS4 : (wc.setCell ⟨sb, 0, none⟩ (.int .i64 ((s.a : Int) + 1))).heap[sb]? = some (.cells #[.int .i64 ((s.a : Int) + 1), .int .i64 (s.b : Int), .int .i64 (s.i : Int), .int .i64 (s.o : Int)] 48 (0, 0)) := by simpa using lrow_set wc sb _ _ 0 (.int .i64 ((s.a : Int) + 1)) hSc
  have hR4 := row_other hRc sb 0 (.int .i64 ((s.a : Int) + 1)) hrs
  have hF4 := f4_other (j := 0) (x := .int .i64 ((s.a : Int) + 1)) hFc hfs
  have hC4 := row_other hset sb 0 (.int .i64 ((s.a : Int) + 1)) hcne
  have hB4 := hBc.setCell (p := ⟨sb, 0, none⟩) (Nat.le_refl _) (.int .i64 ((s.a : Int) + 1))
  have hS5 : ((wc.setCell ⟨sb, 0, none⟩ (.int .i64 ((s.a : Int) + 1))).setCell ⟨sb, 2, none⟩ (.int .i64 ((s.i : Int) + 1))).heap[sb]? = some (.cells #[.int .i64 ((s.a : Int) + 1), .int .i64 (s.b : Int), .int .i64 ((s.i : Int) + 1), .int .i64 (s.o : Int)] 48 (0, 0)) := by simpa using lrow_set _ sb _ _ 2 (.int .i64 ((s.i : Int) + 1)) hS4
  have hR5 := row_other hR4 sb 2 (.int .i64 ((s.i : Int) + 1)) hrs
  have hF5 := f4_other (j := 2) (x := .int .i64 ((s.i : Int) + 1)) hF4 hfs
  have hC5 := row_other hC4 sb 2 (.int .i64 ((s.i : Int) + 1)) hcne
  have hB5 := hB4.setCell (p := ⟨sb, 2, none⟩) (Nat.le_refl _) (.int .i64 ((s.i : Int) + 1))
  have HS := Lib.hid hS5
  have HR := Lib.hid hR5
  have HF := Lib.hid hF5
  have HC := Lib.hid hC5
  have HB := Lib.hid hB5
  clear hS4 hR4 hF4 hC4 hB4 hS5 hR5 hF5 hC5 hB5
  clear hSc hRc hFc hBc
  have HSET := Lib.hid hset
  clear hset
  go_wp2_with fail
  obtain ⟨w4, hw4⟩ : ∃ x, (wc.setCell ⟨sb, 0, none⟩ (.int .i64 ((s.a : Int) + 1))).setCell ⟨sb, 2, none⟩ (.int .i64 ((s.i : Int) + 1)) = x := ⟨_, rfl⟩
  have hS := HS.out
  have hR := HR.out
  have hF := HF.out
  have hC := HC.out
  have hB := HB.out
  rw [hw4] at hS hR hF hC hB ⊢
  clear hw4 HS HR HF HC HB HSET d0 d1 d2 d3 d4 d5 d6 c0 c1 c2 c3 f0 f1 f2 f3
  have hSd : (fun w' => Below sb W w' ∧ (w'.cell? ⟨fb, 0, none⟩ = some (.int .i64 n) ∧ w'.cell? ⟨fb, 1, none⟩ = some (.slice (some ⟨eb, eo, none⟩) LP cP) ∧ w'.cell? ⟨fb, 2, none⟩ = some (.slice AT LT cT) ∧ w'.cell? ⟨fb, 3, none⟩ = some (.slice AI LI cI)) ∧ (w'.cell? ⟨sb, 0, none⟩ = some (.int .i64 ((s.a : Int) + 1)) ∧ w'.cell? ⟨sb, 1, none⟩ = some (.int .i64 (s.b : Int)) ∧ w'.cell? ⟨sb, 2, none⟩ = some (.int .i64 ((s.i : Int) + 1)) ∧ w'.cell? ⟨sb, 3, none⟩ = some (.int .i64 (s.o : Int)))) w4.drew := ⟨hB.drew, hF, SpC hS⟩
  refine wp_region_held_drew (S := (fun w' => Below sb W w' ∧ (w'.cell? ⟨fb, 0, none⟩ = some (.int .i64 n) ∧ w'.cell? ⟨fb, 1, none⟩ = some (.slice (some ⟨eb, eo, none⟩) LP cP) ∧ w'.cell? ⟨fb, 2, none⟩ = some (.slice AT LT cT) ∧ w'.cell? ⟨fb, 3, none⟩ = some (.slice AI LI cI)) ∧ (w'.cell? ⟨sb, 0, none⟩ = some (.int .i64 ((s.a : Int) + 1)) ∧ w'.cell? ⟨sb, 1, none⟩ = some (.int .i64 (s.b : Int)) ∧ w'.cell? ⟨sb, 2, none⟩ = some (.int .i64 ((s.i : Int) + 1)) ∧ w'.cell? ⟨sb, 3, none⟩ = some (.int .i64 (s.o : Int))))) (by kernel_rfl) hSd (fun hHeld => ?_)
  obtain ⟨wd, hwd⟩ : ∃ x, w4.drew = x := ⟨_, rfl⟩
  replace hR := (show wd.heap[sb + 1]? = w4.heap[sb + 1]? from by rw [← hwd]; rfl).trans hR
  rw [hwd] at hHeld ⊢
  clear hwd hSd hB hF hS
  have hHeld : (fun w' => Below sb W w' ∧ (w'.cell? ⟨fb, 0, none⟩ = some (.int .i64 n) ∧ w'.cell? ⟨fb, 1, none⟩ = some (.slice (some ⟨eb, eo, none⟩) LP cP) ∧ w'.cell? ⟨fb, 2, none⟩ = some (.slice AT LT cT) ∧ w'.cell? ⟨fb, 3, none⟩ = some (.slice AI LI cI)) ∧ (w'.cell? ⟨sb, 0, none⟩ = some (.int .i64 ((s.a : Int) + 1)) ∧ w'.cell? ⟨sb, 1, none⟩ = some (.int .i64 (s.b : Int)) ∧ w'.cell? ⟨sb, 2, none⟩ = some (.int .i64 ((s.i : Int) + 1)) ∧ w'.cell? ⟨sb, 3, none⟩ = some (.int .i64 (s.o : Int)))) wd := hHeld
  refine tkH 0 ?_
  try first | simp only [pS, List.set] | simp only [pN]
  refine tkH 1 ?_
  try first | simp only [pS, List.set] | simp only [pN]
  refine tkH 2 ?_
  try first | simp only [pS, List.set] | simp only [pN]
  refine tkH 3 ?_
  try first | simp only [pS, List.set] | simp only [pN]
  refine tkH 4 ?_
  try first | simp only [pS, List.set] | simp only [pN]
  refine tkH 5 ?_
  try first | simp only [pS, List.set] | simp only [pN]
  refine tkH 6 ?_
  try first | simp only [pS, List.set] | simp only [pN]
  have f0 := row_frozen hR 0
  have f1 := row_frozen hR 1
  have f2 := row_frozen hR 2
  have f3 := row_frozen hR 3
  have z0 := row_cell hR 0
  have z1 := row_cell hR 1
  have z2 := row_cell hR 2
  have z3 := row_cell hR 3
  simp at z0 z1 z2 z3
  refine wpAnyH_ready (rs := [7]) (by kernel_rfl) (by simp) ?_
  refine AllReadyH.cons (o := ?_) ?_ (fun K hK => ?_) AllReadyH.nil
  rotate_left
  · (simp only [List.getElem?_toArray, List.getElem?_cons_succ, List.getElem?_cons_zero]; rfl)
  go_simp
  have hfin := sset4_row hR (.int .i64 ((s.a : Int) + 1)) (.int .i64 (s.b : Int)) (.int .i64 ((s.i : Int) + 1)) (.int .i64 (s.o : Int))
  have hSx : (fun w' => Below sb W w' ∧ (w'.cell? ⟨fb, 0, none⟩ = some (.int .i64 n) ∧ w'.cell? ⟨fb, 1, none⟩ = some (.slice (some ⟨eb, eo, none⟩) LP cP) ∧ w'.cell? ⟨fb, 2, none⟩ = some (.slice AT LT cT) ∧ w'.cell? ⟨fb, 3, none⟩ = some (.slice AI LI cI)) ∧ (w'.cell? ⟨sb, 0, none⟩ = some (.int .i64 ((s.a : Int) + 1)) ∧ w'.cell? ⟨sb, 1, none⟩ = some (.int .i64 (s.b : Int)) ∧ w'.cell? ⟨sb, 2, none⟩ = some (.int .i64 ((s.i : Int) + 1)) ∧ w'.cell? ⟨sb, 3, none⟩ = some (.int .i64 (s.o : Int)))) (sset4 wd (sb + 1) (.int .i64 ((s.a : Int) + 1)) (.int .i64 (s.b : Int)) (.int .i64 ((s.i : Int) + 1)) (.int .i64 (s.o : Int))) := ⟨sset4_below hHeld.1 (by omega) _ _ _ _, f4_sset hHeld.2.1 (by omega), f4_sset hHeld.2.2 (by omega)⟩
  refine hK.out _ _ hSx (fun hHeld => ?_)
  clear hK K
  try first | simp only [pS, List.set] | simp only [pN]
  refine tkH 8 ?_
  try first | simp only [pS, List.set] | simp only [pN]
  refine wpAnyH_done (by kernel_rfl) ?_ _
  go_wp2_with fail
  refine bodyPost_ret (res_put _ _ (s := ⟨s.a + 1, s.b, s.i + 1, s.o⟩) (ok := decide (((s.i : Int) - (s.o : Int)) < n)) rfl rfl hfin) rfl ?_
  exact ⟨_, _, rfl, HST.out, by rw [hsb]; exact hHeld.1⟩

set_option maxRecDepth 100000 in
set_option maxHeartbeats 4000000 in
theorem fput_4 {n : Int} {P T : List Cl} {s : Sp} (hs : Inv n P T s) (hP : P.length ≤ 60) (hT : T.length ≤ 60) {fb bm cP cT LI cI : Nat} {AP AT AI : Option Addr} {vE : Value} (hcP : P.length ≤ cP) (hcT : T.length ≤ cT) (W : World)
    (hF : FBox W fb n AP P.length cP AT T.length cT AI LI cI bm vE) (hlP : ClSl W W.heap.size AP P) (hlT : ClSl W W.heap.size AT T) {c : Cl} (hc : P[s.a]? = some c) (hm : mayB c (T.drop s.b) = true) (he : 0 ≤ c.e) (h2 : (c.c == 2) = false) :
    Calls Try.prog 34 #[.pointer (some ⟨fb, 0, none⟩), spV s] W (PutR (stepP n P T s) W) := by
  have huse := And.intro hP (And.intro hT (And.intro hcP (And.intro hcT (And.intro hlP hlT))))
  clear huse
  obtain ⟨LP, hLP⟩ : ∃ x, P.length = x := ⟨_, rfl⟩
  obtain ⟨LT, hLT⟩ : ∃ x, T.length = x := ⟨_, rfl⟩
  have s1 := hs.a
  have s2 := hs.b
  have s3 := hs.oi
  have s4 : s.i ≤ 60 := by rw [hs.i]; exact Nat.le_trans List.countP_le_length (by rw [List.length_take]; omega)
  rw [hLP] at hF s1 hP hcP
  rw [hLT] at hF s2 hT hcT
  have HST := Lib.hid (show stepP n P T s = (if (decide (((s.i : Int) - (s.o : Int)) < n)) = true then some ⟨s.a + 1, s.b, s.i + 1, s.o⟩ else none) by unfold stepP; rw [hc]; simp [hm, show ful c = false by simp [ful, h2]])
  have hlto : s.a < LP := by rw [← hLP]; exact get_lt hc
  obtain ⟨eb, eo, Ac, cc, hAP, hebl, hec, hcw, hcc1, hcc2⟩ := hlP s.a c hc
  have hsl := fun W => slice_calls AT LT cT s.b s2 W
  have htl := hlT.tail (c := cT) (n := s.b) (by rw [hLT]; exact hcT) (by rw [hLT]; exact s2)
  obtain ⟨A2, hA2⟩ : ∃ x, (if cT = s.b then AT else AT.map (·.add (s.b * 7))) = x := ⟨_, rfl⟩
  rw [hA2] at hsl htl
  have hmay := fun (W' : World) (hb : Below W.heap.size W W') => lmay_any c Ac A2 cc (cT - s.b) (T.drop s.b) W' (by rw [List.length_drop]; omega) (htl.below hb hb.size)
  rw [List.length_drop, hLT, hm] at hmay
  subst hAP
  have h0i : ((s.a : Int) == (LP : Int)) = false := by simp; omega
  have hltoi : (s.a : Int) < (LP : Int) := by omega
  have hlt2i : (s.b : Int) ≤ (LT : Int) := by omega
  have hwr : IntKind.i64.wrap ((s.i : Int) - (s.o : Int)) = ((s.i : Int) - (s.o : Int)) := IntWalk.i64_in _ (by omega)
  unfold clV at hmay
  have HMAY := Lib.hid hmay
  have HCW := Lib.hid hcw
  clear hmay htl hcw hA2 hlP hlT hLP hLT hs hc hm
  have hb1 := (Below.refl W.heap.size W).alloc (Nat.le_refl _) (.cells #[.int .i64 (s.a : Int), .int .i64 (s.b : Int), .int .i64 (s.i : Int), .int .i64 (s.o : Int)] 48)
  have hb2 := hb1.alloc hb1.size (.cells #[.int .i64 0, .int .i64 0, .int .i64 0, .int .i64 0] 48)
  have hs1 := heap_alloc_new W (.cells #[.int .i64 (s.a : Int), .int .i64 (s.b : Int), .int .i64 (s.i : Int), .int .i64 (s.o : Int)] 48)
  have hs2 := row_kept hs1 ((Below.refl _ _).alloc (Nat.le_refl _) (.cells #[.int .i64 0, .int .i64 0, .int .i64 0, .int .i64 0] 48))
  have hr2 := heap_alloc_new (W.alloc (.cells #[.int .i64 (s.a : Int), .int .i64 (s.b : Int), .int .i64 (s.i : Int), .int .i64 (s.o : Int)] 48)) (.cells #[.int .i64 0, .int .i64 0, .int .i64 0, .int .i64 0] 48)
  have hf2 := row_kept hF hb2
  rw [World.size_alloc] at hr2
  have hlt := row_lt hF
  have hsz2 : W.heap.size + 2 ≤ ((W.alloc (.cells #[.int .i64 (s.a : Int), .int .i64 (s.b : Int), .int .i64 (s.i : Int), .int .i64 (s.o : Int)] 48)).alloc (.cells #[.int .i64 0, .int .i64 0, .int .i64 0, .int .i64 0] 48)).heap.size := by rw [World.size_alloc, World.size_alloc]; omega
  clear hs1 hb1 hF
  unfold spV
  obtain ⟨sb, hsb⟩ : ∃ x, W.heap.size = x := ⟨_, rfl⟩
  rw [hsb] at hs2 hr2 hb2 hlt hsz2
  have hebl : eb < sb := by omega
  go_enter Try.func34, Try.ntmps34
  go_wp2_with fail
  obtain ⟨W2, hW2⟩ : ∃ x, (W.alloc (.cells #[.int .i64 (s.a : Int), .int .i64 (s.b : Int), .int .i64 (s.i : Int), .int .i64 (s.o : Int)] 48)).alloc (.cells #[.int .i64 0, .int .i64 0, .int .i64 0, .int .i64 0] 48) = x := ⟨_, rfl⟩
  rw [hW2] at hs2 hr2 hb2 hf2 hsz2 ⊢
  clear hW2
  have hec2 := cl7_low hec hb2 hebl
  have hc2 := FBox.cells hf2
  have hp2 := SpBox.cells hs2
  clear hec
  have hSd : (fun w' => Below W2.heap.size W2 w' ∧ (w'.cell? ⟨fb, 0, none⟩ = some (.int .i64 n) ∧ w'.cell? ⟨fb, 1, none⟩ = some (.slice (some ⟨eb, eo, none⟩) LP cP) ∧ w'.cell? ⟨fb, 2, none⟩ = some (.slice AT LT cT) ∧ w'.cell? ⟨fb, 3, none⟩ = some (.slice AI LI cI)) ∧ (w'.cell? ⟨sb, 0, none⟩ = some (.int .i64 (s.a : Int)) ∧ w'.cell? ⟨sb, 1, none⟩ = some (.int .i64 (s.b : Int)) ∧ w'.cell? ⟨sb, 2, none⟩ = some (.int .i64 (s.i : Int)) ∧ w'.cell? ⟨sb, 3, none⟩ = some (.int .i64 (s.o : Int))) ∧ (w'.cell? ⟨eb, eo + s.a * 7, none⟩ = some (.int .i64 c.p) ∧ w'.cell? ⟨eb, eo + s.a * 7 + 1, none⟩ = some (.int .i64 c.o) ∧ w'.cell? ⟨eb, eo + s.a * 7 + 2, none⟩ = some (.int .i64 c.q) ∧ w'.cell? ⟨eb, eo + s.a * 7 + 3, none⟩ = some (.slice Ac c.r.length cc) ∧ w'.cell? ⟨eb, eo + s.a * 7 + 4, none⟩ = some (.int .i64 c.c) ∧ w'.cell? ⟨eb, eo + s.a * 7 + 5, none⟩ = some (.int .i64 c.b) ∧ w'.cell? ⟨eb, eo + s.a * 7 + 6, none⟩ = some (.int .i64 c.e))) W2.drew := ⟨(Below.refl _ W2).drew, ⟨hc2.1, hc2.2.1, hc2.2.2.1, hc2.2.2.2.1⟩, hp2, hec2⟩
  refine wp_region_held_drew (S := (fun w' => Below W2.heap.size W2 w' ∧ (w'.cell? ⟨fb, 0, none⟩ = some (.int .i64 n) ∧ w'.cell? ⟨fb, 1, none⟩ = some (.slice (some ⟨eb, eo, none⟩) LP cP) ∧ w'.cell? ⟨fb, 2, none⟩ = some (.slice AT LT cT) ∧ w'.cell? ⟨fb, 3, none⟩ = some (.slice AI LI cI)) ∧ (w'.cell? ⟨sb, 0, none⟩ = some (.int .i64 (s.a : Int)) ∧ w'.cell? ⟨sb, 1, none⟩ = some (.int .i64 (s.b : Int)) ∧ w'.cell? ⟨sb, 2, none⟩ = some (.int .i64 (s.i : Int)) ∧ w'.cell? ⟨sb, 3, none⟩ = some (.int .i64 (s.o : Int))) ∧ (w'.cell? ⟨eb, eo + s.a * 7, none⟩ = some (.int .i64 c.p) ∧ w'.cell? ⟨eb, eo + s.a * 7 + 1, none⟩ = some (.int .i64 c.o) ∧ w'.cell? ⟨eb, eo + s.a * 7 + 2, none⟩ = some (.int .i64 c.q) ∧ w'.cell? ⟨eb, eo + s.a * 7 + 3, none⟩ = some (.slice Ac c.r.length cc) ∧ w'.cell? ⟨eb, eo + s.a * 7 + 4, none⟩ = some (.int .i64 c.c) ∧ w'.cell? ⟨eb, eo + s.a * 7 + 5, none⟩ = some (.int .i64 c.b) ∧ w'.cell? ⟨eb, eo + s.a * 7 + 6, none⟩ = some (.int .i64 c.e)))) (by kernel_rfl) hSd (fun hHeld => ?_)
  generalize W2.drew = wd at hHeld ⊢
  have hHeld : (fun w' => Below W2.heap.size W2 w' ∧ (w'.cell? ⟨fb, 0, none⟩ = some (.int .i64 n) ∧ w'.cell? ⟨fb, 1, none⟩ = some (.slice (some ⟨eb, eo, none⟩) LP cP) ∧ w'.cell? ⟨fb, 2, none⟩ = some (.slice AT LT cT) ∧ w'.cell? ⟨fb, 3, none⟩ = some (.slice AI LI cI)) ∧ (w'.cell? ⟨sb, 0, none⟩ = some (.int .i64 (s.a : Int)) ∧ w'.cell? ⟨sb, 1, none⟩ = some (.int .i64 (s.b : Int)) ∧ w'.cell? ⟨sb, 2, none⟩ = some (.int .i64 (s.i : Int)) ∧ w'.cell? ⟨sb, 3, none⟩ = some (.int .i64 (s.o : Int))) ∧ (w'.cell? ⟨eb, eo + s.a * 7, none⟩ = some (.int .i64 c.p) ∧ w'.cell? ⟨eb, eo + s.a * 7 + 1, none⟩ = some (.int .i64 c.o) ∧ w'.cell? ⟨eb, eo + s.a * 7 + 2, none⟩ = some (.int .i64 c.q) ∧ w'.cell? ⟨eb, eo + s.a * 7 + 3, none⟩ = some (.slice Ac c.r.length cc) ∧ w'.cell? ⟨eb, eo + s.a * 7 + 4, none⟩ = some (.int .i64 c.c) ∧ w'.cell? ⟨eb, eo + s.a * 7 + 5, none⟩ = some (.int .i64 c.b) ∧ w'.cell? ⟨eb, eo + s.a * 7 + 6, none⟩ = some (.int .i64 c.e))) wd := hHeld
  refine tkH 0 ?_
  try first | simp only [pS, List.set] | simp only [pN]
  refine tkH 1 ?_
  try first | simp only [pS, List.set] | simp only [pN]
  refine tkH 2 ?_
  try first | simp only [pS, List.set] | simp only [pN]
  refine tkH 3 ?_
  try first | simp only [pS, List.set] | simp only [pN]
  refine tkH 4 ?_
  try first | simp only [pS, List.set] | simp only [pN]
  refine tkH 5 ?_
  try first | simp only [pS, List.set] | simp only [pN]
  refine tkH 6 ?_
  try first | simp only [pS, List.set] | simp only [pN]
  refine tkH 7 ?_
  try first | simp only [pS, List.set] | simp only [pN]
  refine tkH 8 ?_
  try first | simp only [pS, List.set] | simp only [pN]
  refine tkH 9 ?_
  try first | simp only [pS, List.set] | simp only [pN]
  refine tkH 10 ?_
  try first | simp only [pS, List.set] | simp only [pN]
  refine tkH 11 ?_
  try first | simp only [pS, List.set] | simp only [pN]
  refine tkH 12 ?_
  try first | simp only [pS, List.set] | simp only [pN]
  refine tkH 13 ?_
  try first | simp only [pS, List.set] | simp only [pN]
  refine tkH 14 ?_
  try first | simp only [pS, List.set] | simp only [pN]
  refine tkH 15 ?_
  try first | simp only [pS, List.set] | simp only [pN]
  refine tkH 16 ?_
  try first | simp only [pS, List.set] | simp only [pN]
  refine tkH 17 ?_
  try first | simp only [pS, List.set] | simp only [pN]
  refine tkH 18 ?_
  try first | simp only [pS, List.set] | simp only [pN]
  refine tkH 19 ?_
  try first | simp only [pS, List.set] | simp only [pN]
  refine tkH 20 ?_
  try first | simp only [pS, List.set] | simp only [pN]
  refine tkH 21 ?_
  try first | simp only [pS, List.set] | simp only [pN]
  refine tkH 22 ?_
  try first | simp only [pS, List.set] | simp only [pN]
  refine tkH 23 ?_
  try first | simp only [pS, List.set] | simp only [pN]
  refine wpAnyH_ready (rs := [24]) (by kernel_rfl) (by simp) ?_
  refine AllReadyH.cons (o := ?_) ?_ (fun K hK => ?_) AllReadyH.nil
  rotate_left
  · (simp only [List.getElem?_toArray, List.getElem?_cons_succ, List.getElem?_cons_zero]; rfl)
  go_simp
  go_at_call 48
  refine (HMAY.out _ (by rw [hsb]; exact hb2.trans (hHeld.1.mono (by omega)))).mono ?_
  rintro e wx ⟨rfl, hbx⟩
  have hSx : (fun w' => Below W2.heap.size W2 w' ∧ (w'.cell? ⟨fb, 0, none⟩ = some (.int .i64 n) ∧ w'.cell? ⟨fb, 1, none⟩ = some (.slice (some ⟨eb, eo, none⟩) LP cP) ∧ w'.cell? ⟨fb, 2, none⟩ = some (.slice AT LT cT) ∧ w'.cell? ⟨fb, 3, none⟩ = some (.slice AI LI cI)) ∧ (w'.cell? ⟨sb, 0, none⟩ = some (.int .i64 (s.a : Int)) ∧ w'.cell? ⟨sb, 1, none⟩ = some (.int .i64 (s.b : Int)) ∧ w'.cell? ⟨sb, 2, none⟩ = some (.int .i64 (s.i : Int)) ∧ w'.cell? ⟨sb, 3, none⟩ = some (.int .i64 (s.o : Int))) ∧ (w'.cell? ⟨eb, eo + s.a * 7, none⟩ = some (.int .i64 c.p) ∧ w'.cell? ⟨eb, eo + s.a * 7 + 1, none⟩ = some (.int .i64 c.o) ∧ w'.cell? ⟨eb, eo + s.a * 7 + 2, none⟩ = some (.int .i64 c.q) ∧ w'.cell? ⟨eb, eo + s.a * 7 + 3, none⟩ = some (.slice Ac c.r.length cc) ∧ w'.cell? ⟨eb, eo + s.a * 7 + 4, none⟩ = some (.int .i64 c.c) ∧ w'.cell? ⟨eb, eo + s.a * 7 + 5, none⟩ = some (.int .i64 c.b) ∧ w'.cell? ⟨eb, eo + s.a * 7 + 6, none⟩ = some (.int .i64 c.e))) wx := ⟨hHeld.1.trans (hbx.mono hHeld.1.size), f4_below hHeld.2.1 hbx, f4_below hHeld.2.2.1 hbx, cl7_below hHeld.2.2.2 hbx⟩
  refine hK.out _ _ hSx (fun hHeld => ?_)
  clear hK K
  try first | simp only [pS, List.set] | simp only [pN]
  refine tkH 25 ?_
  try first | simp only [pS, List.set] | simp only [pN]
  refine tkH 26 ?_
  try first | simp only [pS, List.set] | simp only [pN]
  refine wpAnyH_done (by kernel_rfl) ?_ _
  have hSB := row_kept hs2 hHeld.1
  have hR := row_kept hr2 hHeld.1
  have hB3 := hb2.trans (hHeld.1.mono (by omega))
  have hsx : sb + 2 ≤ wx.heap.size := Nat.le_trans hsz2 hHeld.1.size
  have hH3 := hHeld.2
  have HH := Lib.hid hHeld
  clear hSd hSx hHeld hs2 hr2 hb2 hf2 hc2 hp2 hec2 HMAY hsl hsz2
  obtain ⟨c0, c1, c2, c3⟩ := hH3.2.1
  go_wp2_with fail
  have hSd : (fun w' => Below wx.heap.size wx w' ∧ (w'.cell? ⟨fb, 0, none⟩ = some (.int .i64 n) ∧ w'.cell? ⟨fb, 1, none⟩ = some (.slice (some ⟨eb, eo, none⟩) LP cP) ∧ w'.cell? ⟨fb, 2, none⟩ = some (.slice AT LT cT) ∧ w'.cell? ⟨fb, 3, none⟩ = some (.slice AI LI cI)) ∧ (w'.cell? ⟨sb, 0, none⟩ = some (.int .i64 (s.a : Int)) ∧ w'.cell? ⟨sb, 1, none⟩ = some (.int .i64 (s.b : Int)) ∧ w'.cell? ⟨sb, 2, none⟩ = some (.int .i64 (s.i : Int)) ∧ w'.cell? ⟨sb, 3, none⟩ = some (.int .i64 (s.o : Int))) ∧ (w'.cell? ⟨eb, eo + s.a * 7, none⟩ = some (.int .i64 c.p) ∧ w'.cell? ⟨eb, eo + s.a * 7 + 1, none⟩ = some (.int .i64 c.o) ∧ w'.cell? ⟨eb, eo + s.a * 7 + 2, none⟩ = some (.int .i64 c.q) ∧ w'.cell? ⟨eb, eo + s.a * 7 + 3, none⟩ = some (.slice Ac c.r.length cc) ∧ w'.cell? ⟨eb, eo + s.a * 7 + 4, none⟩ = some (.int .i64 c.c) ∧ w'.cell? ⟨eb, eo + s.a * 7 + 5, none⟩ = some (.int .i64 c.b) ∧ w'.cell? ⟨eb, eo + s.a * 7 + 6, none⟩ = some (.int .i64 c.e))) wx.drew := ⟨(Below.refl _ wx).drew, hH3⟩
  refine wp_region_held_drew (S := (fun w' => Below wx.heap.size wx w' ∧ (w'.cell? ⟨fb, 0, none⟩ = some (.int .i64 n) ∧ w'.cell? ⟨fb, 1, none⟩ = some (.slice (some ⟨eb, eo, none⟩) LP cP) ∧ w'.cell? ⟨fb, 2, none⟩ = some (.slice AT LT cT) ∧ w'.cell? ⟨fb, 3, none⟩ = some (.slice AI LI cI)) ∧ (w'.cell? ⟨sb, 0, none⟩ = some (.int .i64 (s.a : Int)) ∧ w'.cell? ⟨sb, 1, none⟩ = some (.int .i64 (s.b : Int)) ∧ w'.cell? ⟨sb, 2, none⟩ = some (.int .i64 (s.i : Int)) ∧ w'.cell? ⟨sb, 3, none⟩ = some (.int .i64 (s.o : Int))) ∧ (w'.cell? ⟨eb, eo + s.a * 7, none⟩ = some (.int .i64 c.p) ∧ w'.cell? ⟨eb, eo + s.a * 7 + 1, none⟩ = some (.int .i64 c.o) ∧ w'.cell? ⟨eb, eo + s.a * 7 + 2, none⟩ = some (.int .i64 c.q) ∧ w'.cell? ⟨eb, eo + s.a * 7 + 3, none⟩ = some (.slice Ac c.r.length cc) ∧ w'.cell? ⟨eb, eo + s.a * 7 + 4, none⟩ = some (.int .i64 c.c) ∧ w'.cell? ⟨eb, eo + s.a * 7 + 5, none⟩ = some (.int .i64 c.b) ∧ w'.cell? ⟨eb, eo + s.a * 7 + 6, none⟩ = some (.int .i64 c.e)))) (by kernel_rfl) hSd (fun hHeld => ?_)
  generalize wx.drew = wd at hHeld ⊢
  have hHeld : (fun w' => Below wx.heap.size wx w' ∧ (w'.cell? ⟨fb, 0, none⟩ = some (.int .i64 n) ∧ w'.cell? ⟨fb, 1, none⟩ = some (.slice (some ⟨eb, eo, none⟩) LP cP) ∧ w'.cell? ⟨fb, 2, none⟩ = some (.slice AT LT cT) ∧ w'.cell? ⟨fb, 3, none⟩ = some (.slice AI LI cI)) ∧ (w'.cell? ⟨sb, 0, none⟩ = some (.int .i64 (s.a : Int)) ∧ w'.cell? ⟨sb, 1, none⟩ = some (.int .i64 (s.b : Int)) ∧ w'.cell? ⟨sb, 2, none⟩ = some (.int .i64 (s.i : Int)) ∧ w'.cell? ⟨sb, 3, none⟩ = some (.int .i64 (s.o : Int))) ∧ (w'.cell? ⟨eb, eo + s.a * 7, none⟩ = some (.int .i64 c.p) ∧ w'.cell? ⟨eb, eo + s.a * 7 + 1, none⟩ = some (.int .i64 c.o) ∧ w'.cell? ⟨eb, eo + s.a * 7 + 2, none⟩ = some (.int .i64 c.q) ∧ w'.cell? ⟨eb, eo + s.a * 7 + 3, none⟩ = some (.slice Ac c.r.length cc) ∧ w'.cell? ⟨eb, eo + s.a * 7 + 4, none⟩ = some (.int .i64 c.c) ∧ w'.cell? ⟨eb, eo + s.a * 7 + 5, none⟩ = some (.int .i64 c.b) ∧ w'.cell? ⟨eb, eo + s.a * 7 + 6, none⟩ = some (.int .i64 c.e))) wd := hHeld
  refine tkH 0 ?_
  try first | simp only [pS, List.set] | simp only [pN]
  refine tkH 1 ?_
  try first | simp only [pS, List.set] | simp only [pN]
  refine tkH 2 ?_
  try first | simp only [pS, List.set] | simp only [pN]
  refine tkH 3 ?_
  try first | simp only [pS, List.set] | simp only [pN]
  refine tkH 4 ?_
  try first | simp only [pS, List.set] | simp only [pN]
  refine tkH 5 ?_
  try first | simp only [pS, List.set] | simp only [pN]
  refine tkH 6 ?_
  try first | simp only [pS, List.set] | simp only [pN]
  refine tkH 7 ?_
  try first | simp only [pS, List.set] | simp only [pN]
  refine tkH 8 ?_
  try first | simp only [pS, List.set] | simp only [pN]
  refine tkH 9 ?_
  try first | simp only [pS, List.set] | simp only [pN]
  refine tkH 10 ?_
  try first | simp only [pS, List.set] | simp only [pN]
  refine tkH 11 ?_
  try first | simp only [pS, List.set] | simp only [pN]
  refine tkH 12 ?_
  try first | simp only [pS, List.set] | simp only [pN]
  refine wpAnyH_ready (rs := [13]) (by kernel_rfl) (by simp) ?_
  refine AllReadyH.cons (o := ?_) ?_ (fun K hK => ?_) AllReadyH.nil
  rotate_left
  · (simp only [List.getElem?_toArray, List.getElem?_cons_succ, List.getElem?_cons_zero]; rfl)
  go_simp
  have hcz := hHeld.1.size
  have hnew := heap_alloc_new wd (.cells #[.int .i64 0, .int .i64 0, .int .i64 0, .slice none 0 0, .int .i64 0, .int .i64 0, .int .i64 0] 32)
  have hba := (Below.refl wd.heap.size wd).alloc (Nat.le_refl _) (.cells #[.int .i64 0, .int .i64 0, .int .i64 0, .slice none 0 0, .int .i64 0, .int .i64 0, .int .i64 0] 32)
  have hSx : (fun w' => Below wx.heap.size wx w' ∧ (w'.cell? ⟨fb, 0, none⟩ = some (.int .i64 n) ∧ w'.cell? ⟨fb, 1, none⟩ = some (.slice (some ⟨eb, eo, none⟩) LP cP) ∧ w'.cell? ⟨fb, 2, none⟩ = some (.slice AT LT cT) ∧ w'.cell? ⟨fb, 3, none⟩ = some (.slice AI LI cI)) ∧ (w'.cell? ⟨sb, 0, none⟩ = some (.int .i64 (s.a : Int)) ∧ w'.cell? ⟨sb, 1, none⟩ = some (.int .i64 (s.b : Int)) ∧ w'.cell? ⟨sb, 2, none⟩ = some (.int .i64 (s.i : Int)) ∧ w'.cell? ⟨sb, 3, none⟩ = some (.int .i64 (s.o : Int))) ∧ (w'.cell? ⟨eb, eo + s.a * 7, none⟩ = some (.int .i64 c.p) ∧ w'.cell? ⟨eb, eo + s.a * 7 + 1, none⟩ = some (.int .i64 c.o) ∧ w'.cell? ⟨eb, eo + s.a * 7 + 2, none⟩ = some (.int .i64 c.q) ∧ w'.cell? ⟨eb, eo + s.a * 7 + 3, none⟩ = some (.slice Ac c.r.length cc) ∧ w'.cell? ⟨eb, eo + s.a * 7 + 4, none⟩ = some (.int .i64 c.c) ∧ w'.cell? ⟨eb, eo + s.a * 7 + 5, none⟩ = some (.int .i64 c.b) ∧ w'.cell? ⟨eb, eo + s.a * 7 + 6, none⟩ = some (.int .i64 c.e))) (wd.alloc (.cells #[.int .i64 0, .int .i64 0, .int .i64 0, .slice none 0 0, .int .i64 0, .int .i64 0, .int .i64 0] 32)) := ⟨hHeld.1.trans (hba.mono hHeld.1.size), f4_below hHeld.2.1 hba, f4_below hHeld.2.2.1 hba, cl7_below hHeld.2.2.2 hba⟩
  refine hK.out _ _ hSx (fun hHeld => ?_)
  clear hK K
  try first | simp only [pS, List.set] | simp only [pN]
  obtain ⟨wa, hwa⟩ : ∃ x, wd.alloc (.cells #[.int .i64 0, .int .i64 0, .int .i64 0, .slice none 0 0, .int .i64 0, .int .i64 0, .int .i64 0] 32) = x := ⟨_, rfl⟩
  obtain ⟨cb, hcb⟩ : ∃ x, wd.heap.size = x := ⟨_, rfl⟩
  rw [hwa] at hHeld hnew ⊢
  rw [hcb] at hnew hcz ⊢
  clear hwa hcb hba hSx
  have b0 := row_cell hnew 0
  have b1 := row_cell hnew 1
  have b2 := row_cell hnew 2
  have b3 := row_cell hnew 3
  have b4 := row_cell hnew 4
  have b5 := row_cell hnew 5
  have b6 := row_cell hnew 6
  simp at b0 b1 b2 b3 b4 b5 b6
  have f0 := row_frozen hnew 0
  have f1 := row_frozen hnew 1
  have f2 := row_frozen hnew 2
  have f3 := row_frozen hnew 3
  have f4 := row_frozen hnew 4
  have f5 := row_frozen hnew 5
  have f6 := row_frozen hnew 6
  refine wpAnyH_ready (rs := [14]) (by kernel_rfl) (by simp) ?_
  refine AllReadyH.cons (o := ?_) ?_ (fun K hK => ?_) AllReadyH.nil
  rotate_left
  · (simp only [List.getElem?_toArray, List.getElem?_cons_succ, List.getElem?_cons_zero]; rfl)
  go_simp
  have hset := cset7_row hnew (.int .i64 c.p) (.int .i64 c.o) (.int .i64 c.q) (.slice Ac c.r.length cc) (.int .i64 c.c) (.int .i64 c.b) (.int .i64 c.e)
  have hbs := cset7_below (Below.refl cb wa) (Nat.le_refl cb) (.int .i64 c.p) (.int .i64 c.o) (.int .i64 c.q) (.slice Ac c.r.length cc) (.int .i64 c.c) (.int .i64 c.b) (.int .i64 c.e)
  have hSx : (fun w' => Below wx.heap.size wx w' ∧ (w'.cell? ⟨fb, 0, none⟩ = some (.int .i64 n) ∧ w'.cell? ⟨fb, 1, none⟩ = some (.slice (some ⟨eb, eo, none⟩) LP cP) ∧ w'.cell? ⟨fb, 2, none⟩ = some (.slice AT LT cT) ∧ w'.cell? ⟨fb, 3, none⟩ = some (.slice AI LI cI)) ∧ (w'.cell? ⟨sb, 0, none⟩ = some (.int .i64 (s.a : Int)) ∧ w'.cell? ⟨sb, 1, none⟩ = some (.int .i64 (s.b : Int)) ∧ w'.cell? ⟨sb, 2, none⟩ = some (.int .i64 (s.i : Int)) ∧ w'.cell? ⟨sb, 3, none⟩ = some (.int .i64 (s.o : Int))) ∧ (w'.cell? ⟨eb, eo + s.a * 7, none⟩ = some (.int .i64 c.p) ∧ w'.cell? ⟨eb, eo + s.a * 7 + 1, none⟩ = some (.int .i64 c.o) ∧ w'.cell? ⟨eb, eo + s.a * 7 + 2, none⟩ = some (.int .i64 c.q) ∧ w'.cell? ⟨eb, eo + s.a * 7 + 3, none⟩ = some (.slice Ac c.r.length cc) ∧ w'.cell? ⟨eb, eo + s.a * 7 + 4, none⟩ = some (.int .i64 c.c) ∧ w'.cell? ⟨eb, eo + s.a * 7 + 5, none⟩ = some (.int .i64 c.b) ∧ w'.cell? ⟨eb, eo + s.a * 7 + 6, none⟩ = some (.int .i64 c.e))) (cset7 wa cb (.int .i64 c.p) (.int .i64 c.o) (.int .i64 c.q) (.slice Ac c.r.length cc) (.int .i64 c.c) (.int .i64 c.b) (.int .i64 c.e)) := ⟨hHeld.1.trans (hbs.mono hcz), f4_low hHeld.2.1 hbs (by omega), f4_low hHeld.2.2.1 hbs (by omega), cl7_low hHeld.2.2.2 hbs (by omega)⟩
  unfold cset7 at hset
  obtain ⟨wc, hwc⟩ : ∃ x, ((((((wa.setCell ⟨cb, 0, none⟩ (.int .i64 c.p)).setCell ⟨cb, 1, none⟩ (.int .i64 c.o)).setCell ⟨cb, 2, none⟩ (.int .i64 c.q)).setCell ⟨cb, 3, none⟩ (.slice Ac c.r.length cc)).setCell ⟨cb, 4, none⟩ (.int .i64 c.c)).setCell ⟨cb, 5, none⟩ (.int .i64 c.b)).setCell ⟨cb, 6, none⟩ (.int .i64 c.e) = x := ⟨_, rfl⟩
  have hSx2 : (fun w' => Below wx.heap.size wx w' ∧ (w'.cell? ⟨fb, 0, none⟩ = some (.int .i64 n) ∧ w'.cell? ⟨fb, 1, none⟩ = some (.slice (some ⟨eb, eo, none⟩) LP cP) ∧ w'.cell? ⟨fb, 2, none⟩ = some (.slice AT LT cT) ∧ w'.cell? ⟨fb, 3, none⟩ = some (.slice AI LI cI)) ∧ (w'.cell? ⟨sb, 0, none⟩ = some (.int .i64 (s.a : Int)) ∧ w'.cell? ⟨sb, 1, none⟩ = some (.int .i64 (s.b : Int)) ∧ w'.cell? ⟨sb, 2, none⟩ = some (.int .i64 (s.i : Int)) ∧ w'.cell? ⟨sb, 3, none⟩ = some (.int .i64 (s.o : Int))) ∧ (w'.cell? ⟨eb, eo + s.a * 7, none⟩ = some (.int .i64 c.p) ∧ w'.cell? ⟨eb, eo + s.a * 7 + 1, none⟩ = some (.int .i64 c.o) ∧ w'.cell? ⟨eb, eo + s.a * 7 + 2, none⟩ = some (.int .i64 c.q) ∧ w'.cell? ⟨eb, eo + s.a * 7 + 3, none⟩ = some (.slice Ac c.r.length cc) ∧ w'.cell? ⟨eb, eo + s.a * 7 + 4, none⟩ = some (.int .i64 c.c) ∧ w'.cell? ⟨eb, eo + s.a * 7 + 5, none⟩ = some (.int .i64 c.b) ∧ w'.cell? ⟨eb, eo + s.a * 7 + 6, none⟩ = some (.int .i64 c.e))) wc := by rw [← hwc]; exact hSx
  rw [hwc] at hset ⊢
  clear hwc hSx hbs
  have hSx := hSx2
  refine hK.out _ _ hSx (fun hHeld => ?_)
  clear hK K
  try first | simp only [pS, List.set] | simp only [pN]
  refine tkH 15 ?_
  try first | simp only [pS, List.set] | simp only [pN]
  refine wpAnyH_done (by kernel_rfl) ?_ _
  have hSc := row_kept hSB hHeld.1
  have hRc := row_kept hR hHeld.1
  have hBc := hB3.trans (hHeld.1.mono (by omega))
  have hFc := hHeld.2.1
  have hcs := row_lt hset
  clear hSd hSx hHeld hSx2 hH3 HH c0 c1 c2 c3 hSB hR hB3 hnew b0 b1 b2 b3 b4 b5 b6 f0 f1 f2 f3 f4 f5 f6
  have d0 := row_cell hset 0
  have d1 := row_cell hset 1
  have d2 := row_cell hset 2
  have d3 := row_cell hset 3
  have d4 := row_cell hset 4
  have d5 := row_cell hset 5
  have d6 := row_cell hset 6
  simp at d0 d1 d2 d3 d4 d5 d6
  have c0 := row_cell hSc 0
  have c1 := row_cell hSc 1
  have c2 := row_cell hSc 2
  have c3 := row_cell hSc 3
  simp at c0 c1 c2 c3
  have f0 := row_frozen hSc 0
  have f1 := row_frozen hSc 1
  have f2 := row_frozen hSc 2
  have f3 := row_frozen hSc 3
  have hcne : cb ≠ sb := by omega
  have hcne2 : sb ≠ cb := by omega
  have hfs : fb ≠ sb := by omega
  have hrs : sb + 1 ≠ sb := by omega
  have hcr : cb ≠ sb + 1 := by omega
  have hS4 : (wc.setCell ⟨sb, 0, none⟩ (.int .i64 ((s.a : Int) + 1))).heap[sb]? = some (.cells #[.int .i64 ((s.a : Int) + 1), .int .i64 (s.b : Int), .int .i64 (s.i : Int), .int .i64 (s.o : Int)] 48 (0, 0)) := by simpa using lrow_set wc sb _ _ 0 (.int .i64 ((s.a : Int) + 1)) hSc
  have hR4 := row_other hRc sb 0 (.int .i64 ((s.a : Int) + 1)) hrs
  have hF4 := f4_other (j := 0) (x := .int .i64 ((s.a : Int) + 1)) hFc hfs
  have hC4 := row_other hset sb 0 (.int .i64 ((s.a : Int) + 1)) hcne
  have hB4 := hBc.setCell (p := ⟨sb, 0, none⟩) (Nat.le_refl _) (.int .i64 ((s.a : Int) + 1))
  have hS5 : ((wc.setCell ⟨sb, 0, none⟩ (.int .i64 ((s.a : Int) + 1))).setCell ⟨sb, 2, none⟩ (.int .i64 ((s.i : Int) + 1))).heap[sb]? = some (.cells #[.int .i64 ((s.a : Int) + 1), .int .i64 (s.b : Int), .int .i64 ((s.i : Int) + 1), .int .i64 (s.o : Int)] 48 (0, 0)) := by simpa using lrow_set _ sb _ _ 2 (.int .i64 ((s.i : Int) + 1)) hS4
  have hR5 := row_other hR4 sb 2 (.int .i64 ((s.i : Int) + 1)) hrs
  have hF5 := f4_other (j := 2) (x := .int .i64 ((s.i : Int) + 1)) hF4 hfs
  have hC5 := row_other hC4 sb 2 (.int .i64 ((s.i : Int) + 1)) hcne
  have hB5 := hB4.setCell (p := ⟨sb, 2, none⟩) (Nat.le_refl _) (.int .i64 ((s.i : Int) + 1))
  have HS := Lib.hid hS5
  have HR := Lib.hid hR5
  have HF := Lib.hid hF5
  have HC := Lib.hid hC5
  have HB := Lib.hid hB5
  clear hS4 hR4 hF4 hC4 hB4 hS5 hR5 hF5 hC5 hB5
  clear hSc hRc hFc hBc
  have HSET := Lib.hid hset
  clear hset
  go_wp2_with fail
  obtain ⟨w4, hw4⟩ : ∃ x, (wc.setCell ⟨sb, 0, none⟩ (.int .i64 ((s.a : Int) + 1))).setCell ⟨sb, 2, none⟩ (.int .i64 ((s.i : Int) + 1)) = x := ⟨_, rfl⟩
  have hS := HS.out
  have hR := HR.out
  have hF := HF.out
  have hC := HC.out
  have hB := HB.out
  rw [hw4] at hS hR hF hC hB ⊢
  clear hw4 HS HR HF HC HB HSET d0 d1 d2 d3 d4 d5 d6 c0 c1 c2 c3 f0 f1 f2 f3
  have hSd : (fun w' => Below sb W w' ∧ (w'.cell? ⟨fb, 0, none⟩ = some (.int .i64 n) ∧ w'.cell? ⟨fb, 1, none⟩ = some (.slice (some ⟨eb, eo, none⟩) LP cP) ∧ w'.cell? ⟨fb, 2, none⟩ = some (.slice AT LT cT) ∧ w'.cell? ⟨fb, 3, none⟩ = some (.slice AI LI cI)) ∧ (w'.cell? ⟨sb, 0, none⟩ = some (.int .i64 ((s.a : Int) + 1)) ∧ w'.cell? ⟨sb, 1, none⟩ = some (.int .i64 (s.b : Int)) ∧ w'.cell? ⟨sb, 2, none⟩ = some (.int .i64 ((s.i : Int) + 1)) ∧ w'.cell? ⟨sb, 3, none⟩ = some (.int .i64 (s.o : Int)))) w4.drew := ⟨hB.drew, hF, SpC hS⟩
  refine wp_region_held_drew (S := (fun w' => Below sb W w' ∧ (w'.cell? ⟨fb, 0, none⟩ = some (.int .i64 n) ∧ w'.cell? ⟨fb, 1, none⟩ = some (.slice (some ⟨eb, eo, none⟩) LP cP) ∧ w'.cell? ⟨fb, 2, none⟩ = some (.slice AT LT cT) ∧ w'.cell? ⟨fb, 3, none⟩ = some (.slice AI LI cI)) ∧ (w'.cell? ⟨sb, 0, none⟩ = some (.int .i64 ((s.a : Int) + 1)) ∧ w'.cell? ⟨sb, 1, none⟩ = some (.int .i64 (s.b : Int)) ∧ w'.cell? ⟨sb, 2, none⟩ = some (.int .i64 ((s.i : Int) + 1)) ∧ w'.cell? ⟨sb, 3, none⟩ = some (.int .i64 (s.o : Int))))) (by kernel_rfl) hSd (fun hHeld => ?_)
  obtain ⟨wd, hwd⟩ : ∃ x, w4.drew = x := ⟨_, rfl⟩
  replace hR := (show wd.heap[sb + 1]? = w4.heap[sb + 1]? from by rw [← hwd]; rfl).trans hR
  rw [hwd] at hHeld ⊢
  clear hwd hSd hB hF hS
  have hHeld : (fun w' => Below sb W w' ∧ (w'.cell? ⟨fb, 0, none⟩ = some (.int .i64 n) ∧ w'.cell? ⟨fb, 1, none⟩ = some (.slice (some ⟨eb, eo, none⟩) LP cP) ∧ w'.cell? ⟨fb, 2, none⟩ = some (.slice AT LT cT) ∧ w'.cell? ⟨fb, 3, none⟩ = some (.slice AI LI cI)) ∧ (w'.cell? ⟨sb, 0, none⟩ = some (.int .i64 ((s.a : Int) + 1)) ∧ w'.cell? ⟨sb, 1, none⟩ = some (.int .i64 (s.b : Int)) ∧ w'.cell? ⟨sb, 2, none⟩ = some (.int .i64 ((s.i : Int) + 1)) ∧ w'.cell? ⟨sb, 3, none⟩ = some (.int .i64 (s.o : Int)))) wd := hHeld
  refine tkH 0 ?_
  try first | simp only [pS, List.set] | simp only [pN]
  refine tkH 1 ?_
  try first | simp only [pS, List.set] | simp only [pN]
  refine tkH 2 ?_
  try first | simp only [pS, List.set] | simp only [pN]
  refine tkH 3 ?_
  try first | simp only [pS, List.set] | simp only [pN]
  refine tkH 4 ?_
  try first | simp only [pS, List.set] | simp only [pN]
  refine tkH 5 ?_
  try first | simp only [pS, List.set] | simp only [pN]
  refine tkH 6 ?_
  try first | simp only [pS, List.set] | simp only [pN]
  have f0 := row_frozen hR 0
  have f1 := row_frozen hR 1
  have f2 := row_frozen hR 2
  have f3 := row_frozen hR 3
  have z0 := row_cell hR 0
  have z1 := row_cell hR 1
  have z2 := row_cell hR 2
  have z3 := row_cell hR 3
  simp at z0 z1 z2 z3
  refine wpAnyH_ready (rs := [7]) (by kernel_rfl) (by simp) ?_
  refine AllReadyH.cons (o := ?_) ?_ (fun K hK => ?_) AllReadyH.nil
  rotate_left
  · (simp only [List.getElem?_toArray, List.getElem?_cons_succ, List.getElem?_cons_zero]; rfl)
  go_simp
  have hfin := sset4_row hR (.int .i64 ((s.a : Int) + 1)) (.int .i64 (s.b : Int)) (.int .i64 ((s.i : Int) + 1)) (.int .i64 (s.o : Int))
  have hSx : (fun w' => Below sb W w' ∧ (w'.cell? ⟨fb, 0, none⟩ = some (.int .i64 n) ∧ w'.cell? ⟨fb, 1, none⟩ = some (.slice (some ⟨eb, eo, none⟩) LP cP) ∧ w'.cell? ⟨fb, 2, none⟩ = some (.slice AT LT cT) ∧ w'.cell? ⟨fb, 3, none⟩ = some (.slice AI LI cI)) ∧ (w'.cell? ⟨sb, 0, none⟩ = some (.int .i64 ((s.a : Int) + 1)) ∧ w'.cell? ⟨sb, 1, none⟩ = some (.int .i64 (s.b : Int)) ∧ w'.cell? ⟨sb, 2, none⟩ = some (.int .i64 ((s.i : Int) + 1)) ∧ w'.cell? ⟨sb, 3, none⟩ = some (.int .i64 (s.o : Int)))) (sset4 wd (sb + 1) (.int .i64 ((s.a : Int) + 1)) (.int .i64 (s.b : Int)) (.int .i64 ((s.i : Int) + 1)) (.int .i64 (s.o : Int))) := ⟨sset4_below hHeld.1 (by omega) _ _ _ _, f4_sset hHeld.2.1 (by omega), f4_sset hHeld.2.2 (by omega)⟩
  refine hK.out _ _ hSx (fun hHeld => ?_)
  clear hK K
  try first | simp only [pS, List.set] | simp only [pN]
  refine tkH 8 ?_
  try first | simp only [pS, List.set] | simp only [pN]
  refine wpAnyH_done (by kernel_rfl) ?_ _
  go_wp2_with fail
  refine bodyPost_ret (res_put _ _ (s := ⟨s.a + 1, s.b, s.i + 1, s.o⟩) (ok := decide (((s.i : Int) - (s.o : Int)) < n)) rfl rfl hfin) rfl ?_
  exact ⟨_, _, rfl, HST.out, by rw [hsb]; exact hHeld.1⟩

end Go.Proofs.Ytgmmblknaeepbaa
