/- A queue's laws: the chapter's examples (awake). -/
import Derived.Test.YtgmmblknaeepbaaZlL
namespace Go.Proofs.Ytgmmblknaeepbaa
open Go.RowKit

def clP : Cl := ⟨0, 0, 3, [7], 0, 0, 3⟩
def clA : Cl := ⟨1, 0, 4, [], 3, 4, 5⟩
def clB2 : Cl := ⟨1, 0, 4, [], 3, 1, 2⟩
theorem sort_two {x y : Cl} (h : x.b < y.b) : SortOf [x, y] [x, y] := by
  refine ⟨[⟨x, none, 0, 0⟩, ⟨y, none, 0, 1⟩], [⟨x, none, 0, 0⟩, ⟨y, none, 0, 1⟩], rfl, rfl, fun k e hk => ?_, List.Perm.refl _, ?_⟩
  · match k, hk with
    | 0, hk => simp at hk; subst hk; rfl
    | 1, hk => simp at hk; subst hk; rfl
    | k + 2, hk => simp at hk
  · refine List.pairwise_cons.2 ⟨fun e he => ?_, List.pairwise_singleton _ _⟩
    rw [List.mem_singleton.1 he]
    exact .inl h
theorem lens_a : lensOf 2 [clP, clA] = [] := by
  have h : endsOf 2 [clP, clA] = [] := by decide
  unfold lensOf
  rw [h, List.mergeSort_nil]
  rfl
theorem lens_b : lensOf 2 [clP, clB2] = [1] := by
  have h : endsOf 2 [clP, clB2] = [1] := by decide
  unfold lensOf
  rw [h, List.mergeSort_singleton]
  decide
theorem fits_a : fitsB [clP, clA] = true := by decide
theorem fits_b : fitsB [clP, clB2] = true := by decide
theorem cl_two {W : World} {g : Nat} {x y : Cl} {Ax Ay : Option Addr} {cx cy : Nat} (h : W.heap[g]? = some (.cells #[.int .i64 x.p, .int .i64 x.o, .int .i64 x.q, .slice Ax x.r.length cx, .int .i64 x.c, .int .i64 x.b, .int .i64 x.e, .int .i64 y.p, .int .i64 y.o, .int .i64 y.q, .slice Ay y.r.length cy, .int .i64 y.c, .int .i64 y.b, .int .i64 y.e] 32 (0, 0)))
    (hx : Ws W W.heap.size Ax x.r ∧ x.r.length ≤ cx ∧ cx ≤ maxLen) (hy : Ws W W.heap.size Ay y.r ∧ y.r.length ≤ cy ∧ cy ≤ maxLen) : ClSl W W.heap.size (some ⟨g, 0, none⟩) [x, y] := fun k z hz => by
  match k, hz with
  | 0, hz =>
    simp at hz
    subst hz
    exact ⟨g, 0, Ax, cx, rfl, row_lt h, ⟨row_cell h 0, row_cell h 1, row_cell h 2, row_cell h 3, row_cell h 4, row_cell h 5, row_cell h 6⟩, hx⟩
  | 1, hz =>
    simp at hz
    subst hz
    exact ⟨g, 0, Ay, cy, rfl, row_lt h, ⟨row_cell h 7, row_cell h 8, row_cell h 9, row_cell h 10, row_cell h 11, row_cell h 12, row_cell h 13⟩, hy⟩
  | k + 2, hz => simp at hz
theorem ws_seven {W : World} {g : Nat} (h : W.heap[g]? = some (.cells #[.int .u32 7] 33 (0, 0))) : Ws W W.heap.size (some ⟨g, 0, none⟩) [7] := by
  refine ⟨fun k z hz => ?_, fun z hz => by rw [List.mem_singleton.1 hz]; decide⟩
  match k, hz with
  | 0, hz =>
    simp at hz
    subst hz
    refine ⟨g, 0, rfl, row_lt h, fun j u hu => ?_⟩
    match j, hu with
    | 0, hu =>
      have e : u = .int .u32 7 := by simpa [ints, Enc.of1] using hu.symm
      subst e
      exact row_cell h 0
    | j + 1, hu => simp [ints, Enc.of1] at hu
  | k + 1, hz => simp at hz
theorem check_a {W : World} {g rb : Nat} (h : W.heap[g]? = some (.cells #[.int .i64 0, .int .i64 0, .int .i64 3, .slice (some ⟨rb, 0, none⟩) 1 1, .int .i64 0, .int .i64 0, .int .i64 3, .int .i64 1, .int .i64 0, .int .i64 4, .slice none 0 0, .int .i64 3, .int .i64 4, .int .i64 5] 32 (0, 0)))
    (hr : W.heap[rb]? = some (.cells #[.int .u32 7] 33 (0, 0))) : Calls Try.prog 13 #[.int .i64 2, .slice (some ⟨g, 0, none⟩) 2 2] W fun e w' => e = .returned (.bool false) ∧ Below W.heap.size W w' := by
  have hl := cl_two (x := clP) (y := clA) (Ax := some ⟨rb, 0, none⟩) (cx := 1) (Ay := none) (cy := 0) h ⟨ws_seven hr, by decide, by decide⟩ ⟨⟨SlOf.nil, fun z hz => by cases hz⟩, by decide, by decide⟩
  refine (check_any 2 (some ⟨g, 0, none⟩) 2 [clP, clA] W (by decide) (by decide) (by decide) hl).mono ?_
  rintro e w1 ⟨Z, rfl, _, h2, hb⟩
  obtain ⟨S, hS, rfl⟩ := h2 fits_a
  rw [hS.one (sort_two (by decide)), lens_a]
  exact ⟨rfl, hb⟩
theorem check_b {W : World} {g rb : Nat} (h : W.heap[g]? = some (.cells #[.int .i64 0, .int .i64 0, .int .i64 3, .slice (some ⟨rb, 0, none⟩) 1 1, .int .i64 0, .int .i64 0, .int .i64 3, .int .i64 1, .int .i64 0, .int .i64 4, .slice none 0 0, .int .i64 3, .int .i64 1, .int .i64 2] 32 (0, 0)))
    (hr : W.heap[rb]? = some (.cells #[.int .u32 7] 33 (0, 0))) : (Calls Try.prog 13 #[.int .i64 2, .slice (some ⟨g, 0, none⟩) 2 2] W fun e w' => e = .returned (.bool true) ∧ Below W.heap.size W w') ∧
      Calls Try.prog 12 #[.int .i64 2, .slice (some ⟨g, 0, none⟩) 2 2] W fun e w' => ∃ A c, e = .returned (.slice A 1 c) ∧ SlOf (ints .i64) w' w'.heap.size A [1] ∧ Below W.heap.size W w' := by
  have hl := cl_two (x := clP) (y := clB2) (Ax := some ⟨rb, 0, none⟩) (cx := 1) (Ay := none) (cy := 0) h ⟨ws_seven hr, by decide, by decide⟩ ⟨⟨SlOf.nil, fun z hz => by cases hz⟩, by decide, by decide⟩
  constructor
  · refine (check_any 2 (some ⟨g, 0, none⟩) 2 [clP, clB2] W (by decide) (by decide) (by decide) hl).mono ?_
    rintro e w1 ⟨Z, rfl, _, h2, hb⟩
    obtain ⟨S, hS, rfl⟩ := h2 fits_b
    rw [hS.one (sort_two (by decide)), lens_b]
    exact ⟨rfl, hb⟩
  · refine (lengths_any 2 (some ⟨g, 0, none⟩) 2 [clP, clB2] W (by decide) (by decide) (by decide) hl).mono ?_
    rintro e w1 ⟨v, Z, rfl, hO, _, h2, hb⟩
    obtain ⟨S, hS, rfl⟩ := h2 fits_b
    rw [hS.one (sort_two (by decide)), lens_b] at hO
    obtain ⟨A, c, rfl, _, _, hs⟩ := hO.sl
    exact ⟨A, c, rfl, hs, hb⟩

set_option maxRecDepth 100000 in
set_option maxHeartbeats 4000000 in
theorem awake_any (w : World) : Calls Try.prog 7 #[] w fun e w' => e = .returned (.bool true) ∧ Below w.heap.size w w' := by
  obtain ⟨n, hn⟩ : ∃ x, w.heap.size = x := ⟨_, rfl⟩
  obtain ⟨w1, hw1⟩ : ∃ x, w.alloc (.cells #[.int .u32 7] 33) = x := ⟨_, rfl⟩
  have rw1 := heap_alloc_new w (.cells #[.int .u32 7] 33)
  have bw1 := (Below.refl w.heap.size w).alloc (Nat.le_refl _) (.cells #[.int .u32 7] 33)
  rw [hw1] at rw1 bw1
  rw [hn] at rw1
  obtain ⟨n1, hn1⟩ : ∃ x, w1.heap.size = x := ⟨_, rfl⟩
  obtain ⟨w2, hw2⟩ : ∃ x, w1.alloc (.cells #[.int .i64 0, .int .i64 0, .int .i64 3, .slice (some ⟨n, 0, none⟩) 1 1, .int .i64 0, .int .i64 0, .int .i64 3] 32) = x := ⟨_, rfl⟩
  have rw2 := heap_alloc_new w1 (.cells #[.int .i64 0, .int .i64 0, .int .i64 3, .slice (some ⟨n, 0, none⟩) 1 1, .int .i64 0, .int .i64 0, .int .i64 3] 32)
  have bw2 := (Below.refl w1.heap.size w1).alloc (Nat.le_refl _) (.cells #[.int .i64 0, .int .i64 0, .int .i64 3, .slice (some ⟨n, 0, none⟩) 1 1, .int .i64 0, .int .i64 0, .int .i64 3] 32)
  rw [hw2] at rw2 bw2
  rw [hn1] at rw2
  obtain ⟨n2, hn2⟩ : ∃ x, w2.heap.size = x := ⟨_, rfl⟩
  obtain ⟨w3, hw3⟩ : ∃ x, w2.alloc (.cells #[.int .i64 1, .int .i64 0, .int .i64 4, .slice none 0 0, .int .i64 3, .int .i64 4, .int .i64 5] 32) = x := ⟨_, rfl⟩
  have rw3 := heap_alloc_new w2 (.cells #[.int .i64 1, .int .i64 0, .int .i64 4, .slice none 0 0, .int .i64 3, .int .i64 4, .int .i64 5] 32)
  have bw3 := (Below.refl w2.heap.size w2).alloc (Nat.le_refl _) (.cells #[.int .i64 1, .int .i64 0, .int .i64 4, .slice none 0 0, .int .i64 3, .int .i64 4, .int .i64 5] 32)
  rw [hw3] at rw3 bw3
  rw [hn2] at rw3
  obtain ⟨n3, hn3⟩ : ∃ x, w3.heap.size = x := ⟨_, rfl⟩
  obtain ⟨w4, hw4⟩ : ∃ x, w3.alloc (.cells #[.int .i64 1, .int .i64 0, .int .i64 4, .slice none 0 0, .int .i64 3, .int .i64 1, .int .i64 2] 32) = x := ⟨_, rfl⟩
  have rw4 := heap_alloc_new w3 (.cells #[.int .i64 1, .int .i64 0, .int .i64 4, .slice none 0 0, .int .i64 3, .int .i64 1, .int .i64 2] 32)
  have bw4 := (Below.refl w3.heap.size w3).alloc (Nat.le_refl _) (.cells #[.int .i64 1, .int .i64 0, .int .i64 4, .slice none 0 0, .int .i64 3, .int .i64 1, .int .i64 2] 32)
  rw [hw4] at rw4 bw4
  rw [hn3] at rw4
  obtain ⟨n4, hn4⟩ : ∃ x, w4.heap.size = x := ⟨_, rfl⟩
  obtain ⟨w5, hw5⟩ : ∃ x, w4.alloc (.cells #[.int .i64 0, .int .i64 0, .int .i64 3, .slice (some ⟨n, 0, none⟩) 1 1, .int .i64 0, .int .i64 0, .int .i64 3, .int .i64 1, .int .i64 0, .int .i64 4, .slice none 0 0, .int .i64 3, .int .i64 4, .int .i64 5] 32) = x := ⟨_, rfl⟩
  have rw5 := heap_alloc_new w4 (.cells #[.int .i64 0, .int .i64 0, .int .i64 3, .slice (some ⟨n, 0, none⟩) 1 1, .int .i64 0, .int .i64 0, .int .i64 3, .int .i64 1, .int .i64 0, .int .i64 4, .slice none 0 0, .int .i64 3, .int .i64 4, .int .i64 5] 32)
  have bw5 := (Below.refl w4.heap.size w4).alloc (Nat.le_refl _) (.cells #[.int .i64 0, .int .i64 0, .int .i64 3, .slice (some ⟨n, 0, none⟩) 1 1, .int .i64 0, .int .i64 0, .int .i64 3, .int .i64 1, .int .i64 0, .int .i64 4, .slice none 0 0, .int .i64 3, .int .i64 4, .int .i64 5] 32)
  rw [hw5] at rw5 bw5
  rw [hn4] at rw5
  have u5 := row_kept (row_kept (row_kept (row_kept rw1 bw2) bw3) bw4) bw5
  have p4 := row_kept (row_kept rw2 bw3) bw4
  have a4 := row_kept rw3 bw4
  have p5 := row_kept p4 bw5
  have q5 := row_kept rw4 bw5
  have B5 : Below w.heap.size w w5 := ((((bw1.trans (bw2.mono bw1.size)).trans (bw3.mono (Nat.le_trans bw1.size bw2.size))).trans (bw4.mono (Nat.le_trans bw1.size (Nat.le_trans bw2.size bw3.size)))).trans (bw5.mono (Nat.le_trans bw1.size (Nat.le_trans bw2.size (Nat.le_trans bw3.size bw4.size)))))
  rw [hn]
  have k0 := check_a rw5 u5
  have x0 := row_cell p4 0
  have y0 := row_cell a4 0
  have x1 := row_cell p4 1
  have y1 := row_cell a4 1
  have x2 := row_cell p4 2
  have y2 := row_cell a4 2
  have x3 := row_cell p4 3
  have y3 := row_cell a4 3
  have x4 := row_cell p4 4
  have y4 := row_cell a4 4
  have x5 := row_cell p4 5
  have y5 := row_cell a4 5
  have x6 := row_cell p4 6
  have y6 := row_cell a4 6
  simp at x0 y0 x1 y1 x2 y2 x3 y3 x4 y4 x5 y5 x6 y6
  have K0 := Lib.hid k0
  have U5 := Lib.hid u5
  have P5 := Lib.hid p5
  have Q5 := Lib.hid q5
  have BB5 := Lib.hid B5
  clear k0 u5 p5 q5 B5 rw1 rw2 rw3 rw4 rw5 bw1 bw2 bw3 bw4 bw5 p4 a4
  go_enter Try.func7, Try.ntmps7
  go_wp2_with fail
  refine K0.out.mono ?_
  rintro e w6 ⟨rfl, b6⟩
  have u6 := row_kept U5.out b6
  have p6 := row_kept P5.out b6
  have q6 := row_kept Q5.out b6
  have BB6 := Lib.hid (BB5.out.trans (b6.mono BB5.out.size))
  clear x0 x1 x2 x3 x4 x5 x6 y0 y1 y2 y3 y4 y5 y6 b6
  have x0 := row_cell p6 0
  have y0 := row_cell q6 0
  have x1 := row_cell p6 1
  have y1 := row_cell q6 1
  have x2 := row_cell p6 2
  have y2 := row_cell q6 2
  have x3 := row_cell p6 3
  have y3 := row_cell q6 3
  have x4 := row_cell p6 4
  have y4 := row_cell q6 4
  have x5 := row_cell p6 5
  have y5 := row_cell q6 5
  have x6 := row_cell p6 6
  have y6 := row_cell q6 6
  simp at x0 y0 x1 y1 x2 y2 x3 y3 x4 y4 x5 y5 x6 y6
  obtain ⟨m6, hm6⟩ : ∃ x, w6.heap.size = x := ⟨_, rfl⟩
  obtain ⟨w7, hw7⟩ : ∃ x, w6.alloc (.cells #[.int .i64 0, .int .i64 0, .int .i64 3, .slice (some ⟨n, 0, none⟩) 1 1, .int .i64 0, .int .i64 0, .int .i64 3, .int .i64 1, .int .i64 0, .int .i64 4, .slice none 0 0, .int .i64 3, .int .i64 1, .int .i64 2] 32) = x := ⟨_, rfl⟩
  have r7 := heap_alloc_new w6 (.cells #[.int .i64 0, .int .i64 0, .int .i64 3, .slice (some ⟨n, 0, none⟩) 1 1, .int .i64 0, .int .i64 0, .int .i64 3, .int .i64 1, .int .i64 0, .int .i64 4, .slice none 0 0, .int .i64 3, .int .i64 1, .int .i64 2] 32)
  have b7 := (Below.refl w6.heap.size w6).alloc (Nat.le_refl _) (.cells #[.int .i64 0, .int .i64 0, .int .i64 3, .slice (some ⟨n, 0, none⟩) 1 1, .int .i64 0, .int .i64 0, .int .i64 3, .int .i64 1, .int .i64 0, .int .i64 4, .slice none 0 0, .int .i64 3, .int .i64 1, .int .i64 2] 32)
  rw [hw7] at r7 b7
  rw [hm6] at r7
  have U7 := Lib.hid (row_kept u6 b7)
  have P7 := Lib.hid (row_kept p6 b7)
  have Q7 := Lib.hid (row_kept q6 b7)
  have BB7 := Lib.hid (BB6.out.trans (b7.mono BB6.out.size))
  have KK7 := Lib.hid (check_b r7 U7.out)
  clear u6 p6 q6 b7 r7
  go_wp2_with fail
  refine KK7.out.1.mono ?_
  rintro e w8 ⟨rfl, b8⟩
  have u8 := row_kept U7.out b8
  have p8 := row_kept P7.out b8
  have q8 := row_kept Q7.out b8
  have BB8 := Lib.hid (BB7.out.trans (b8.mono BB7.out.size))
  clear x0 x1 x2 x3 x4 x5 x6 y0 y1 y2 y3 y4 y5 y6 b8
  have x0 := row_cell p8 0
  have y0 := row_cell q8 0
  have x1 := row_cell p8 1
  have y1 := row_cell q8 1
  have x2 := row_cell p8 2
  have y2 := row_cell q8 2
  have x3 := row_cell p8 3
  have y3 := row_cell q8 3
  have x4 := row_cell p8 4
  have y4 := row_cell q8 4
  have x5 := row_cell p8 5
  have y5 := row_cell q8 5
  have x6 := row_cell p8 6
  have y6 := row_cell q8 6
  simp at x0 y0 x1 y1 x2 y2 x3 y3 x4 y4 x5 y5 x6 y6
  obtain ⟨m8, hm8⟩ : ∃ x, w8.heap.size = x := ⟨_, rfl⟩
  obtain ⟨w9, hw9⟩ : ∃ x, w8.alloc (.cells #[.int .i64 0, .int .i64 0, .int .i64 3, .slice (some ⟨n, 0, none⟩) 1 1, .int .i64 0, .int .i64 0, .int .i64 3, .int .i64 1, .int .i64 0, .int .i64 4, .slice none 0 0, .int .i64 3, .int .i64 1, .int .i64 2] 32) = x := ⟨_, rfl⟩
  have r9 := heap_alloc_new w8 (.cells #[.int .i64 0, .int .i64 0, .int .i64 3, .slice (some ⟨n, 0, none⟩) 1 1, .int .i64 0, .int .i64 0, .int .i64 3, .int .i64 1, .int .i64 0, .int .i64 4, .slice none 0 0, .int .i64 3, .int .i64 1, .int .i64 2] 32)
  have b9 := (Below.refl w8.heap.size w8).alloc (Nat.le_refl _) (.cells #[.int .i64 0, .int .i64 0, .int .i64 3, .slice (some ⟨n, 0, none⟩) 1 1, .int .i64 0, .int .i64 0, .int .i64 3, .int .i64 1, .int .i64 0, .int .i64 4, .slice none 0 0, .int .i64 3, .int .i64 1, .int .i64 2] 32)
  rw [hw9] at r9 b9
  rw [hm8] at r9
  have U9 := Lib.hid (row_kept u8 b9)
  have P9 := Lib.hid (row_kept p8 b9)
  have Q9 := Lib.hid (row_kept q8 b9)
  have BB9 := Lib.hid (BB8.out.trans (b9.mono BB8.out.size))
  have KK9 := Lib.hid (check_b r9 U9.out)
  clear u8 p8 q8 b9 r9
  go_wp2_with fail
  refine KK9.out.2.mono ?_
  rintro e w10 ⟨A, c, rfl, hs, b10⟩
  have BB10 := Lib.hid (BB9.out.trans (b10.mono BB9.out.size))
  obtain ⟨m10, hm10⟩ : ∃ x, w10.heap.size = x := ⟨_, rfl⟩
  obtain ⟨w11, hw11⟩ : ∃ x, w10.alloc (.cells #[.int .i64 1] 3) = x := ⟨_, rfl⟩
  have hnew := SlOf.new (E := ints .i64) w10 #[.int .i64 1] 3 [1] rfl
  have b11 := (Below.refl w10.heap.size w10).alloc (Nat.le_refl _) (.cells #[.int .i64 1] 3)
  have hz11 : w11.heap.size = w10.heap.size + 1 := by rw [← hw11, World.size_alloc]
  rw [hw11] at hnew b11
  rw [← hz11, hm10] at hnew
  have hi := ints_any A (some ⟨m10, 0, none⟩) c 1 [1] [1] w11 (by decide) (by decide) (hs.below b11 b11.size) hnew
  rw [show decide (([1] : List Int) = [1]) = true from rfl] at hi
  have HI := Lib.hid (show Calls Try.prog 11 #[.slice A 1 c, .slice (some ⟨m10, 0, none⟩) 1 1] w11 _ from hi)
  have BB11 := Lib.hid (BB10.out.trans (b11.mono BB10.out.size))
  clear hs b10 hnew b11 hz11 hi x0 x1 x2 x3 x4 x5 x6 y0 y1 y2 y3 y4 y5 y6
  go_wp2_with fail
  refine HI.out.mono ?_
  rintro e w12 ⟨rfl, b12⟩
  have BB12 := Lib.hid (BB11.out.trans (b12.mono BB11.out.size))
  clear b12
  go_wp2_with fail
  go_ret
  exact ⟨rfl, by have h := BB12.out; rw [hn] at h; exact h⟩

end Go.Proofs.Ytgmmblknaeepbaa
