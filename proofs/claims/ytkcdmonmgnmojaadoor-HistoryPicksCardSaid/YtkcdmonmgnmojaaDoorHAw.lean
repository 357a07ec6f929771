/- Histories: the chapter's example, with the line of any call at hand. -/
import Derived.Test.YtkcdmonmgnmojaaDoorHis5
import Derived.Test.YtkcdmonmgnmojaaDoorHLn1
namespace Go.Proofs.YtkcdmonmgnmojaaDoor
open Go.RowKit

def exC : Cl := ⟨2, 0, 1, [7, 8], 0, 5, 9⟩
theorem ex_line : lineH exC = [50, 32, 48, 32, 114, 101, 97, 100, 32, 53, 32, 57, 32, 103, 111, 111, 100, 32, 55, 32, 56] := by
  unfold lineH partsH six recW exC endW
  simp only [List.map_cons, List.map_nil]
  rw [if_pos (by decide), show Int.toNat 2 = 2 from rfl, show Int.toNat 0 = 0 from rfl, show Int.toNat 5 = 5 from rfl, show Int.toNat 9 = 9 from rfl, show Int.toNat 7 = 7 from rfl, show Int.toNat 8 = 8 from rfl, dd_small (show (2 : Nat) < 10 by omega), dd_small (show (0 : Nat) < 10 by omega), dd_small (show (5 : Nat) < 10 by omega), dd_small (show (9 : Nat) < 10 by omega), dd_small (show (7 : Nat) < 10 by omega), dd_small (show (8 : Nat) < 10 by omega)]
  rfl
theorem hline_ex (A : Option Addr) (c : Nat) (w : World) (hA : Ws w w.heap.size A [7, 8]) (hT : Tab w) : Calls Tryd.prog 28 #[.agg #[.int .i64 2, .int .i64 0, .int .i64 1, .slice A 2 c, .int .i64 0, .int .i64 5, .int .i64 9]] w fun r w' => r = .returned (.tuple #[.string ⟨#[50, 32, 48, 32, 114, 101, 97, 100, 32, 53, 32, 57, 32, 103, 111, 111, 100, 32, 55, 32, 56]⟩, .bool true]) ∧ Below w.heap.size w w' := by
  have h := hline_yes exC A c w (by decide) hA hT
  have e : lineHS exC = ⟨#[50, 32, 48, 32, 114, 101, 97, 100, 32, 53, 32, 57, 32, 103, 111, 111, 100, 32, 55, 32, 56]⟩ := by
    unfold lineHS
    rw [ex_line]
  rw [e] at h
  exact h
theorem one_cl (W : World) (x : Cl) (A : Option Addr) (c : Nat) (hA : Ws W W.heap.size A x.r) (h1 : x.r.length ≤ c) (h2 : c ≤ maxLen) :
    ClSl (W.alloc (.cells #[.int .i64 x.p, .int .i64 x.o, .int .i64 x.q, .slice A x.r.length c, .int .i64 x.c, .int .i64 x.b, .int .i64 x.e] 45)) (W.alloc (.cells #[.int .i64 x.p, .int .i64 x.o, .int .i64 x.q, .slice A x.r.length c, .int .i64 x.c, .int .i64 x.b, .int .i64 x.e] 45)).heap.size (some ⟨W.heap.size, 0, none⟩) [x] := by
  intro k y hy
  have hk : k = 0 := by
    have := get_lt hy
    simp at this
    exact this
  subst hk
  injection hy with hy
  subst hy
  obtain ⟨a0, a1, a2, a3, a4, a5, a6⟩ := (ClBox.new W x A c).cells
  exact ⟨W.heap.size, 0, A, c, rfl, by simp, ⟨a0, a1, a2, a3, a4, a5, a6⟩, hA.below ((Below.refl _ W).alloc (Nat.le_refl _) _) (by simp), h1, h2⟩
theorem sorted_two : sorted [2] = [2] := by
  unfold sorted
  rw [List.mergeSort_singleton]
  rfl
theorem rightH_ex : rightH [exC] = true := by decide

set_option maxRecDepth 100000 in
set_option maxHeartbeats 4000000 in
theorem hawake_any (w : World) (hT : Tab w) : Calls Tryd.prog 21 #[] w fun e w' => e = .returned (.bool true) ∧ Below w.heap.size w w' := by
  have hW : Ws (w.alloc (.cells #[.int .u32 7, .int .u32 8] 22)) (w.alloc (.cells #[.int .u32 7, .int .u32 8] 22)).heap.size (some ⟨w.heap.size, 0, none⟩) [7, 8] :=
    ⟨by rw [World.size_alloc]; exact SlOf.new w _ _ [7, 8] rfl, by decide⟩
  have hb0 := (Below.refl w.heap.size w).alloc (Nat.le_refl _) (.cells #[.int .u32 7, .int .u32 8] 22)
  have hbx := ClBox.new (w.alloc (.cells #[.int .u32 7, .int .u32 8] 22)) exC (some ⟨w.heap.size, 0, none⟩) 2
  have hb1 := (Below.refl (w.alloc (.cells #[.int .u32 7, .int .u32 8] 22)).heap.size (w.alloc (.cells #[.int .u32 7, .int .u32 8] 22))).alloc (Nat.le_refl _) (.cells #[.int .i64 2, .int .i64 0, .int .i64 1, .slice (some ⟨w.heap.size, 0, none⟩) 2 2, .int .i64 0, .int .i64 5, .int .i64 9] 45)
  have hln := Lib.hid (hline_ex (some ⟨w.heap.size, 0, none⟩) 2 _ (hW.below hb1 hb1.size) ((hT.below hb0).below (hb1.mono (Nat.le_refl _))))
  have hB1 := hb0.trans (hb1.mono hb0.size)
  have hW1 := hW.below hb1 hb1.size
  clear hW hb0 hb1
  go_enter Tryd.func21, Tryd.ntmps21
  go_wp2_with fail
  refine hln.out.mono ?_
  rintro e w2 ⟨rfl, hb2⟩
  have hbx2 := hbx.kept (hb2)
  have hW2 := hW1.below hb2 hb2.size
  have hB2 := hB1.trans (hb2.mono hB1.size)
  clear hln hbx hW1 hB1 hb2
  obtain ⟨nb, hnb⟩ : ∃ x, (w.alloc (.cells #[.int .u32 7, .int .u32 8] 22)).heap.size = x := ⟨_, rfl⟩
  obtain ⟨a, ha⟩ : ∃ x, w.heap.size = x := ⟨_, rfl⟩
  rw [hnb] at hbx2
  rw [World.size_alloc] at hnb
  rw [hnb]
  rw [ha] at hbx2 hW2 ⊢
  obtain ⟨d0, d1, d2, d3, d4, d5, d6⟩ := hbx2.cells
  simp only [exC, List.length_cons, List.length_nil, Nat.zero_add, Nat.reduceAdd] at d0 d1 d2 d3 d4 d5 d6
  have hcl := one_cl w2 exC (some ⟨a, 0, none⟩) 2 hW2 (by decide) (by decide)
  have hr := histRight_any (some ⟨w2.heap.size, 0, none⟩) 1 [exC] _ (by decide) (by decide) hcl
  rw [rightH_ex] at hr
  have hb3 := (Below.refl w2.heap.size w2).alloc (Nat.le_refl _) (.cells #[.int .i64 2, .int .i64 0, .int .i64 1, .slice (some ⟨a, 0, none⟩) 2 2, .int .i64 0, .int .i64 5, .int .i64 9] 45)
  have hbx3 := hbx2.kept hb3
  have hr' := Lib.hid hr
  have hB3 := hB2.trans (hb3.mono hB2.size)
  have hW3 := hW2.below hb3 hb3.size
  clear hr hcl hbx2
  go_wp2_with fail
  refine hr'.out.mono ?_
  rintro e w4 ⟨rfl, hb4⟩
  have hbx4 := hbx3.kept hb4
  have hW4 := hW3.below hb4 hb4.size
  have hB4 := hB3.trans (hb4.mono hB3.size)
  clear d0 d1 d2 d3 d4 d5 d6 hr' hB3 hW3 hbx3 hb4 hb3 hB2 hW2
  obtain ⟨d0, d1, d2, d3, d4, d5, d6⟩ := hbx4.cells
  simp only [exC, List.length_cons, List.length_nil, Nat.zero_add, Nat.reduceAdd] at d0 d1 d2 d3 d4 d5 d6
  have hcl := one_cl w4 exC (some ⟨a, 0, none⟩) 2 hW4 (by decide) (by decide)
  have hp := Lib.hid (procs_any (some ⟨w4.heap.size, 0, none⟩) 1 [exC] _ (by decide) hcl)
  have hB5 := hB4.alloc hB4.size (.cells #[.int .i64 2, .int .i64 0, .int .i64 1, .slice (some ⟨a, 0, none⟩) 2 2, .int .i64 0, .int .i64 5, .int .i64 9] 45)
  clear hcl
  go_wp2_with fail
  refine hp.out.mono ?_
  rintro e w5 ⟨v, rfl, hown, hb5⟩
  rw [show sorted ([exC].map (·.p)) = [2] from sorted_two] at hown
  obtain ⟨A', c', rfl, hcl', hne, hsl⟩ := hown.sl
  have hB6 := hB5.trans (hb5.mono hB5.size)
  have hb6 := (Below.refl w5.heap.size w5).alloc (Nat.le_refl _) (.cells #[.int .i64 2] 3)
  have hB7 := hB6.trans (hb6.mono hB6.size)
  have hi := ints_any A' (some ⟨w5.heap.size, 0, none⟩) c' 1 [2] [2] (w5.alloc (.cells #[.int .i64 2] 3)) (by decide) (by decide) (hsl.below hb6 hb6.size) (by rw [World.size_alloc]; exact SlOf.new w5 _ _ [2] rfl)
  rw [decide_eq_true (rfl : ([2] : List Int) = [2])] at hi
  have hi' := Lib.hid hi
  clear hi hsl hown hp hB4 hB5 hb5 hB6 hb6
  go_wp2_with fail
  refine hi'.out.mono ?_
  rintro e w6 ⟨rfl, hb7⟩
  go_wp2_with fail
  go_ret
  exact ⟨rfl, by first | exact hB7.trans (hb7.mono hB7.size) | (rw [← ha]; exact hB7.trans (hb7.mono hB7.size))⟩

end Go.Proofs.YtkcdmonmgnmojaaDoor
