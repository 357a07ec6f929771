/- The chapter's examples of traces. -/
import Derived.Test.YtopclkkkchhgiaaDoorTrRead
import Derived.Test.YtopclkkkchhgiaaDoorTrRise
namespace Go.Proofs.YtopclkkkchhgiaaDoor
open Go.RowKit

theorem ex_line : evB ⟨5, 5, 1, 0, 3⟩ = true ∧ evLineS ⟨5, 5, 1, 0, 3⟩ = ⟨#[53, 32, 115, 116, 101, 112, 32, 49, 32, 48, 32, 51]⟩ := by
  refine ⟨by decide, ?_⟩
  unfold evLineS evLine evParts who
  rw [show Int.toNat 5 = 5 from rfl, show Int.toNat 1 = 1 from rfl, show Int.toNat 0 = 0 from rfl, show Int.toNat 3 = 3 from rfl, dd_small (show (5 : Nat) < 10 by omega), if_neg (show ¬ (1 : Int) = -1 by decide), dd_small (show (1 : Nat) < 10 by omega), dd_small (show (0 : Nat) < 10 by omega), dd_small (show (3 : Nat) < 10 by omega)]
  rfl
theorem ex_read : readX [54, 32, 105, 100, 108, 101, 32, 45, 32, 48, 32, 48] = ⟨6, 6, -1, 0, 0⟩ ∧ readOk [54, 32, 105, 100, 108, 101, 32, 45, 32, 48, 32, 48] = true := by
  have he : evLine ⟨6, 6, -1, 0, 0⟩ = [54, 32, 105, 100, 108, 101, 32, 45, 32, 48, 32, 48] := by
    unfold evLine evParts who
    rw [show Int.toNat 6 = 6 from rfl, show Int.toNat 0 = 0 from rfl, dd_small (show (6 : Nat) < 10 by omega), if_pos rfl, dd_small (show (0 : Nat) < 10 by omega)]
    rfl
  have h := read_line (e := ⟨6, 6, -1, 0, 0⟩) (evB_iff.1 (by decide))
  rw [he] at h
  unfold readX readOk
  rw [h]
  exact ⟨rfl, rfl⟩

def exE : Ev := ⟨6, 6, -1, 0, 0⟩
theorem exE_ok : exE.ok := by unfold exE Ev.ok; decide
theorem two_sl (W : World) : EvSl (W.alloc (.cells #[.int .i64 6, .int .i64 6, .int .i64 (-1), .int .i64 0, .int .i64 0, .int .i64 6, .int .i64 6, .int .i64 (-1), .int .i64 0, .int .i64 0] 23)) (W.alloc (.cells #[.int .i64 6, .int .i64 6, .int .i64 (-1), .int .i64 0, .int .i64 0, .int .i64 6, .int .i64 6, .int .i64 (-1), .int .i64 0, .int .i64 0] 23)).heap.size (some ⟨W.heap.size, 0, none⟩) [exE, exE] :=
  ⟨by rw [World.size_alloc]; exact SlOf.new W _ _ [exE, exE] rfl, fun e he => by
    simp only [List.mem_cons, List.not_mem_nil, or_false, or_self] at he
    rw [he]; exact exE_ok⟩
theorem one_sl (W : World) : EvSl (W.alloc (.cells #[.int .i64 6, .int .i64 6, .int .i64 (-1), .int .i64 0, .int .i64 0] 23)) (W.alloc (.cells #[.int .i64 6, .int .i64 6, .int .i64 (-1), .int .i64 0, .int .i64 0] 23)).heap.size (some ⟨W.heap.size, 0, none⟩) [exE] :=
  ⟨by rw [World.size_alloc]; exact SlOf.new W _ _ [exE] rfl, fun e he => by
    rw [List.mem_singleton.1 he]; exact exE_ok⟩

set_option maxRecDepth 100000 in
set_option maxHeartbeats 2000000 in
theorem awake_any (w : World) (hT : Tab w) (hM : Mx w) : Calls Tryd.prog 9 #[] w fun e w' => e = .returned (.bool true) ∧ Below w.heap.size w w' := by
  have hln := fun W hT => line_any ⟨5, 5, 1, 0, 3⟩ W hT
  unfold lineR at hln
  rw [if_pos ex_line.1, ex_line.1, ex_line.2] at hln
  have hrd := fun W hT hM => tread_any ⟨#[54, 32, 105, 100, 108, 101, 32, 45, 32, 48, 32, 48]⟩ W (by decide) hT hM
  simp only [ex_read.1, ex_read.2, evV] at hrd
  have hln' := Lib.hid hln
  have hrd' := Lib.hid hrd
  clear hln hrd
  go_enter Tryd.func9, Tryd.ntmps9
  go_wp2_with fail
  refine (hln'.out _ hT).mono ?_
  rintro e w1 ⟨rfl, hb1⟩
  go_wp2_with fail
  refine (hrd'.out _ (hT.below hb1) (hM.below hb1)).mono ?_
  rintro e w2 ⟨rfl, hb2⟩
  have hB2 := hb1.trans (hb2.mono hb1.size)
  clear hb1 hb2 hT hM
  go_wp2_with fail
  have hr2 := rises_any (some ⟨(w2.alloc (.cells #[.int .i64 6, .int .i64 6, .int .i64 (-1), .int .i64 0, .int .i64 0] 23)).heap.size, 0, none⟩) 2 [exE, exE] _ (by simp) (two_sl (w2.alloc (.cells #[.int .i64 6, .int .i64 6, .int .i64 (-1), .int .i64 0, .int .i64 0] 23)))
  rw [show upTo [exE, exE] ([exE, exE].length - 1) = true by decide, World.size_alloc] at hr2
  have hbx := EvBox.new w2 exE
  have hB3 := ((hB2.alloc hB2.size (.cells #[.int .i64 6, .int .i64 6, .int .i64 (-1), .int .i64 0, .int .i64 0] 23))).alloc (hB2.alloc hB2.size (.cells #[.int .i64 6, .int .i64 6, .int .i64 (-1), .int .i64 0, .int .i64 0] 23)).size (.cells #[.int .i64 6, .int .i64 6, .int .i64 (-1), .int .i64 0, .int .i64 0, .int .i64 6, .int .i64 6, .int .i64 (-1), .int .i64 0, .int .i64 0] 23)
  refine hr2.mono ?_
  rintro e w4 ⟨rfl, hb4⟩
  have hbx4 := (hbx.kept ((Below.refl _ (w2.alloc (.cells #[.int .i64 6, .int .i64 6, .int .i64 (-1), .int .i64 0, .int .i64 0] 23))).alloc (Nat.le_refl _) (.cells #[.int .i64 6, .int .i64 6, .int .i64 (-1), .int .i64 0, .int .i64 0, .int .i64 6, .int .i64 6, .int .i64 (-1), .int .i64 0, .int .i64 0] 23))).kept hb4
  have hB4 := hB3.trans (hb4.mono hB3.size)
  obtain ⟨nb, hnb⟩ : ∃ x, w2.heap.size = x := ⟨_, rfl⟩
  rw [hnb] at hbx4 ⊢
  obtain ⟨b0, b1, b2, b3, b4⟩ := hbx4.cells
  clear hb4 hB3 hbx hr2 hB2 hnb
  have hr4 := count_any (some ⟨w4.heap.size, 0, none⟩) 1 [exE] 0 (-2) _ (by simp) (one_sl w4)
  rw [show (picks 0 (-2) [exE]).length = 1 by decide] at hr4
  have hB5 := hB4.alloc hB4.size (.cells #[.int .i64 6, .int .i64 6, .int .i64 (-1), .int .i64 0, .int .i64 0] 23)
  go_wp2_with fail
  refine hr4.mono ?_
  rintro e w5 ⟨rfl, hb5⟩
  have hB6 := hB5.trans (hb5.mono hB5.size)
  go_wp2_with fail
  go_ret
  exact ⟨rfl, hB6⟩

end Go.Proofs.YtopclkkkchhgiaaDoor
