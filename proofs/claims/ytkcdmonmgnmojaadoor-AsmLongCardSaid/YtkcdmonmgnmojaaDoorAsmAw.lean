/- The chapter's examples of instructions. -/
import Derived.Test.YtkcdmonmgnmojaaDoorAsmRd
namespace Go.Proofs.YtkcdmonmgnmojaaDoor
open Go.RowKit

theorem line_ex {i : Ins} (e : List UInt8) (h : (shOf i.op).w ++ Lib.joinTail [32] ((opsL i).map partL) = e) : lineL i = e := by
  rw [← h]
  unfold lineL partsL
  rw [Lib.join_cons]
theorem ex_line : insB ⟨13, 1, 2, 3, 4⟩ = true ∧ lineL ⟨13, 1, 2, 3, 4⟩ = [99, 97, 115, 32, 114, 49, 32, 114, 50, 32, 114, 51, 32, 52] := by
  refine ⟨by decide, line_ex _ ?_⟩
  show (shOf 13).w ++ Lib.joinTail [32] (([([114], (1 : Int)), ([114], 2), ([114], 3), ([], 4)] : List (List UInt8 × Int)).map partL) = _
  simp only [List.map_cons, List.map_nil, partL]
  rw [show Int.toNat 1 = 1 from rfl, show Int.toNat 2 = 2 from rfl, show Int.toNat 3 = 3 from rfl, show Int.toNat 4 = 4 from rfl, dd_small (show (1 : Nat) < 10 by omega), dd_small (show (2 : Nat) < 10 by omega), dd_small (show (3 : Nat) < 10 by omega), dd_small (show (4 : Nat) < 10 by omega)]
  rfl
theorem ex_read : readX [114, 101, 97, 100, 32, 114, 48, 32, 111, 50, 32, 49, 54] = ⟨17, 0, 2, 0, 16⟩ ∧ readOk [114, 101, 97, 100, 32, 114, 48, 32, 111, 50, 32, 49, 54] = true := by
  have he : lineL ⟨17, 0, 2, 0, 16⟩ = [114, 101, 97, 100, 32, 114, 48, 32, 111, 50, 32, 49, 54] := by
    refine line_ex _ ?_
    show (shOf 17).w ++ Lib.joinTail [32] (([([114], (0 : Int)), ([111], 2), ([], 16)] : List (List UInt8 × Int)).map partL) = _
    simp only [List.map_cons, List.map_nil, partL]
    rw [show Int.toNat 0 = 0 from rfl, show Int.toNat 2 = 2 from rfl, show Int.toNat 16 = 16 from rfl, dd_small (show (0 : Nat) < 10 by omega), dd_small (show (2 : Nat) < 10 by omega), dd_big (show ¬ (16 : Nat) < 10 by omega), show (16 : Nat) / 10 = 1 from rfl, dd_small (show (1 : Nat) < 10 by omega)]
    rfl
  have h := read_line (i := ⟨17, 0, 2, 0, 16⟩) (by decide) (by unfold Ins.ok; decide)
  rw [he] at h
  unfold readX readOk
  rw [h]
  exact ⟨rfl, rfl⟩

set_option maxRecDepth 100000 in
set_option maxHeartbeats 2000000 in
theorem awake_any (w : World) (hT : Tab w) (hM : Mx w) : Calls Tryd.prog 9 #[] w fun e w' => e = .returned (.bool true) ∧ Below w.heap.size w w' := by
  have hln := fun W hT => line_any ⟨13, 1, 2, 3, 4⟩ (by unfold Ins.ok; decide) W hT
  unfold lineS at hln
  rw [if_pos ex_line.1, ex_line.1, ex_line.2] at hln
  have hrd := fun W hT hM => aread_any ⟨#[114, 101, 97, 100, 32, 114, 48, 32, 111, 50, 32, 49, 54]⟩ W (by decide) hT hM
  simp only [ex_read.1, ex_read.2, insV] at hrd
  unfold insV at hln
  simp only at hln
  have hln' := Lib.hid hln
  have hrd' := Lib.hid hrd
  clear hln hrd
  go_enter Tryd.func9, Tryd.ntmps9
  go_wp2_with fail
  refine (hln'.out _ hT).mono ?_
  rintro e w1 ⟨rfl, hb1⟩
  go_wp2_with fail
  refine (hrd'.out _ (hT.below hb1) (hM.below hb1)).mono ?_
  rintro e w2 ⟨rfl, hb2⟩
  have hB2 := hb1.trans (hb2.mono hb1.size)
  go_wp2_with fail
  go_ret
  exact ⟨rfl, hB2.alloc hB2.size _⟩

end Go.Proofs.YtkcdmonmgnmojaaDoor
