/- strings.SplitSeq at a separator of one byte: the iterator, which keeps what is left in a captured cell. -/
import Derived.Test.YtkcdmonmgnmojaaDoorSeqSt
import Derived.Test.YtkcdmonmgnmojaaDoorDig
import Derived.Test.YtkcdmonmgnmojaaDoorShelf
import Derived.Shelf.Abstract
import Derived.Shelf.RegionOpen
import Derived.OwnWalkIn
import Derived.TacticsInMore
import Derived.LoopNIn
import Derived.LoopIn
import Derived.Deep.QuietTactic
import Derived.BigQuiet
import Derived.Lib.IndexLaws
namespace Go.Proofs.YtkcdmonmgnmojaaDoor
open Go.RowKit Go.Shelf
attribute [local go_sem] Oper.semAt_some

def keep3 (B : Nat) (W W' : World) : Prop := ∀ k, B ≤ k → k < B + 3 → W'.heap[k]? = W.heap[k]?
def boxLen (B : Nat) (W : World) : Nat := match W.cell? ⟨B, 0, none⟩ with
  | some (.string s) => s.size
  | _ => 0
theorem boxLen_eq {B : Nat} {W : World} {s : ByteArray} (h : W.cell? ⟨B, 0, none⟩ = some (.string s)) : boxLen B W = s.size := by simp [boxLen, h]

set_option maxRecDepth 100000 in
set_option maxHeartbeats 2000000 in
theorem split1_in (n : Nat) (hn : 1 ≤ n) (lb B : Nat) (c : UInt8) (s : ByteArray) (J Jx : List (List UInt8) → World → Prop) (W : World) (hJ : ∀ q, Calm B (J q)) (_hJx : ∀ q, Calm B (Jx q)) (hs63 : s.size ≤ 9223372036854775806)
    (hY : ∀ pre x W1, J pre W1 → pre ++ [x] <+: pcs c s.data.toList → YieldAt Fence.wide (n - 1) Tryd.prog lb #[.string ⟨x.toArray⟩] W1 fun e W' => (e = .returned (.bool true) ∧ J (pre ++ [x]) W' ∧ keep3 B W1 W') ∨ (e = .returned (.bool false) ∧ Jx (pre ++ [x]) W'))
    (b1 : Boxed W B 9 (.string s)) (b2 : Boxed W (B + 1) 9 (.string ⟨#[c]⟩)) (b3 : Boxed W (B + 1 + 1) 3 (.int .i64 0)) (h0 : J [] W) :
    CallsIn Fence.wide n Tryd.prog 149 #[.func (.yield lb) #[] #[], .pointer (some ⟨B + 1, 0, none⟩), .pointer (some ⟨B, 0, none⟩), .pointer (some ⟨B + 1 + 1, 0, none⟩)] W fun e W' => (∃ v, e = .returned v) ∧
      ((∃ ys, ys = pcs c s.data.toList ∧ J ys W') ∨ (∃ pre, pre <+: pcs c s.data.toList ∧ Jx pre W')) := by
  refine callsIn_of_wp Tryd.func149 rfl trivial ?_ rfl
  simp only [Tryd.ntmps149, List.size_toArray, List.length_cons, List.length_nil, Nat.reduceAdd, Nat.reduceSub, Array.replicate_succ, Array.replicate_zero, List.push_toArray, List.append_toArray, List.nil_append, List.cons_append]
  have c2 := b2.cell
  gi_wp2
  gi_loopw [7] (fun _ wr => ∃ (r : ByteArray) (pre : List (List UInt8)), r.size ≤ s.size ∧ pcs c s.data.toList = pre ++ pcs c r.data.toList ∧ Boxed wr B 9 (.string r) ∧ Boxed wr (B + 1) 9 (.string ⟨#[c]⟩) ∧ Boxed wr (B + 1 + 1) 3 (.int .i64 0) ∧ J pre wr)
    (fun _ wr => boxLen B wr)
  case atStart => exact ⟨s, [], Nat.le_refl _, rfl, b1, b2, b3, h0⟩
  case round =>
    obtain ⟨r, pre, hrs, hpc, d1, d2, d3, hj⟩ := hrel
    have e1 := d1.cell
    have e2 := d2.cell
    have e3 := d3.cell
    have f1 := d1.frozen
    gi_wp2_with fail
    refine ⟨trivial, ?_⟩
    refine (callsIn_wide.2 (Tryd.strings_Index_one r c wr)).mono ?_
    rintro e w2 ⟨rfl, rfl⟩
    have hge := Lib.indexByte_ge r.data.toList c
    have hrl : r.data.toList.length = r.size := Array.length_toList
    by_cases hneg : Lib.indexByte r.data.toList c = -1
    · have hp1 := Lib.hid (pcs_none c _ (Lib.indexByte_none hneg))
      rw [hneg]
      obtain ⟨fn, tmps, assign, body, hy, hR⟩ := hY pre r.data.toList w2 hj (by rw [hpc, hp1.out]; exact List.prefix_rfl)
      rw [show (⟨r.data.toList.toArray⟩ : ByteArray) = r from by rw [Array.toArray_toList]] at hy
      have hpc' := Lib.hid hpc
      clear hpc hneg
      gi_wp2_with fail
      refine hR.mono ?_
      rintro e3 W3 (⟨rfl, hJ3, hk3⟩ | ⟨rfl, hJx3⟩)
      · gi_wp2
        go_end0
        exact ⟨⟨_, rfl⟩, .inl ⟨_, rfl, by rw [hpc'.out, hp1.out]; exact hJ3⟩⟩
      · gi_wp2
        go_end0
        exact ⟨⟨_, rfl⟩, .inr ⟨_, by rw [hpc'.out, hp1.out]; exact List.prefix_rfl, hJx3⟩⟩
    · obtain ⟨o, ho⟩ : ∃ o : Nat, Lib.indexByte r.data.toList c = o := ⟨(Lib.indexByte r.data.toList c).toNat, by omega⟩
      obtain ⟨ho1, ho2⟩ := Lib.indexByte_some ho
      have hp1 := Lib.hid (pcs_some c _ o ho1 ho2)
      have hor : o < r.size := by rw [← hrl]; exact get_lt ho1
      rw [ho]
      clear hneg hge ho
      obtain ⟨fn, tmps, assign, body, hy, hR⟩ := hY pre (r.data.toList.take o) w2 hj (by rw [hpc, hp1.out]; exact ⟨pcs c (r.data.toList.drop (o + 1)), by simp⟩)
      rw [ext_take] at hy
      gi_wp2_with fail
      refine hR.mono ?_
      rintro e3 W3 (⟨rfl, hJ3, hk3⟩ | ⟨rfl, hJx3⟩)
      · have g1 : Boxed W3 B 9 (.string r) := (hk3 B (by omega) (by omega)).trans d1
        have g2 : Boxed W3 (B + 1) 9 (.string ⟨#[c]⟩) := (hk3 (B + 1) (by omega) (by omega)).trans d2
        have g3 : Boxed W3 (B + 1 + 1) 3 (.int .i64 0) := (hk3 (B + 1 + 1) (by omega) (by omega)).trans d3
        have i1 := g1.cell
        have i2 := g2.cell
        have i4 := g1.frozen
        have hbl := Lib.hid (boxLen_eq e1)
        have hpc' := Lib.hid hpc
        clear e1 e2 e3 f1 ho1 ho2 hpc
        gi_wp2_with fail
        go_roundw
        case rel => exact ⟨_, pre ++ [r.data.toList.take o], by rw [ByteArray.size_extract]; omega, by rw [hpc'.out, hp1.out, ext_drop]; simp, g1.set _, g2.other (by omega) _, g3.other (by omega) _, (hJ _).set _ _ hJ3⟩
        case measure => rw [hbl.out, boxLen_eq (g1.set _).cell, ByteArray.size_extract]; omega
      · gi_wp2_with fail
        refine bodyPost_ret (results_none rfl _ _ _) rfl ?_
        exact ⟨⟨_, rfl⟩, .inr ⟨_, by rw [hpc, hp1.out]; exact ⟨pcs c (r.data.toList.drop (o + 1)), by simp⟩, hJx3⟩⟩

/-- The contract of the iterator over s, whose three captured cells lie from block B on. -/
theorem split_st (n : Nat) (hn : 1 ≤ n) (B : Nat) (c : UInt8) (s : ByteArray) (hs63 : s.size ≤ 9223372036854775806) (w : World) (b1 : Boxed w B 9 (.string s)) (b2 : Boxed w (B + 1) 9 (.string ⟨#[c]⟩)) (b3 : Boxed w (B + 1 + 1) 3 (.int .i64 0)) :
    SeqSt Fence.wide n Tryd.prog 149 #[.pointer (some ⟨B + 1, 0, none⟩), .pointer (some ⟨B, 0, none⟩), .pointer (some ⟨B + 1 + 1, 0, none⟩)] (fun x : List UInt8 => Value.string ⟨x.toArray⟩) (keep3 B) (fun ys => ys = pcs c s.data.toList) (fun pre => pre <+: pcs c s.data.toList)
      (fun pre x => pre ++ [x] <+: pcs c s.data.toList) B w :=
  fun lb J Jx W hW hJ hJx hY h0 => by
    have l1 := b1.lt
    have l2 := b2.lt
    have l3 := b3.lt
    exact split1_in n hn lb B c s J Jx W hJ hJx hs63 hY ((hW.block B l1).trans b1) ((hW.block (B + 1) l2).trans b2) ((hW.block (B + 1 + 1) l3).trans b3) h0

theorem splitSeq_any (c : UInt8) (s : ByteArray) (w : World) :
    Calls Tryd.prog 100 #[.string s, .string ⟨#[c]⟩] w fun e w' => ∃ B, B = w.heap.size ∧ e = .returned (.func (.func 149) #[] #[.pointer (some ⟨B + 1, 0, none⟩), .pointer (some ⟨B, 0, none⟩), .pointer (some ⟨B + 1 + 1, 0, none⟩)]) ∧
      ((w.alloc (.cells #[.string s] 9)).alloc (.cells #[.string ⟨#[c]⟩] 9)).alloc (.cells #[.int .i64 0] 3) = w' := by
  go_enter Tryd.func100, Tryd.ntmps100
  go_wp2_with (first | go_in | fail)
  go_ret
  exact ⟨_, rfl, rfl, rfl⟩

end Go.Proofs.YtkcdmonmgnmojaaDoor
