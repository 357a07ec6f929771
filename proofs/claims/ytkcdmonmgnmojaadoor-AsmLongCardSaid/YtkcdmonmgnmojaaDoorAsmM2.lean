/- strings.Builder: WriteString (its walk turned from the kit's, over this program's own text). strings.Lines: the iterator, which keeps what is left in a captured cell. -/
import Derived.Test.YtkcdmonmgnmojaaDoorWalk
import Derived.Test.YtkcdmonmgnmojaaDoorShelf
import Derived.Lib.Builder
import Derived.Lib.AppendStr
import Derived.Lib.UnsafeStr
import Derived.Laws.Externs
import Derived.Laws.IdiomCopy
import Derived.Test.YtkcdmonmgnmojaaDoorSeqSt
import Derived.Test.YtkcdmonmgnmojaaDoorAsmM1
import Derived.Shelf.Abstract
import Derived.Shelf.RegionOpen
import Derived.OwnWalkIn
import Derived.TacticsInMore
import Derived.LoopNIn
import Derived.LoopIn
import Derived.Deep.QuietTactic
import Derived.BigQuiet
import Derived.Lib.IndexLaws
namespace Go.Proofs.YtkcdmonmgnmojaaDoor
open Go.RowKit

theorem sizeBuilder : (Tryd.prog.info? 81).map (·.size) = some 2 := by kernel_rfl
theorem liesBuilder : liesAt Tryd.prog Tryd.prog.depth 81 (2 / Tryd.prog.cellsOf 81) 0 81 1 = true := by kernel_rfl
theorem infoByte : (Tryd.prog.info? 5).map (fun i => (i.zero, i.size, i.bytes)) = some (some (.int .u8 0), 1, 1) := by kernel_rfl

set_option maxHeartbeats 1000000 in
set_option maxRecDepth 100000 in
theorem copyCheck_used (b : Nat) (w : World) (h0 : w.cell? ⟨b, 0, none⟩ = some (.pointer (some ⟨b, 0, none⟩))) :
    Calls Tryd.prog 90 #[.pointer (some ⟨b, 0, none⟩)] w fun e w' => e = .returned (.tuple #[]) ∧ w' = w := by
  obtain ⟨j, hj, _⟩ := Option.map_eq_some_iff.1 sizeBuilder
  go_enter Tryd.func90, Tryd.ntmps90
  go_wp2
  rw [Lib.run_neq_ptr_same w _ Tryd.underlying78 hj]
  go_wp2
  go_end0
  exact ⟨rfl, rfl⟩

set_option maxHeartbeats 1000000 in
set_option maxRecDepth 100000 in
theorem copyCheck_fresh (b : Nat) (w : World) (h0 : w.cell? ⟨b, 0, none⟩ = some (.pointer none)) (hsh : w.shape? b = some (81, 2)) (hfz : w.frozen? ⟨b, 0, none⟩ = false) :
    Calls Tryd.prog 90 #[.pointer (some ⟨b, 0, none⟩)] w fun e w' => e = .returned (.tuple #[]) ∧ w' = w.setCell ⟨b, 0, none⟩ (.pointer (some ⟨b, 0, none⟩)) := by
  obtain ⟨j, hj, hjs⟩ := Option.map_eq_some_iff.1 sizeBuilder
  go_enter Tryd.func90, Tryd.ntmps90
  go_wp2
  rw [Lib.run_to_unsafe w ⟨b, 0, none⟩ Tryd.underlying78 Tryd.underlying136 hj (by rw [hjs]; decide) hsh (Nat.zero_lt_succ 1)]
  simp only [Result.andThen]
  rw [Oper.upon_value]
  go_wp2
  rw [run_callFunc_extern Tryd.func109 (by kernel_rfl) (by kernel_rfl) (by kernel_rfl) (e := Extern.AbiNoEscape.same) (by kernel_rfl)]
  rw [Lib.run_noEscape]
  simp only [Result.andThen]
  rw [Oper.upon_value]
  go_wp2
  rw [Lib.run_from_unsafe w ⟨b, 0, none⟩ Tryd.underlying136 Tryd.underlying78 hj hsh liesBuilder]
  simp only [Result.andThen]
  rw [Oper.upon_value]
  go_wp2
  go_end0
  exact ⟨rfl, rfl⟩

theorem copyCheck_any (B b : Nat) (bs : List Value) (w : World) (h : Lib.IsBuilder 81 5 B b bs w) :
    Calls Tryd.prog 90 #[.pointer (some ⟨b, 0, none⟩)] w fun e w' => e = .returned (.tuple #[]) ∧ (Lib.BuilderAt 81 5 B b (.pointer (some ⟨b, 0, none⟩)) bs w' ∧ Below B w w') := by
  rcases h with h | h
  · refine (copyCheck_fresh b w h.cell0 h.shape h.frozen0).mono ?_
    rintro e w' ⟨rfl, rfl⟩
    exact ⟨rfl, h.used _, (Below.refl B w).setCell (p := ⟨b, 0, none⟩) h.1 _⟩
  · refine (copyCheck_used b w h.cell0).mono ?_
    rintro e w' ⟨rfl, rfl⟩
    exact ⟨rfl, h, Below.refl B _⟩

set_option maxHeartbeats 2000000 in
set_option maxRecDepth 100000 in
theorem write_any (B b : Nat) (bs : List Value) (s : ByteArray) (w : World) (h : Lib.IsBuilder 81 5 B b bs w) (hlen : bs.length + s.size ≤ 140737488355328) (hBw : B ≤ w.heap.size) :
    Calls Tryd.prog 47 #[.pointer (some ⟨b, 0, none⟩), .string s] w fun e w' => e = .returned (.tuple #[.int .i64 s.size, .nilIface]) ∧ (Lib.IsBuilder 81 5 B b (bs ++ Lib.strCells s) w' ∧ Below B w w') := by
  obtain ⟨i0, hi, hz0, hz1, hz2⟩ := info_parts infoByte
  go_enter Tryd.func47, Tryd.ntmps47
  go_wp2_with fail
  refine (copyCheck_any B b bs _ h).mono ?_
  rintro e w1 ⟨rfl, h1, hb1⟩
  obtain ⟨hB, v, hbk, hown, hne⟩ := h1
  have c0 : w1.cell? ⟨b, 0, none⟩ = some (.pointer (some ⟨b, 0, none⟩)) := by rw [Lib.cell_of_heap hbk]; rfl
  have c1 : w1.cell? ⟨b, 1, none⟩ = some v := by rw [Lib.cell_of_heap hbk]; rfl
  have hlt : b < w1.heap.size := by
    rcases Nat.lt_or_ge b w1.heap.size with h' | h'
    · exact h'
    · simp [Array.getElem?_eq_none h'] at hbk
  have hBw1 : B ≤ w1.heap.size := by have := hb1.size; omega
  go_wp2_with (first
    | (at_builtin; refine Lib.wpList_append_own_string _ rfl _ _ 79 9 rfl B 5 i0 Tryd.underlying79 Tryd.underlying9 hi hz0 hz1 hz2 _ _ _ rfl hown s rfl (by unfold maxLen; omega) (by omega) hBw1 ?_
       intro v' w2 hown' hgrow _
       have hb2 : w2.heap[b]? = some (.cells #[.pointer (some ⟨b, 0, none⟩), v] 81 (0, 0)) := by
         rw [hgrow.block b hlt (fun e => hne e.symm)]
         exact hbk
       have d0 : w2.cell? ⟨b, 0, none⟩ = some (.pointer (some ⟨b, 0, none⟩)) := by rw [Lib.cell_of_heap hb2]; rfl
       have d1 : w2.cell? ⟨b, 1, none⟩ = some v := by rw [Lib.cell_of_heap hb2]; rfl
       have f1 : w2.frozen? ⟨b, 1, none⟩ = false := Lib.frozen_of_heap hb2 1
       obtain ⟨ao, n', cap, rfl⟩ : ∃ ao n' cap, v' = .slice ao n' cap := by
         rcases hown'.2 with ⟨hv, _⟩ | ⟨g, cap, cur, hv, _⟩
         · exact ⟨_, _, _, hv⟩
         · exact ⟨_, _, _, hv⟩)
    | fail)
  go_ret2
  refine ⟨rfl, .inr ?_, ?_⟩
  · exact Lib.BuilderAt.put (T := 81) (e := 5) hB hb2 (bs' := bs ++ Lib.strCells s) (by simpa [Lib.strCells_length] using hown') (by decide)
  · exact (hb1.grown hgrow (by have := hb1.size; omega) (fun k hk => (hown.lt k hk).1)).setCell (p := ⟨b, 1, none⟩) hB _

end Go.Proofs.YtkcdmonmgnmojaaDoor

namespace Go.Proofs.YtkcdmonmgnmojaaDoor
open Go.RowKit Go.Shelf
attribute [local go_sem] Oper.semAt_some

def keep1 (B : Nat) (W W' : World) : Prop := W'.heap[B]? = W.heap[B]?
def boxLenL (B : Nat) (W : World) : Nat := match W.cell? ⟨B, 0, none⟩ with
  | some (.string s) => s.size
  | _ => 0
theorem boxLenL_eq {B : Nat} {W : World} {s : ByteArray} (h : W.cell? ⟨B, 0, none⟩ = some (.string s)) : boxLenL B W = s.size := by simp [boxLenL, h]

set_option maxRecDepth 100000 in
set_option maxHeartbeats 2000000 in
theorem lines1_in (n : Nat) (hn : 1 ≤ n) (lb B : Nat) (s : ByteArray) (J Jx : List (List UInt8) → World → Prop) (W : World) (hJ : ∀ q, Calm B (J q)) (_hJx : ∀ q, Calm B (Jx q)) (hs63 : s.size ≤ 1000000)
    (hY : ∀ pre x W1, J pre W1 → pre ++ [x] <+: lns s.data.toList → YieldAt Fence.wide (n - 1) Tryd.prog lb #[.string ⟨x.toArray⟩] W1 fun e W' => (e = .returned (.bool true) ∧ J (pre ++ [x]) W' ∧ keep1 B W1 W') ∨ (e = .returned (.bool false) ∧ Jx (pre ++ [x]) W'))
    (b1 : Boxed W B 9 (.string s)) (h0 : J [] W) :
    CallsIn Fence.wide n Tryd.prog 87 #[.func (.yield lb) #[] #[], .pointer (some ⟨B, 0, none⟩)] W fun e W' => (∃ v, e = .returned v) ∧
      ((∃ ys, ys = lns s.data.toList ∧ J ys W') ∨ (∃ pre, pre <+: lns s.data.toList ∧ Jx pre W')) := by
  refine callsIn_of_wp Tryd.func87 rfl trivial ?_ rfl
  simp only [Tryd.ntmps87, List.size_toArray, List.length_cons, List.length_nil, Nat.reduceAdd, Nat.reduceSub, Array.replicate_succ, Array.replicate_zero, List.push_toArray, List.append_toArray, List.nil_append, List.cons_append]
  gi_wp2
  gi_loopw [3] (fun _ wr => ∃ (r : ByteArray) (pre : List (List UInt8)), r.size ≤ s.size ∧ lns s.data.toList = pre ++ lns r.data.toList ∧ Boxed wr B 9 (.string r) ∧ J pre wr)
    (fun _ wr => boxLenL B wr)
  case atStart => exact ⟨s, [], Nat.le_refl _, rfl, b1, h0⟩
  case round =>
    obtain ⟨r, pre, hrs, hpc, d1, hj⟩ := hrel
    have e1 := d1.cell
    have f1 := d1.frozen
    have hrl : r.data.toList.length = r.size := Array.length_toList
    by_cases hz : r.size = 0
    · have t1 : decide ((0 : Int) < (r.size : Int)) = false := by rw [decide_eq_false_iff_not]; omega
      have t1' : decide (0 < r.size) = false := by rw [decide_eq_false_iff_not]; omega
      have hl0 : lns r.data.toList = [] := by rw [List.eq_nil_of_length_eq_zero (by omega : r.data.toList.length = 0)]; rfl
      have hpc' := Lib.hid hpc
      have hl0' := Lib.hid hl0
      clear hpc hl0
      gi_wp2_with fail
      go_end0
      exact ⟨⟨_, rfl⟩, .inl ⟨_, rfl, by rw [hpc'.out, hl0'.out, List.append_nil]; exact hj⟩⟩
    · have t1 : decide ((0 : Int) < (r.size : Int)) = true := by rw [decide_eq_true_iff]; omega
      have t1' : decide (0 < r.size) = true := by rw [decide_eq_true_iff]; omega
      gi_wp2_with fail
      refine ⟨trivial, ?_⟩
      refine (callsIn_wide.2 (Tryd.strings_IndexByte r 10 wr)).mono ?_
      rintro e w2 ⟨rfl, rfl⟩
      rw [show (Int.toNat 10).toUInt8 = (10 : UInt8) from rfl]
      have hge := Lib.indexByte_ge r.data.toList 10
      by_cases hneg : Lib.indexByte r.data.toList 10 = -1
      · have hp1 := Lib.hid (lns_none r.data.toList (fun e => hz (by rw [← hrl, e]; rfl)) (Lib.indexByte_none hneg))
        rw [hneg]
        have hJ1 := (hJ pre).set w2 (.string ⟨#[]⟩) hj
        have d1' := d1.set (.string ⟨#[]⟩)
        obtain ⟨fn, tmps, assign, body, hy, hR⟩ := hY pre r.data.toList _ hJ1 (by rw [hpc, hp1.out]; exact List.prefix_rfl)
        rw [show (⟨r.data.toList.toArray⟩ : ByteArray) = r from by rw [Array.toArray_toList]] at hy
        have hpc' := Lib.hid hpc
        have hbl := Lib.hid (boxLenL_eq e1)
        clear hpc hneg hge hJ1
        gi_wp2_with fail
        refine hR.mono ?_
        rintro e3 W3 (⟨rfl, hJ3, hk3⟩ | ⟨rfl, hJx3⟩)
        · have g1 : Boxed W3 B 9 (.string ⟨#[]⟩) := hk3.trans d1'
          clear e1 f1
          gi_wp2_with fail
          go_roundw
          case rel => exact ⟨⟨#[]⟩, pre ++ [r.data.toList], Nat.zero_le _, by rw [hpc'.out, hp1.out]; simp [lns], g1, hJ3⟩
          case measure => rw [hbl.out, boxLenL_eq g1.cell]; show (0 : Nat) < _; omega
        · gi_wp2_with fail
          refine bodyPost_ret (results_none rfl _ _ _) rfl ?_
          exact ⟨⟨_, rfl⟩, .inr ⟨_, by rw [hpc'.out, hp1.out]; exact List.prefix_rfl, hJx3⟩⟩
      · obtain ⟨o, ho⟩ : ∃ o : Nat, Lib.indexByte r.data.toList 10 = o := ⟨(Lib.indexByte r.data.toList 10).toNat, by omega⟩
        obtain ⟨ho1, ho2⟩ := Lib.indexByte_some ho
        have hp1 := Lib.hid (lns_some _ o ho1 ho2)
        have hor : o < r.size := by rw [← hrl]; exact get_lt ho1
        rw [ho]
        clear hneg hge ho
        have e1' : IntKind.i64.wrap ((o : Int) + 1) = ((o + 1 : Nat) : Int) := by simp [IntKind.wrap, IntKind.signed, IntKind.bits]; omega
        have hJ1 : J pre (w2.setCell ⟨B, 0, none⟩ (.string (r.extract (o + 1) r.size))).drew := (hJ pre).drew _ 1 ((hJ pre).set w2 (.string (r.extract (o + 1) r.size)) hj)
        have d1' := d1.set (.string (r.extract (o + 1) r.size))
        obtain ⟨fn, tmps, assign, body, hy, hR⟩ := hY pre (r.data.toList.take (o + 1)) _ hJ1 (by rw [hpc, hp1.out]; exact ⟨lns (r.data.toList.drop (o + 1)), by simp⟩)
        rw [ext_take] at hy
        have hpc' := Lib.hid hpc
        have hbl := Lib.hid (boxLenL_eq e1)
        clear hpc hJ1 ho1 ho2
        gi_wp2_with fail
        gi_region
        gi_wp2_with fail
        refine hR.mono ?_
        rintro e3 W3 (⟨rfl, hJ3, hk3⟩ | ⟨rfl, hJx3⟩)
        · have g1 : Boxed W3 B 9 (.string (r.extract (o + 1) r.size)) := hk3.trans d1'
          clear e1 f1
          gi_wp2_with fail
          go_roundw
          case rel => exact ⟨_, pre ++ [r.data.toList.take (o + 1)], by rw [ByteArray.size_extract]; omega, by rw [hpc'.out, hp1.out, ext_drop]; simp, g1, hJ3⟩
          case measure => rw [hbl.out, boxLenL_eq g1.cell, ByteArray.size_extract]; omega
        · gi_wp2_with fail
          refine bodyPost_ret (results_none rfl _ _ _) rfl ?_
          exact ⟨⟨_, rfl⟩, .inr ⟨_, by rw [hpc'.out, hp1.out]; exact ⟨lns (r.data.toList.drop (o + 1)), by simp⟩, hJx3⟩⟩

/-- The contract of the iterator over s, whose captured cell is block B. -/
theorem lines_st (n : Nat) (hn : 1 ≤ n) (B : Nat) (s : ByteArray) (hs63 : s.size ≤ 1000000) (w : World) (b1 : Boxed w B 9 (.string s)) :
    SeqSt Fence.wide n Tryd.prog 87 #[.pointer (some ⟨B, 0, none⟩)] (fun x : List UInt8 => Value.string ⟨x.toArray⟩) (keep1 B) (fun ys => ys = lns s.data.toList) (fun pre => pre <+: lns s.data.toList)
      (fun pre x => pre ++ [x] <+: lns s.data.toList) B w :=
  fun lb J Jx W hW hJ hJx hY h0 => lines1_in n hn lb B s J Jx W hJ hJx hs63 hY ((hW.block B b1.lt).trans b1) h0

theorem linesSeq_any (s : ByteArray) (w : World) :
    Calls Tryd.prog 45 #[.string s] w fun e w' => ∃ B, B = w.heap.size ∧ e = .returned (.func (.func 87) #[] #[.pointer (some ⟨B, 0, none⟩)]) ∧ w.alloc (.cells #[.string s] 9) = w' := by
  go_enter Tryd.func45, Tryd.ntmps45
  go_wp2_with (first | go_in | fail)
  go_ret
  exact ⟨_, rfl, rfl, rfl⟩

end Go.Proofs.YtkcdmonmgnmojaaDoor
