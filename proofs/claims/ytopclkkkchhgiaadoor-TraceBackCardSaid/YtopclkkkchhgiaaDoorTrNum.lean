/- trace.number: a word's number. -/
import Derived.Test.YtopclkkkchhgiaaDoorTrDef
import Derived.Lib.Hide
import Derived.Deep.QuietTactic
import Derived.BigQuiet
import Derived.Below
import Derived.IntWalk
import Derived.Lib.ConvBytes
import Derived.Lib.AtoiErrMem
namespace Go.Proofs.YtopclkkkchhgiaaDoor
open Go.RowKit

theorem numT_snoc {l : List UInt8} {k : Nat} {x : UInt8} (hx : l[k]? = some x) : numT (l.take (k + 1)) = (numT (l.take k)).bind fun n => if digB x = true ∧ n ≤ 1099511627776 then some (10 * n + (x.toNat - 48)) else none := by
  rw [take_snoc hx]
  unfold numT
  rw [List.foldl_append]
  rfl
theorem numT_none (l : List UInt8) : l.foldl (fun st x => Option.bind st fun n => if digB x = true ∧ n ≤ 1099511627776 then some (10 * n + (x.toNat - 48)) else none) none = none := by
  induction l with
  | nil => rfl
  | cons x l ih => simpa using ih
theorem numT_fail {l : List UInt8} {k : Nat} (h : numT (l.take k) = none) : numTV l = 1099511627777 := by
  have : numT l = none := by
    rw [← List.take_append_drop k l]
    unfold numT at h ⊢
    rw [List.foldl_append, h, numT_none]
  unfold numTV
  rw [this]

set_option maxRecDepth 100000 in
set_option maxHeartbeats 1000000 in
theorem number_any (s : ByteArray) (w : World) (hs : s.size ≤ 1000000) :
    Calls Tryd.prog 37 #[.string s] w fun e w' => e = .returned (.int .i64 (numTV s.data.toList)) ∧ Below w.heap.size w w' := by
  obtain ⟨l, hl⟩ : ∃ l, s.data.toList = l := ⟨_, rfl⟩
  have hlen : l.length = s.size := by rw [← hl]; exact Array.length_toList
  rw [hl]
  have hcv := fun w => Lib.run_convert_string_bytes (P := Tryd.prog) w 9 67 5 s (u := .string) Tryd.underlying9 Tryd.underlying67 Tryd.underlying5
  have hcell : ∀ t, t < s.size → (Lib.bytesWorld w 5 s).cell? ⟨w.heap.size, t, none⟩ = some (.int .u8 (l.getD t 0).toNat) := fun t ht => by
    rw [← hl]; exact Lib.bytesWorld_cell w 5 s t ht
  have hbw : Below w.heap.size w (Lib.bytesWorld w 5 s) := Lib.bytesWorld_below w 5 s
  have hcell' := Lib.hid hcell
  have hcv' := Lib.hid hcv
  have hl' := Lib.hid hl
  have hlen' := Lib.hid hlen
  clear hcell hcv hl hlen
  go_enter Tryd.func37, Tryd.ntmps37
  go_wp2_with fail
  rw [hcv'.out]
  simp only [Result.andThen]
  rw [Oper.upon_value]
  obtain ⟨W1, hW1⟩ : ∃ W1, W1 = Lib.bytesWorld w 5 s := ⟨_, rfl⟩
  rw [← hW1] at hcell' hbw ⊢
  have hws : W1.heap.size = w.heap.size + 1 := by rw [hW1]; exact Lib.bytesWorld_size w 5 s
  clear hW1
  go_wp2_with fail
  go_loopw [3, 9] (fun m j wr => ∃ k n : Nat, k ≤ s.size ∧ n ≤ 10995116277769 ∧ numT (l.take k) = some n ∧ j = .int .i64 k ∧ m = .int .i64 n ∧ Below W1.heap.size W1 wr)
    (fun _ j _ => s.size - (intOf j).toNat)
  case atStart => exact ⟨0, 0, Nat.zero_le _, by omega, rfl, rfl, rfl, Below.refl _ _⟩
  case round =>
    obtain ⟨k, n, hk, hn, hnum, rfl, rfl, hbr⟩ := hrel
    by_cases hlt : k < s.size
    · obtain ⟨x, hx⟩ := get_some (show k < l.length by rw [hlen'.out]; exact hlt)
      have hcx : wr.cell? ⟨w.heap.size, k, none⟩ = some (.int .u8 (x.toNat : Int)) := by
        rw [hbr.cell (p := ⟨w.heap.size, k, none⟩) (by rw [hws]; exact Nat.lt_succ_self _), hcell'.out k hlt, List.getD_eq_getElem?_getD, hx]
        rfl
      have hxt : x.toNat < 256 := UInt8.toNat_lt x
      have hstep := numT_snoc hx
      rw [hnum, Option.bind_some] at hstep
      clear hx hnum
      by_cases hd : 48 ≤ x.toNat ∧ x.toNat ≤ 57
      · have hdb : digB x = true := by unfold digB; rw [decide_eq_true hd.1, decide_eq_true hd.2]; rfl
        obtain ⟨hd1, hd2⟩ := hd
        have d1 : decide ((x.toNat : Int) < 48) = false := by rw [decide_eq_false_iff_not]; omega
        have d2 : decide ((57 : Int) < (x.toNat : Int)) = false := by rw [decide_eq_false_iff_not]; omega
        by_cases hnt : n ≤ 1099511627776
        · rw [if_pos ⟨hdb, hnt⟩] at hstep
          have d3 : decide ((1099511627776 : Int) < (n : Int)) = false := by rw [decide_eq_false_iff_not]; omega
          have hstep' := Lib.hid hstep
          clear hstep hdb
          go_wp2_with fail
          go_roundw
          case rel => exact ⟨k + 1, 10 * n + (x.toNat - 48), by omega, by omega, hstep'.out, by go_num, val_int (by omega), hbr⟩
          case measure => simp [intOf]; omega
        · rw [if_neg (fun h => hnt h.2)] at hstep
          have d3 : decide ((1099511627776 : Int) < (n : Int)) = true := by rw [decide_eq_true_iff]; omega
          have hf := Lib.hid (numT_fail hstep)
          clear hstep hdb
          go_wp2_with fail
          go_ret
          exact ⟨by rw [hf.out]; rfl, hbw.trans (hbr.mono (by omega))⟩
      · have hdb : ¬ digB x = true := by unfold digB; simp only [Bool.and_eq_true, decide_eq_true_iff]; exact hd
        rw [if_neg (fun h => hdb h.1)] at hstep
        have hf := Lib.hid (numT_fail hstep)
        clear hstep hdb
        rcases d1 : decide ((x.toNat : Int) < 48) with _ | _
        · have d2 : decide ((57 : Int) < (x.toNat : Int)) = true := by
            have := of_decide_eq_false d1
            rw [decide_eq_true_iff]; omega
          go_wp2_with fail
          go_ret
          exact ⟨by rw [hf.out]; rfl, hbw.trans (hbr.mono (by omega))⟩
        · go_wp2_with fail
          go_ret
          exact ⟨by rw [hf.out]; rfl, hbw.trans (hbr.mono (by omega))⟩
    · have ht : l.take k = l := take_all (by rw [hlen'.out]; exact hlt)
      rw [ht] at hnum
      have hf := Lib.hid (show numTV l = (n : Int) by unfold numTV; rw [hnum])
      clear hnum ht
      go_wp2_with fail
      go_ret
      exact ⟨by rw [hf.out]; rfl, hbw.trans (hbr.mono (by omega))⟩

end Go.Proofs.YtopclkkkchhgiaaDoor
