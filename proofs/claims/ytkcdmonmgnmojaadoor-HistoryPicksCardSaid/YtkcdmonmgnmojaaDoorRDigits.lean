/- The reference's Digits: the number that digits are. -/
import Derived.Test.YtkcdmonmgnmojaaDoorDig
import Derived.Lib.Hide
import Derived.Deep.QuietTactic
import Derived.BigQuiet
import Derived.Below
import Derived.IntWalk
namespace Go.Proofs.YtkcdmonmgnmojaaDoor
open Go.RowKit

def digN (l : List UInt8) : Option Nat := if l.all digB = true ∧ l.length ≤ 14 then some (dv l) else none
def digNV (l : List UInt8) : Int := match digN l with
  | some n => n
  | none => -9
theorem digNV_yes {l : List UInt8} (h : l.all digB = true) (h2 : l.length ≤ 14) : digNV l = dv l := by unfold digNV digN; rw [if_pos ⟨h, h2⟩]
theorem digNV_no {l : List UInt8} (h : ¬(l.all digB = true ∧ l.length ≤ 14)) : digNV l = -9 := by unfold digNV digN; rw [if_neg h]
theorem all_no {l : List UInt8} {k : Nat} {x : UInt8} (hx : l[k]? = some x) (hd : digB x = false) : ¬ l.all digB = true := fun h => by
  have := List.all_eq_true.1 h x (List.mem_of_getElem? hx)
  rw [hd] at this
  cases this

set_option maxRecDepth 100000 in
set_option maxHeartbeats 1000000 in
theorem rdigits_any (s : ByteArray) (w : World) (_hs : s.size ≤ 1000000) :
    Calls Tryd.prog 74 #[.string s] w fun e w' => e = .returned (.int .i64 (digNV s.data.toList)) ∧ Below w.heap.size w w' := by
  obtain ⟨l, hl⟩ : ∃ l, s.data.toList = l := ⟨_, rfl⟩
  have hlen : l.length = s.size := by rw [← hl]; exact Array.length_toList
  rw [hl]
  have hl' := Lib.hid hl
  have hlen' := Lib.hid hlen
  clear hl hlen
  go_enter Tryd.func74, Tryd.ntmps74
  go_wp2_with fail
  go_loopw [3, 4] (fun m j wr => ∃ k : Nat, k ≤ s.size ∧ k ≤ 14 ∧ (l.take k).all digB = true ∧ m = .int .i64 ((dv (l.take k) : Nat) : Int) ∧ j = .int .i64 k ∧ Below w.heap.size w wr)
    (fun _ j _ => s.size - (intOf j).toNat)
  case atStart => exact ⟨0, Nat.zero_le _, by omega, rfl, rfl, rfl, Below.refl _ _⟩
  case round =>
    obtain ⟨k, hk, hk14, hall, rfl, rfl, hbr⟩ := hrel
    have hsz := hbr.size
    have hmx := dv_lt hall
    have hp10 : (10 : Nat) ^ (l.take k).length ≤ 10 ^ 14 := Nat.pow_le_pow_right (by omega) (by rw [List.length_take]; omega)
    have hm10 : dv (l.take k) < 100000000000000 := by omega
    clear hmx hp10
    by_cases hlt : k < s.size
    · obtain ⟨x, hx⟩ : ∃ x, s[k]'hlt = x := ⟨_, rfl⟩
      have hxl : l[k]? = some x := by
        rw [← hl'.out, ← hx, List.getElem?_eq_getElem (by rw [hl'.out, hlen'.out]; exact hlt)]
        rfl
      have hxt : x.toNat < 256 := UInt8.toNat_lt x
      have hstep := Lib.hid (take_snoc hxl)
      have hxl' := Lib.hid hxl
      have hall' := Lib.hid hall
      clear hxl hall
      by_cases hd : 48 ≤ x.toNat ∧ x.toNat ≤ 57
      · obtain ⟨hd1, hd2⟩ := hd
        have d1 : decide ((x.toNat : Int) < 48) = false := by rw [decide_eq_false_iff_not]; omega
        have d2 : decide ((57 : Int) < (x.toNat : Int)) = false := by rw [decide_eq_false_iff_not]; omega
        by_cases h13 : 13 < k
        · have d3 : decide (13 < k) = true := by rw [decide_eq_true_iff]; exact h13
          have hf := Lib.hid (digNV_no (l := l) (fun h => by have := h.2; have := hlen'.out; omega))
          go_wp2_with fail
          go_ret
          exact ⟨by rw [hf.out]; rfl, hbr⟩
        · have d3 : decide (13 < k) = false := by rw [decide_eq_false_iff_not]; exact h13
          go_wp2_with fail
          go_roundw
          case rel => exact ⟨k + 1, by omega, by omega, by rw [hstep.out, List.all_append, hall'.out]; simp [digB, hd1, hd2], val_int (by rw [hstep.out, dv_snoc]; omega), by go_num, hbr⟩
          case measure => simp [intOf]; omega
      · have hf := Lib.hid (digNV_no (l := l) (fun h => all_no hxl'.out (by unfold digB; simp only [Bool.and_eq_false_iff, decide_eq_false_iff_not]; omega) h.1))
        rcases d1 : decide ((x.toNat : Int) < 48) with _ | _
        · have d2 : decide ((57 : Int) < (x.toNat : Int)) = true := by
            have := of_decide_eq_false d1
            rw [decide_eq_true_iff]; omega
          go_wp2_with fail
          go_ret
          exact ⟨by rw [hf.out]; rfl, hbr⟩
        · go_wp2_with fail
          go_ret
          exact ⟨by rw [hf.out]; rfl, hbr⟩
    · have ht : l.take k = l := take_all (by rw [hlen'.out]; exact hlt)
      rw [ht] at hall hm10 ⊢
      have hf := Lib.hid (digNV_yes hall (by rw [hlen'.out]; omega))
      clear hall ht
      go_wp2_with fail
      go_ret
      exact ⟨by rw [hf.out]; rfl, hbr⟩

end Go.Proofs.YtkcdmonmgnmojaaDoor
