/- The reference's Digits of a part. -/
import Derived.Test.YtkcdmonmgnmojaaDoorAsmDef
import Derived.Lib.Hide
import Derived.Deep.QuietTactic
import Derived.BigQuiet
import Derived.Below
import Derived.IntWalk
namespace Go.Proofs.YtkcdmonmgnmojaaDoor
open Go.RowKit

theorem val_u64' {a b : Int} (h : a = b) : Value.int .u64 a = .int .u64 b := by rw [h]
theorem rnum_yes {l : List UInt8} (h : l.all digB = true) (h2 : l.length ≤ 10) : rnum l = ((dv l % 4294967296 : Nat) : Int) := by unfold rnum; rw [if_pos ⟨h, h2⟩]
theorem rnum_no {l : List UInt8} (h : ¬(l.all digB = true ∧ l.length ≤ 10)) : rnum l = 0 := by unfold rnum; rw [if_neg h]
theorem all_no {l : List UInt8} {k : Nat} {x : UInt8} (hx : l[k]? = some x) (hd : digB x = false) : ¬ l.all digB = true := fun h => by
  have := List.all_eq_true.1 h x (List.mem_of_getElem? hx)
  rw [hd] at this
  cases this

set_option maxRecDepth 100000 in
set_option maxHeartbeats 1000000 in
theorem rdigits9_any (s : ByteArray) (w : World) (_hs : s.size ≤ 1000000) :
    Calls Tryd.prog 44 #[.string s] w fun e w' => e = .returned (.int .u32 (rnum s.data.toList)) ∧ Below w.heap.size w w' := by
  obtain ⟨l, hl⟩ : ∃ l, s.data.toList = l := ⟨_, rfl⟩
  have hlen : l.length = s.size := by rw [← hl]; exact Array.length_toList
  rw [hl]
  have hl' := Lib.hid hl
  have hlen' := Lib.hid hlen
  clear hl hlen
  go_enter Tryd.func44, Tryd.ntmps44
  go_wp2_with fail
  go_loopw [3, 4] (fun m j wr => ∃ k : Nat, k ≤ s.size ∧ k ≤ 10 ∧ (l.take k).all digB = true ∧ m = .int .u64 ((dv (l.take k) : Nat) : Int) ∧ j = .int .i64 k ∧ Below w.heap.size w wr)
    (fun _ j _ => s.size - (intOf j).toNat)
  case atStart => exact ⟨0, Nat.zero_le _, by omega, rfl, rfl, rfl, Below.refl _ _⟩
  case round =>
    obtain ⟨k, hk, hk10, hall, rfl, rfl, hbr⟩ := hrel
    have hsz := hbr.size
    have hmx := dv_lt hall
    have hp10 : (10 : Nat) ^ (l.take k).length ≤ 10 ^ 10 := Nat.pow_le_pow_right (by omega) (by rw [List.length_take]; omega)
    have hm10 : dv (l.take k) < 10000000000 := by omega
    clear hmx hp10
    by_cases hlt : k < s.size
    · obtain ⟨x, hx⟩ : ∃ x, s[k]'hlt = x := ⟨_, rfl⟩
      have hxl : l[k]? = some x := by
        rw [← hl'.out, ← hx, List.getElem?_eq_getElem (by rw [hl'.out, hlen'.out]; exact hlt)]
        rfl
      have hxt : x.toNat < 256 := UInt8.toNat_lt x
      have hstep := Lib.hid (take_snoc hxl)
      have hxl' := Lib.hid hxl
      have hall' := Lib.hid hall
      clear hxl hall
      by_cases hd : 48 ≤ x.toNat ∧ x.toNat ≤ 57
      · obtain ⟨hd1, hd2⟩ := hd
        have d1 : decide ((x.toNat : Int) < 48) = false := by rw [decide_eq_false_iff_not]; omega
        have d2 : decide ((57 : Int) < (x.toNat : Int)) = false := by rw [decide_eq_false_iff_not]; omega
        by_cases h13 : 9 < k
        · have d3 : decide (9 < k) = true := by rw [decide_eq_true_iff]; exact h13
          have hf := Lib.hid (rnum_no (l := l) (fun h => by have := h.2; have := hlen'.out; omega))
          go_wp2_with fail
          go_ret
          exact ⟨by rw [hf.out]; rfl, hbr⟩
        · have d3 : decide (9 < k) = false := by rw [decide_eq_false_iff_not]; exact h13
          obtain ⟨D, hD⟩ : ∃ D, dv (l.take k) = D := ⟨_, rfl⟩
          rw [hD] at hm10 ⊢
          have hD' := Lib.hid hD
          clear hD
          have e1 : IntKind.u64.wrap (10 * (D : Int)) = 10 * (D : Int) := by simp [IntKind.wrap, IntKind.signed, IntKind.bits]; omega
          have e2 : IntKind.u8.wrap ((x.toNat : Int) - 48) = (x.toNat : Int) - 48 := wrap_u8 (by omega) (by omega)
          have e3 : IntKind.u64.wrap ((x.toNat : Int) - 48) = (x.toNat : Int) - 48 := by simp [IntKind.wrap, IntKind.signed, IntKind.bits]; omega
          have e4 : IntKind.u64.wrap (10 * (D : Int) + ((x.toNat : Int) - 48)) = 10 * (D : Int) + ((x.toNat : Int) - 48) := by simp [IntKind.wrap, IntKind.signed, IntKind.bits]; omega
          go_wp2_with fail
          go_roundw
          case rel => exact ⟨k + 1, by omega, by omega, by rw [hstep.out, List.all_append, hall'.out]; simp [digB, hd1, hd2], val_u64' (by rw [hstep.out, dv_snoc, hD'.out]; omega), by go_num, hbr⟩
          case measure => simp [intOf]; omega
      · have hf := Lib.hid (rnum_no (l := l) (fun h => all_no hxl'.out (by unfold digB; simp only [Bool.and_eq_false_iff, decide_eq_false_iff_not]; omega) h.1))
        rcases d1 : decide ((x.toNat : Int) < 48) with _ | _
        · have d2 : decide ((57 : Int) < (x.toNat : Int)) = true := by
            have := of_decide_eq_false d1
            rw [decide_eq_true_iff]; omega
          go_wp2_with fail
          go_ret
          exact ⟨by rw [hf.out]; rfl, hbr⟩
        · go_wp2_with fail
          go_ret
          exact ⟨by rw [hf.out]; rfl, hbr⟩
    · have ht : l.take k = l := take_all (by rw [hlen'.out]; exact hlt)
      rw [ht] at hall hm10 ⊢
      have hf := Lib.hid (rnum_yes hall (by rw [hlen'.out]; omega))
      have hw3 : IntKind.u32.wrap ((dv l : Nat) : Int) = ((dv l % 4294967296 : Nat) : Int) := by simp [IntKind.wrap, IntKind.signed, IntKind.bits]
      clear hall ht
      go_wp2_with fail
      go_ret
      exact ⟨by rw [hf.out]; rfl, hbr⟩

end Go.Proofs.YtkcdmonmgnmojaaDoor
