/- Histories: a word's number. -/
import Derived.Test.YtkcdmonmgnmojaaDoorHLnP
import Derived.Test.YtkcdmonmgnmojaaDoorRDigits
import Derived.Lib.ConvBytes
import Derived.Lib.AtoiErrMem
namespace Go.Proofs.YtkcdmonmgnmojaaDoor
open Go.RowKit
attribute [local go_sem] Oper.semAt_some

theorem numH_yes {l : List UInt8} (h : l.all digB = true) (h0 : ¬ l.length = 0) (h2 : l.length ≤ 13) : numH l = dv l := by unfold numH; rw [if_pos ⟨h, fun e => h0 (by rw [e]; rfl), h2⟩]
theorem numH_no {l : List UInt8} (h : ¬(l.all digB = true ∧ ¬ l.length = 0 ∧ l.length ≤ 13)) : numH l = -2 := by
  unfold numH
  rw [if_neg (fun hh => h ⟨hh.1, fun e => hh.2.1 (List.eq_nil_of_length_eq_zero e), hh.2.2⟩)]

set_option maxRecDepth 100000 in
set_option maxHeartbeats 1000000 in
theorem hnumber_any (s : ByteArray) (w : World) (hs : s.size ≤ 1000000) :
    Calls Tryd.prog 66 #[.string s] w fun e w' => e = .returned (.int .i64 (numH s.data.toList)) ∧ Below w.heap.size w w' := by
  obtain ⟨l, hl⟩ : ∃ l, s.data.toList = l := ⟨_, rfl⟩
  have hlen : l.length = s.size := by rw [← hl]; exact Array.length_toList
  rw [hl]
  have hcv := fun w => Lib.run_convert_string_bytes (P := Tryd.prog) w 9 79 5 s (u := .string) Tryd.underlying9 Tryd.underlying79 Tryd.underlying5
  have hcell : ∀ t, t < s.size → (Lib.bytesWorld w 5 s).cell? ⟨w.heap.size, t, none⟩ = some (.int .u8 (l.getD t 0).toNat) := fun t ht => by
    rw [← hl]; exact Lib.bytesWorld_cell w 5 s t ht
  have hbw : Below w.heap.size w (Lib.bytesWorld w 5 s) := Lib.bytesWorld_below w 5 s
  have hcell' := Lib.hid hcell
  have hcv' := Lib.hid hcv
  have hl' := Lib.hid hl
  have hlen' := Lib.hid hlen
  clear hcell hcv hl hlen
  by_cases hz : s.size = 0
  · have z1 : ((s.size : Int) == 0) = true := by rw [beq_iff_eq]; omega
    have hf := Lib.hid (numH_no (l := l) (fun h => h.2.1 (by rw [hlen'.out]; exact hz)))
    clear hz
    go_enter Tryd.func66, Tryd.ntmps66
    go_wp2_with fail
    go_ret
    exact ⟨by rw [hf.out]; rfl, Below.refl _ w⟩
  have z1 : ((s.size : Int) == 0) = false := by rw [beq_eq_false_iff_ne]; omega
  by_cases h13 : s.size ≤ 13
  rotate_left
  · have z2 : decide ((13 : Int) < (s.size : Int)) = true := by rw [decide_eq_true_iff]; omega
    have hf := Lib.hid (numH_no (l := l) (fun h => h13 (by rw [← hlen'.out]; exact h.2.2)))
    have h13' := Lib.hid h13
    have hz' := Lib.hid hz
    clear h13 hz
    go_enter Tryd.func66, Tryd.ntmps66
    go_wp2_with fail
    go_ret
    exact ⟨by rw [hf.out]; rfl, Below.refl _ w⟩
  have z2 : decide ((13 : Int) < (s.size : Int)) = false := by rw [decide_eq_false_iff_not]; omega
  have hz' := Lib.hid hz
  clear hz
  go_enter Tryd.func66, Tryd.ntmps66
  go_wp2_with fail
  rw [hcv'.out]
  simp only [Result.andThen]
  rw [Oper.upon_value]
  obtain ⟨W1, hW1⟩ : ∃ W1, W1 = Lib.bytesWorld w 5 s := ⟨_, rfl⟩
  rw [← hW1] at hcell' hbw ⊢
  have hws : W1.heap.size = w.heap.size + 1 := by rw [hW1]; exact Lib.bytesWorld_size w 5 s
  clear hW1
  go_wp2_with fail
  go_loopw [3, 5, 17] (fun m _ j wr => ∃ k : Nat, k ≤ s.size ∧ (l.take k).all digB = true ∧ j = .int .i64 k ∧ m = .int .i64 (dv (l.take k)) ∧ Below W1.heap.size W1 wr)
    (fun _ _ j _ => s.size - (intOf j).toNat)
  case atStart => exact ⟨0, Nat.zero_le _, rfl, rfl, rfl, Below.refl _ _⟩
  case round =>
    obtain ⟨k, hk, hall, rfl, rfl, hbr⟩ := hrel
    by_cases hlt : k < s.size
    · obtain ⟨x, hx⟩ := get_some (show k < l.length by rw [hlen'.out]; exact hlt)
      have hcx : wr.cell? ⟨w.heap.size, k, none⟩ = some (.int .u8 (x.toNat : Int)) := by
        rw [hbr.cell (p := ⟨w.heap.size, k, none⟩) (by rw [hws]; exact Nat.lt_succ_self _), hcell'.out k hlt, List.getD_eq_getElem?_getD, hx]
        rfl
      have hxt : x.toNat < 256 := UInt8.toNat_lt x
      have hv := dv_lt hall
      have hvl : dv (l.take k) < 10 ^ 13 := Nat.lt_of_lt_of_le hv (Nat.pow_le_pow_right (by omega) (by rw [List.length_take]; omega))
      obtain ⟨n, hn⟩ : ∃ n, dv (l.take k) = n := ⟨_, rfl⟩
      rw [hn] at hvl ⊢
      have hts := Lib.hid (take_snoc hx)
      have hn' := Lib.hid hn
      have hall' := Lib.hid hall
      have hx' := Lib.hid hx
      clear hx hn hall hv
      by_cases hd : 48 ≤ x.toNat ∧ x.toNat ≤ 57
      · have hdb := Lib.hid (show digB x = true by unfold digB; rw [decide_eq_true hd.1, decide_eq_true hd.2]; rfl)
        obtain ⟨hd1, hd2⟩ := hd
        have d1 : decide ((x.toNat : Int) < 48) = false := by rw [decide_eq_false_iff_not]; omega
        have d2 : decide ((57 : Int) < (x.toNat : Int)) = false := by rw [decide_eq_false_iff_not]; omega
        go_wp2_with fail
        go_roundw
        case rel => exact ⟨k + 1, by omega, by rw [hts.out, List.all_append, hall'.out, List.all_cons, hdb.out]; rfl, by go_num, by rw [hts.out, dv_snoc, hn'.out]; exact val_int (by omega), hbr⟩
        case measure => simp [intOf]; omega
      · have hdb : ¬ digB x = true := by unfold digB; simp only [Bool.and_eq_true, decide_eq_true_iff]; exact hd
        have hf := Lib.hid (numH_no (l := l) (fun h => hdb (List.all_eq_true.1 h.1 x (List.mem_of_getElem? hx'.out))))
        clear hdb
        rcases d1 : decide ((x.toNat : Int) < 48) with _ | _
        · have d2 : decide ((57 : Int) < (x.toNat : Int)) = true := by
            have := of_decide_eq_false d1
            rw [decide_eq_true_iff]; omega
          go_wp2_with fail
          go_ret
          exact ⟨by rw [hf.out]; rfl, hbw.trans (hbr.mono (by omega))⟩
        · go_wp2_with fail
          go_ret
          exact ⟨by rw [hf.out]; rfl, hbw.trans (hbr.mono (by omega))⟩
    · have ht : l.take k = l := take_all (by rw [hlen'.out]; exact hlt)
      rw [ht] at hall ⊢
      have hf := Lib.hid (numH_yes hall (by rw [hlen'.out]; exact hz'.out) (by rw [hlen'.out]; exact h13))
      clear hall ht
      go_wp2_with fail
      go_ret
      exact ⟨by rw [hf.out]; rfl, hbw.trans (hbr.mono (by omega))⟩

end Go.Proofs.YtkcdmonmgnmojaaDoor
