/- record.number: a canonical decimal of a word. -/
import Derived.Test.YtkcdmonmgnmojaaDoorNumP
import Derived.Test.YtkcdmonmgnmojaaDoorSplitSeq
import Derived.Lib.ConvBytes
import Derived.Lib.AtoiErrMem
namespace Go.Proofs.YtkcdmonmgnmojaaDoor
open Go.RowKit Go.Shelf

theorem val_u64 {a b : Int} (h : a = b) : Value.int .u64 a = .int .u64 b := by rw [h]

set_option maxRecDepth 100000 in
set_option maxHeartbeats 1000000 in
theorem number_any (s : ByteArray) (w : World) :
    Calls Tryd.prog 101 #[.string s] w fun e w' => (∃ v : Int, e = .returned (.tuple #[.int .u32 v, .bool (numB s.data.toList)]) ∧ (numB s.data.toList = true → v = dv s.data.toList)) ∧ Below w.heap.size w w' := by
  obtain ⟨l, hl⟩ : ∃ l, s.data.toList = l := ⟨_, rfl⟩
  have hlen : l.length = s.size := by rw [← hl]; exact Array.length_toList
  rw [hl]
  by_cases z : s.size = 0
  · have hn : numB l = false := numB_head (fun h => h.1 (by omega))
    rw [hn]
    have t1 : ((s.size : Int) == 0) = true := by simp [z]
    have hn' := Lib.hid hn
    have hl' := Lib.hid hl
    clear hn hl hlen
    go_enter Tryd.func101, Tryd.ntmps101
    go_wp2_with fail
    go_ret2
    exact ⟨⟨0, rfl, fun h => by cases h⟩, by first | exact Below.refl _ _ | exact (Below.refl _ _).drew⟩
  · have t1 : ((s.size : Int) == 0) = false := by rw [beq_eq_false_iff_ne]; omega
    have t3 : (0 : Int) < (s.size : Int) := by omega
    by_cases z10 : 10 < s.size
    · have hn : numB l = false := numB_head (fun h => by have := h.2.1; omega)
      rw [hn]
      have t2 : decide ((10 : Int) < (s.size : Int)) = true := by rw [decide_eq_true_iff]; omega
      have hl' := Lib.hid hl
      clear hn hl hlen z z10
      go_enter Tryd.func101, Tryd.ntmps101
      go_wp2_with fail
      go_ret2
      exact ⟨⟨0, rfl, fun h => by cases h⟩, by first | exact Below.refl _ _ | exact (Below.refl _ _).drew⟩
    · have t2 : decide ((10 : Int) < (s.size : Int)) = false := by rw [decide_eq_false_iff_not]; omega
      obtain ⟨b, hb⟩ : ∃ b, s[0]'(by omega) = b := ⟨_, rfl⟩
      have hhd : l.headD 0 = b := by
        rw [← hb, ← hl]
        have h0 : 0 < s.data.toList.length := by rw [hl]; omega
        rw [List.headD_eq_head?_getD, List.head?_eq_getElem?, List.getElem?_eq_getElem h0]
        rfl
      by_cases hbad : 1 < s.size ∧ b.toNat = 48
      · have hn : numB l = false := numB_head (fun h => h.2.2 ⟨by omega, by rw [hhd]; exact UInt8.toNat_inj.1 hbad.2⟩)
        rw [hn]
        have z1 : decide ((1 : Int) < (s.size : Int)) = true := by rw [decide_eq_true_iff]; omega
        have z2 : ((b.toNat : Int) == 48) = true := by simp [hbad.2]
        have hl' := Lib.hid hl
        clear hn hl hlen z hbad hhd
        go_enter Tryd.func101, Tryd.ntmps101
        go_wp2_with fail
        go_ret2
        exact ⟨⟨0, rfl, fun h => by cases h⟩, by first | exact Below.refl _ _ | exact (Below.refl _ _).drew⟩
      · have hgood : headB l = true := decide_eq_true ⟨by omega, by omega, fun h => hbad ⟨by omega, by rw [← hhd, h.2]; rfl⟩⟩
        have hx : decide ((1 : Int) < (s.size : Int)) = false ∨ (decide ((1 : Int) < (s.size : Int)) = true ∧ ((b.toNat : Int) == 48) = false) := by
          by_cases h1 : 1 < s.size
          · refine .inr ⟨by rw [decide_eq_true_iff]; omega, by rw [beq_eq_false_iff_ne]; intro e; exact hbad ⟨h1, by omega⟩⟩
          · exact .inl (by rw [decide_eq_false_iff_not]; omega)
        have hcv := fun w => Lib.run_convert_string_bytes (P := Tryd.prog) w 9 79 5 s (u := .string) Tryd.underlying9 Tryd.underlying79 Tryd.underlying5
        have hcell : ∀ t, t < s.size → (Lib.bytesWorld w 5 s).cell? ⟨w.heap.size, t, none⟩ = some (.int .u8 (l.getD t 0).toNat) := fun t ht => by
          rw [← hl]; exact Lib.bytesWorld_cell w 5 s t ht
        have hbw : Below w.heap.size w (Lib.bytesWorld w 5 s) := Lib.bytesWorld_below w 5 s
        have hcell' := Lib.hid hcell
        have hcv' := Lib.hid hcv
        have hl' := Lib.hid hl
        have hlen' := Lib.hid hlen
        have hgood' := Lib.hid hgood
        clear hcell hcv hl hlen hgood hhd hbad
        rcases hx with z1 | ⟨z1, z2⟩
        all_goals
          go_enter Tryd.func101, Tryd.ntmps101
          go_wp2_with fail
          rw [hcv'.out]
          simp only [Result.andThen]
          rw [Oper.upon_value]
          obtain ⟨W1, hW1⟩ : ∃ W1, W1 = Lib.bytesWorld w 5 s := ⟨_, rfl⟩
          rw [← hW1] at hcell' hbw ⊢
          have hws : W1.heap.size = w.heap.size + 1 := by rw [hW1]; exact Lib.bytesWorld_size w 5 s
          clear hW1
          go_wp2_with fail
          go_loopw [4, 28] (fun m j wr => ∃ k : Nat, k ≤ s.size ∧ j = .int .i64 k ∧ m = .int .u64 ((dv (l.take k) : Nat) : Int) ∧ (l.take k).all digB = true ∧ Below W1.heap.size W1 wr)
            (fun _ j _ => s.size - (intOf j).toNat)
          case atStart => exact ⟨0, Nat.zero_le _, rfl, by simp [dv], by simp, Below.refl _ _⟩
          case round =>
            obtain ⟨k, hk, rfl, rfl, hall, hbr⟩ := hrel
            have hmx := dv_lt hall
            have hp10 : (10 : Nat) ^ (l.take k).length ≤ 10 ^ 10 := Nat.pow_le_pow_right (by omega) (by rw [List.length_take]; omega)
            have hm10 : dv (l.take k) < 10000000000 := by omega
            clear hmx hp10
            by_cases hlt : k < s.size
            · obtain ⟨x, hx⟩ := get_some (show k < l.length by rw [hlen'.out]; exact hlt)
              have hcx : wr.cell? ⟨w.heap.size, k, none⟩ = some (.int .u8 (x.toNat : Int)) := by
                rw [hbr.cell (p := ⟨w.heap.size, k, none⟩) (by rw [hws]; exact Nat.lt_succ_self _), hcell'.out k hlt, List.getD_eq_getElem?_getD, hx]
                rfl
              have hxt : x.toNat < 256 := UInt8.toNat_lt x
              have hstep := Lib.hid (take_snoc hx)
              have hx' := Lib.hid hx
              have hall' := Lib.hid hall
              clear hx hall
              by_cases hd : 48 ≤ x.toNat ∧ x.toNat ≤ 57
              · obtain ⟨hd1, hd2⟩ := hd
                have d1 : decide ((x.toNat : Int) < 48) = false := by rw [decide_eq_false_iff_not]; omega
                have d2 : decide ((57 : Int) < (x.toNat : Int)) = false := by rw [decide_eq_false_iff_not]; omega
                go_wp2_with fail
                go_roundw
                case rel => exact ⟨k + 1, by omega, by go_num, val_u64 (by rw [hstep.out, dv_snoc]; omega), by rw [hstep.out, List.all_append, hall'.out]; simp [digB, hd1, hd2], hbr⟩
                case measure => simp [intOf]; omega
              · have hnf' := Lib.hid (numB_dig hx'.out hd)
                rcases d1 : decide ((x.toNat : Int) < 48) with _ | _
                · have d2 : decide ((57 : Int) < (x.toNat : Int)) = true := by
                    have := of_decide_eq_false d1
                    rw [decide_eq_true_iff]; omega
                  go_wp2_with fail
                  go_ret2
                  exact ⟨⟨0, by rw [hnf'.out]; rfl, fun h => by rw [hnf'.out] at h; cases h⟩, hbw.trans (hbr.mono (by omega))⟩
                · go_wp2_with fail
                  go_ret2
                  exact ⟨⟨0, by rw [hnf'.out]; rfl, fun h => by rw [hnf'.out] at h; cases h⟩, hbw.trans (hbr.mono (by omega))⟩
            · have ht : l.take k = l := take_all (by rw [hlen'.out]; exact hlt)
              rw [ht] at hall hm10 ⊢
              have hnum' := Lib.hid (numB_all hgood'.out hall)
              clear hall ht
              go_wp2_with fail
              go_ret2
              exact ⟨⟨(dv l : Int) % 4294967296, by rw [hnum'.out]; rfl, fun h => by rw [hnum'.out] at h; have := of_decide_eq_true h; omega⟩, hbw.trans (hbr.mono (by omega))⟩

end Go.Proofs.YtkcdmonmgnmojaaDoor
