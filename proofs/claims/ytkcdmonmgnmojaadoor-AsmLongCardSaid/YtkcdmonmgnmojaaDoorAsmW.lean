/- isa.Word, isa.Kind. -/
import Derived.Test.YtkcdmonmgnmojaaDoorAsmR
namespace Go.Proofs.YtkcdmonmgnmojaaDoor
open Go.RowKit

def wordB (op : Int) : ByteArray := ⟨(shOf op).w.toArray⟩
set_option maxRecDepth 100000 in
theorem word_any (op : Int) (w : World) (h : known op = true) : Calls Tryd.prog 38 #[.int .i64 op] w fun r w' => r = .returned (.string (wordB op)) ∧ Below w.heap.size w w' := by
  have hix := fun W => shape_at op h W
  unfold shCells at hix
  rw [shE_sh h] at hix
  have hix' := Lib.hid hix
  obtain ⟨us, hus⟩ : ∃ x, (shE op).2.1 = x := ⟨_, rfl⟩
  obtain ⟨ts, hts⟩ : ∃ x, (shE op).2.2 = x := ⟨_, rfl⟩
  rw [hus, hts] at hix
  unfold wordB
  obtain ⟨S, hS⟩ : ∃ S, shOf op = S := ⟨_, rfl⟩
  rw [hS] at hix ⊢
  obtain ⟨sw, sa, sb, sc, sn⟩ := S
  simp only at hix ⊢
  clear hS hus hts hix'
  have hfd : ∀ W : World, (Instr.field 108 (.agg #[.string ⟨sw.toArray⟩, .int .i64 sa, .int .i64 sb, .int .i64 sc, .int .i64 sn, .string ⟨us.toArray⟩, .string ⟨ts.toArray⟩]) 0).run Tryd.prog W = .ok (.string ⟨sw.toArray⟩) W := fun W => by kernel_rfl
  go_enter Tryd.func38, Tryd.ntmps38
  go_wp2_with (first
    | (go_at_call 76; refine (known_any _ _).mono ?_; rintro e w1 ⟨rfl, rfl⟩)
    | (go_at_call 77; refine (shapes_any _).mono ?_; rintro e w1 ⟨rfl, hb⟩))
  go_ret
  exact ⟨rfl, hb⟩

/-! ### a word's kind -/
def kindFound (w : List UInt8) : Bool := (shs.findIdx? fun s => s.w == w).isSome
theorem kind_hit {w : List UInt8} {k : Nat} (hk : k < 22) (h : ∀ i : Nat, i < k → ((shOf i).w == w) = false) (he : ((shOf k).w == w) = true) : kindOf w = k ∧ kindFound w = true := by
  have hf : shs.findIdx? (fun s => s.w == w) = some k := by
    rw [List.findIdx?_eq_some_iff_getElem]
    refine ⟨hk, ?_, fun j hj => ?_⟩
    · have : shs[k] = shOf k := by
        unfold shOf
        rw [List.getD_eq_getElem?_getD, show ((k : Int)).toNat = k by omega, List.getElem?_eq_getElem hk]
        rfl
      rw [this]; exact he
    · have hj22 : j < shs.length := Nat.lt_trans hj hk
      have : shs[j] = shOf j := by
        unfold shOf
        rw [List.getD_eq_getElem?_getD, show ((j : Int)).toNat = j by omega, List.getElem?_eq_getElem hj22]
        rfl
      rw [this, h j hj]
      simp
  unfold kindOf kindFound
  rw [hf]
  exact ⟨rfl, rfl⟩
theorem kind_miss {w : List UInt8} (h : ∀ i : Nat, i < 22 → ((shOf i).w == w) = false) : kindOf w = 0 ∧ kindFound w = false := by
  have hf : shs.findIdx? (fun s => s.w == w) = none := by
    rw [List.findIdx?_eq_none_iff]
    intro x hx
    obtain ⟨i, hi, rfl⟩ := List.getElem_of_mem hx
    have : shs[i] = shOf i := by
      unfold shOf
      rw [List.getD_eq_getElem?_getD, show ((i : Int)).toNat = i by omega, List.getElem?_eq_getElem hi]
      rfl
    rw [this]
    exact h i hi
  unfold kindOf kindFound
  rw [hf]
  exact ⟨rfl, rfl⟩

set_option maxHeartbeats 1000000 in
theorem kind_any (s : ByteArray) (w : World) : Calls Tryd.prog 83 #[.string s] w fun r w' => r = .returned (.tuple #[.int .i64 (kindOf s.data.toList), .bool (kindFound s.data.toList)]) ∧ Below w.heap.size w w' := by
  obtain ⟨l, hl⟩ : ∃ l, s.data.toList = l := ⟨_, rfl⟩
  rw [hl]
  have hst : s.toList = l := by rw [ByteArray.toList_eq, hl]
  have hst' := Lib.hid hst
  clear hl hst
  go_enter Tryd.func83, Tryd.ntmps83
  go_wp2_with (go_at_call 77; refine (shapes_any _).mono ?_; rintro e w1 ⟨rfl, hb⟩)
  go_loopw [4, 5, 7] (fun _ _ j wr => ∃ k : Nat, k ≤ 22 ∧ j = .int .i64 k ∧ (∀ i : Nat, i < k → ((shOf i).w == l) = false) ∧ Below w.heap.size w wr) (fun _ _ j _ => 22 - (intOf j).toNat)
  case atStart => exact ⟨0, Nat.zero_le _, rfl, fun i hi => absurd hi (Nat.not_lt_zero _), hb⟩
  case round =>
    obtain ⟨k, hk, rfl, hno, hbk⟩ := hrel
    by_cases hlt : k < 22
    · have hkn : known (k : Int) = true := known_iff.2 (by omega)
      have hix := fun W => shape_at (k : Int) hkn W
      unfold shCells at hix
      rw [shE_sh hkn] at hix
      obtain ⟨us, hus⟩ : ∃ x, (shE (k : Int)).2.1 = x := ⟨_, rfl⟩
      obtain ⟨ts, hts⟩ : ∃ x, (shE (k : Int)).2.2 = x := ⟨_, rfl⟩
      rw [hus, hts] at hix
      have hhit := fun he => kind_hit hlt hno he
      have hstep : ((shOf k).w == l) = false → ∀ i : Nat, i < k + 1 → ((shOf i).w == l) = false := fun hf i hi => by
        by_cases hik : i < k
        · exact hno i hik
        · rw [show i = k by omega]; exact hf
      obtain ⟨S, hS⟩ : ∃ S, shOf (k : Int) = S := ⟨_, rfl⟩
      rw [hS] at hix hhit hstep
      obtain ⟨sw, sa, sb, sc, sn⟩ := S
      simp only at hix hhit hstep
      have hhit' := Lib.hid hhit
      have hstep' := Lib.hid hstep
      have hsz := hbk.size
      clear hS hus hts hhit hstep hno hkn
      rcases hq : (sw == l) with _ | _
      · have hc : (sw == s.toList) = false := by rw [hst'.out]; exact hq
        have hq' := Lib.hid hq
        clear hq
        go_wp2_with fail
        go_roundw
        case rel => exact ⟨k + 1, by omega, by go_num, hstep'.out hq'.out, hbk.alloc hsz _⟩
        case measure => simp [intOf]; omega
      · have hc : (sw == s.toList) = true := by rw [hst'.out]; exact hq
        have hq' := Lib.hid hq
        clear hq
        go_wp2_with fail
        go_ret2
        obtain ⟨e1, e2⟩ := hhit'.out hq'.out
        exact ⟨by rw [e1, e2]; rfl, hbk.alloc hsz _⟩
    · have hk22 : k = 22 := by omega
      subst hk22
      have hm := Lib.hid (kind_miss hno)
      clear hno
      go_wp2_with fail
      go_ret2
      exact ⟨by rw [hm.out.1, hm.out.2]; rfl, hbk⟩

end Go.Proofs.YtkcdmonmgnmojaaDoor
