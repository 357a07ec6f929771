/- The reference's Show. -/
import Derived.Test.YtkcdmonmgnmojaaDoorShow
import Derived.Test.YtkcdmonmgnmojaaDoorRDig4
import Derived.Laws.IdiomStrings
import Derived.IntWalk
import Derived.OpenShut
namespace Go.Proofs.YtkcdmonmgnmojaaDoor
open Go.RowKit Go.Shelf

theorem showL_one (l : List Int) {x : Int} (h : l[0]? = some x) : showL (l.take (0 + 1)) = Lib.decDigits x.toNat := by
  rw [take_snoc h]
  simp [showL, Lib.join]
theorem showL_snoc (l : List Int) {k : Nat} {x : Int} (hk : 0 < k) (h : l[k]? = some x) : showL (l.take (k + 1)) = showL (l.take k) ++ [32] ++ Lib.decDigits x.toNat := by
  rw [take_snoc h]
  unfold showL
  rw [List.map_append]
  refine join_snoc _ _ _ (fun e => ?_)
  have h1 := congrArg List.length e
  have := get_lt h
  rw [List.length_map, List.length_take, List.length_nil] at h1
  omega
theorem showL_len (l : List Int) (h : ∀ z ∈ l, z < 4294967296) : ∀ k, k ≤ l.length → (showL (l.take k)).length ≤ 21 * k := by
  intro k
  induction k with
  | zero => intro _; simp [showL, Lib.join]
  | succ k ih =>
    intro hk
    obtain ⟨x, hx⟩ := get_some (show k < l.length by omega)
    have hd := digits_le x (h x (List.mem_of_getElem? hx))
    have := ih (by omega)
    rcases Nat.eq_zero_or_pos k with rfl | hp
    · rw [showL_one l hx]; omega
    · rw [showL_snoc l hp hx, List.length_append, List.length_append, List.length_singleton]; omega

set_option maxHeartbeats 1000000 in
theorem refShow_any (A : Option Addr) (c : Nat) (l : List Int) (w : World) (hn : l.length ≤ 1000001) (hl : Ws w w.heap.size A l) :
    Calls Tryd.prog 72 #[.slice A l.length c] w fun e w' => e = .returned (.string (showS l)) ∧ Below w.heap.size w w' := by
  have hbd : ∀ z ∈ l, z < 4294967296 := fun z hz => by
    have := bounds_u32 (hl.2 z hz)
    omega
  have hlen := Lib.hid (showL_len l hbd)
  go_enter Tryd.func72, Tryd.ntmps72
  go_wp2_with fail
  go_loopw [3, 7] (fun s j wr => ∃ k : Nat, k ≤ l.length ∧ j = .int .i64 k ∧ s = .string ⟨(showL (l.take k)).toArray⟩ ∧ Below w.heap.size w wr) (fun _ j _ => l.length - (intOf j).toNat)
  case atStart => exact ⟨0, Nat.zero_le _, rfl, by simp [showL, Lib.join], Below.refl _ _⟩
  case round =>
    obtain ⟨k, hk, rfl, rfl, hbr⟩ := hrel
    by_cases hlt : k < l.length
    · obtain ⟨x, hx⟩ := get_some hlt
      obtain ⟨⟨hwf, hx0, hx1⟩, b, off, rfl, hbk, hcx⟩ := (hl.below hbr hbr.size).get hx
      have hxn : x = (x.toNat : Int) := by omega
      have hsz := hlen.out k (by omega)
      obtain ⟨S, hS⟩ : ∃ S : ByteArray, (⟨(showL (l.take k)).toArray⟩ : ByteArray) = S := ⟨_, rfl⟩
      have hSs : S.size ≤ 21 * k := by
        rw [← hS]
        simpa [ByteArray.size_mk'] using hsz
      rw [hS]
      have hx' := Lib.hid hx
      have hS' := Lib.hid hS
      have z1 : ¬ 9223372036854775807 ≤ S.size := by omega
      have z2 : ¬ 9223372036854775807 < S.size + 1 := by omega
      clear hx hS hsz
      have hxn' := Lib.hid hxn
      clear hxn hbd
      obtain ⟨D, hD⟩ : ∃ D : ByteArray, numS x.toNat = D := ⟨_, rfl⟩
      have hDs : D.size ≤ 20 := by rw [← hD]; exact numS_size (by omega)
      have z3 : ¬ 9223372036854775807 < S.size + D.size := by omega
      have z4 : ¬ 9223372036854775807 < S.size + 1 + D.size := by omega
      have hdg := fun W => digits_any (x.toNat + 1) x.toNat x W hxn'.out (by omega) (by omega)
      rw [hD] at hdg
      have hdg' := Lib.hid hdg
      have hD' := Lib.hid hD
      clear hdg hD
      rcases Nat.eq_zero_or_pos k with h0 | hp
      · have t1 : decide (0 < k) = false := by rw [decide_eq_false_iff_not]; omega
        have h0' := Lib.hid h0
        clear h0
        go_wp2_with fail
        refine (hdg'.out _).mono ?_
        rintro e w2 ⟨rfl, hb2⟩
        go_wp2_with fail
        go_roundw
        case rel => exact ⟨k + 1, by omega, by go_num, by
            have e1 : S = ⟨#[]⟩ := by rw [← hS'.out, h0'.out]; rfl
            have e2 := showL_one l (by have := hx'.out; rwa [h0'.out] at this)
            rw [h0'.out, e2, e1, ← hD'.out]
            rfl, hbr.trans (hb2.mono hbr.size)⟩
        case measure => simp [intOf]; omega
      · have t1 : decide (0 < k) = true := by rw [decide_eq_true_iff]; omega
        have hp' := Lib.hid hp
        clear hp
        go_wp2_with fail
        refine (hdg'.out _).mono ?_
        rintro e w2 ⟨rfl, hb2⟩
        go_wp2_with fail
        go_roundw
        case rel => exact ⟨k + 1, by omega, by go_num, by
            rw [showL_snoc l hp'.out hx'.out, ← hS'.out, ← hD'.out]
            refine congrArg Value.string (ByteArray.ext ?_)
            simp [numS], hbr.trans (hb2.mono hbr.size)⟩
        case measure => simp [intOf]; omega
    · have ht := Lib.hid (take_all hlt)
      go_wp2_with fail
      go_ret
      exact ⟨by rw [ht.out]; rfl, hbr⟩

end Go.Proofs.YtkcdmonmgnmojaaDoor
