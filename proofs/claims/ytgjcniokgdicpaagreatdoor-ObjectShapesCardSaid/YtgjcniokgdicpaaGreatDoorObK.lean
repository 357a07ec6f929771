/- Layer 20: kinds and their words. -/
import Derived.Test.YtgjcniokgdicpaaGreatDoorObG
import Derived.Test.YtgjcniokgdicpaaGreatDoorStrTy
namespace Go.Proofs.YtgjcniokgdicpaaGreatDoor
open Go.RowKit
attribute [local go_sem] Oper.semAt_some

def kindsT : List (List UInt8) := [[102, 111, 117, 114], [99, 104, 101, 110], [115, 101, 113], [114, 105, 110, 103], [99, 97, 98], [102, 105, 102, 111]]
def kindsW : List (List UInt8) := [] :: kindsT
def kindsA : Array Value := #[.string ⟨#[]⟩, .string ⟨#[102, 111, 117, 114]⟩, .string ⟨#[99, 104, 101, 110]⟩, .string ⟨#[115, 101, 113]⟩, .string ⟨#[114, 105, 110, 103]⟩, .string ⟨#[99, 97, 98]⟩, .string ⟨#[102, 105, 102, 111]⟩]
def isK (k : Int) : Bool := decide (1 ≤ k) && decide (k ≤ 6)
def kword (k : Int) : List UInt8 := if 0 ≤ k ∧ k ≤ 6 then kindsW.getD k.toNat [] else []
def kidx (x : List UInt8) : Int := match kindsT.findIdx? fun z => z == x with
  | some k => k
  | none => -1
theorem kwords_any (w : World) : Calls Tryz.prog 40 #[] w fun e w' => e = .returned (.agg kindsA) ∧ Below w.heap.size w w' := by
  go_enter Tryz.func40, Tryz.ntmps40
  go_wp2_with fail
  refine bodyPost_ret (v := .agg kindsA) (by simp [results, go_sem]; rfl) rfl ?_
  exact ⟨rfl, (Below.refl _ w).alloc (Nat.le_refl _) _⟩
theorem rkwords_any (w : World) : Calls Tryz.prog 11 #[] w fun e w' => ∃ b, e = .returned (.slice (some ⟨b, 0, none⟩) 7 7) ∧ (∀ (j : Nat) x, kindsW[j]? = some x → w'.cell? ⟨b, j, none⟩ = some (.string ⟨x.toArray⟩)) ∧ b < w'.heap.size ∧ Below w.heap.size w w' := by
  go_enter Tryz.func11, Tryz.ntmps11
  go_wp2_with fail
  go_ret
  refine ⟨_, rfl, fun j x hx => ?_, by simp, (Below.refl _ w).alloc (Nat.le_refl _) _⟩
  have h1 := cells_new w (kindsW.map fun x => Value.string ⟨x.toArray⟩).toArray 9 j
  rw [Addr.add_lit, Nat.zero_add, List.getElem?_toArray, List.getElem?_map, hx] at h1
  exact h1
theorem word_at {k : Int} (h : 0 ≤ k ∧ k ≤ 6) (W : World) : (Instr.index 68 (.agg kindsA) (.int .i64 k)).run Tryz.prog W = .ok (.string ⟨(kword k).toArray⟩) W := by
  have : k = 0 ∨ k = 1 ∨ k = 2 ∨ k = 3 ∨ k = 4 ∨ k = 5 ∨ k = 6 := by omega
  rcases this with rfl | rfl | rfl | rfl | rfl | rfl | rfl <;> (simp [Instr.index, kindsA, go_sem] <;> rfl)
set_option maxRecDepth 100000 in
theorem kword_any (k : Int) (w : World) : Calls Tryz.prog 12 #[.int .i64 k] w fun e w' => e = .returned (.string ⟨(kword k).toArray⟩) ∧ Below w.heap.size w w' := by
  by_cases h1 : k < 0
  · have t1 : decide (k < 0) = true := decide_eq_true h1
    have e1 : kword k = [] := by unfold kword; rw [if_neg (by omega)]
    rw [e1]
    clear e1 h1
    go_enter Tryz.func12, Tryz.ntmps12
    go_wp2_with fail
    go_ret
    exact ⟨rfl, Below.refl _ w⟩
  · have t1 : decide (k < 0) = false := decide_eq_false h1
    by_cases h2 : 6 < k
    · have t2 : decide (6 < k) = true := decide_eq_true h2
      have e1 : kword k = [] := by unfold kword; rw [if_neg (by omega)]
      rw [e1]
      clear e1 h1 h2
      go_enter Tryz.func12, Tryz.ntmps12
      go_wp2_with fail
      go_ret
      exact ⟨rfl, Below.refl _ w⟩
    · have t2 : decide (6 < k) = false := decide_eq_false h2
      have hw := Lib.hid (kwords_any w)
      have hi := word_at (k := k) (by omega)
      obtain ⟨X, hX⟩ : ∃ X, kword k = X := ⟨_, rfl⟩
      rw [hX] at hi ⊢
      clear h1 h2 hX
      go_enter Tryz.func12, Tryz.ntmps12
      go_wp2_with fail
      refine hw.out.mono ?_
      rintro e w1 ⟨rfl, hb⟩
      go_wp2_with fail
      go_ret
      exact ⟨rfl, hb⟩
theorem kidx_hit {x : List UInt8} {k : Nat} (h : ∀ i, i < k → kindsT.getD i [] ≠ x) {y : List UInt8} (hk : kindsT[k]? = some y) (hy : y = x) : kidx x = k := by
  have hlt := (List.getElem?_eq_some_iff.1 hk).1
  have : kindsT.findIdx? (fun z => z == x) = some k := by
    rw [List.findIdx?_eq_some_iff_getElem]
    refine ⟨hlt, ?_, fun j hj => ?_⟩
    · rw [List.getElem?_eq_getElem hlt] at hk
      injection hk with hk
      rw [hk, hy]
      exact beq_self_eq_true x
    · have := h j hj
      rw [List.getD_eq_getElem?_getD, List.getElem?_eq_getElem (by omega)] at this
      simpa using this
  unfold kidx
  rw [this]
theorem kidx_miss {x : List UInt8} (h : ∀ i, i < 6 → kindsT.getD i [] ≠ x) : kidx x = -1 := by
  have : kindsT.findIdx? (fun z => z == x) = none := by
    rw [List.findIdx?_eq_none_iff]
    intro z hz
    obtain ⟨i, hi⟩ := List.getElem?_of_mem hz
    have hl := (List.getElem?_eq_some_iff.1 hi).1
    have := h i hl
    rw [List.getD_eq_getElem?_getD, hi] at this
    simpa using this
  unfold kidx
  rw [this]
set_option maxRecDepth 100000 in
set_option maxHeartbeats 1000000 in
theorem kindex_any (b : Nat) (x : List UInt8) (w : World) (hc : ∀ (j : Nat) z, kindsT[j]? = some z → w.cell? ⟨b, 1 + j, none⟩ = some (.string ⟨z.toArray⟩)) :
    Calls Tryz.prog 41 #[.slice (some ⟨b, 1, none⟩) 6 6, .string ⟨x.toArray⟩] w fun e w' => e = .returned (.int .i64 (kidx x)) ∧ w' = w := by
  have HC := Lib.hid hc
  clear hc
  go_enter Tryz.func41, Tryz.ntmps41
  go_wp2_with fail
  go_loopw [5, 8] (fun _ j wr => ∃ k : Nat, k ≤ 6 ∧ j = .int .i64 k ∧ (∀ i, i < k → kindsT.getD i [] ≠ x) ∧ wr = w) (fun _ j _ => 6 - (intOf j).toNat)
  case atStart => exact ⟨0, Nat.zero_le _, rfl, fun i h => absurd h (Nat.not_lt_zero _), rfl⟩
  case round =>
    obtain ⟨k, hk, rfl, hall, rfl⟩ := hrel
    by_cases hlt : k < 6
    · obtain ⟨z, hz⟩ := get_some (show k < kindsT.length from hlt)
      have hcz := HC.out k z hz
      have hki : (k : Int) < 6 := by omega
      have hk0 : (0 : Int) ≤ (k : Int) := by omega
      have HA := Lib.hid hall
      have HZ := Lib.hid hz
      clear hall hz
      by_cases hzx : z = x
      · have t1 : (x == z) = true := by rw [hzx]; exact beq_self_eq_true _
        have t2 : (z == x) = true := by rw [hzx]; exact beq_self_eq_true _
        have hf := Lib.hid (kidx_hit HA.out HZ.out hzx)
        clear hzx
        go_wp2_with fail
        go_ret
        exact ⟨by rw [hf.out]; rfl, rfl⟩
      · have t1 : (x == z) = false := by rw [beq_eq_false_iff_ne]; exact fun e => hzx e.symm
        have t2 : (z == x) = false := by rw [beq_eq_false_iff_ne]; exact hzx
        have hzx' := Lib.hid hzx
        clear hzx
        go_wp2_with fail
        go_roundw
        case rel => exact ⟨k + 1, by omega, by go_num, fun i hi => by
          by_cases hik : i = k
          · subst hik
            rw [List.getD_eq_getElem?_getD, HZ.out]
            exact hzx'.out
          · exact HA.out i (by omega), by first | trivial | rfl⟩
        case measure => simp [intOf]; omega
    · have h6 : k = 6 := by omega
      subst h6
      have hf := Lib.hid (kidx_miss hall)
      clear hall
      go_wp2_with fail
      go_ret
      exact ⟨by rw [hf.out]; rfl, rfl⟩
set_option maxRecDepth 100000 in
set_option maxHeartbeats 1000000 in
theorem kkind_any (x : List UInt8) (w : World) : Calls Tryz.prog 13 #[.string ⟨x.toArray⟩] w fun e w' => e = .returned (.tuple #[.int .i64 (kidx x + 1), .bool (decide (0 < kidx x + 1))]) ∧ Below w.heap.size w w' := by
  have hw := kwords_any w
  unfold kindsA at hw
  have HW := Lib.hid hw
  have hb : -1 ≤ kidx x ∧ kidx x ≤ 5 := by
    unfold kidx
    cases h : kindsT.findIdx? fun z => z == x with
    | none => simp
    | some k =>
      obtain ⟨hk, _⟩ := List.findIdx?_eq_some_iff_getElem.1 h
      have : kindsT.length = 6 := rfl
      simp only
      omega
  obtain ⟨q, hq⟩ : ∃ q, kidx x = q := ⟨_, rfl⟩
  rw [hq] at hb ⊢
  have HQ := Lib.hid hq
  clear hw hq
  go_enter Tryz.func13, Tryz.ntmps13
  go_wp2_with fail
  refine HW.out.mono ?_
  rintro e w1 ⟨rfl, hb1⟩
  have hB := hb1.alloc hb1.size (.cells kindsA 68)
  have hi := Lib.hid (kindex_any w1.heap.size x (w1.alloc (.cells kindsA 68)) (fun j z hz => by
    have h1 := cells_new w1 kindsA 68 (1 + j)
    rw [Addr.add_lit, Nat.zero_add] at h1
    rw [h1]
    have e : kindsA = (kindsW.map fun x => Value.string ⟨x.toArray⟩).toArray := rfl
    rw [e, List.getElem?_toArray, List.getElem?_map, Nat.add_comm]
    show (kindsT[j]?).map _ = _
    rw [hz]
    rfl))
  unfold kindsA at hi hB
  rw [HQ.out] at hi
  go_wp2_with fail
  refine hi.out.mono ?_
  rintro e w2 ⟨rfl, rfl⟩
  go_wp2_with fail
  go_ret2
  exact ⟨rfl, hB⟩

end Go.Proofs.YtgjcniokgdicpaaGreatDoor
