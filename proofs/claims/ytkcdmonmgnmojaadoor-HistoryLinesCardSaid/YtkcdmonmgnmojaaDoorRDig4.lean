/- The reference's Digits of a word. -/
import Derived.Test.YtkcdmonmgnmojaaDoorDig
import Derived.Lib.ItoaLen
import Derived.Lib.Hide
import Derived.Deep.QuietTactic
import Derived.BigQuiet
import Derived.Below
import Derived.Laws.IdiomStrings
import Derived.IntWalk
import Derived.OpenShut
import Derived.Lib.ConvBytes
import Derived.Deep.RegionWith
namespace Go.Proofs.YtkcdmonmgnmojaaDoor
open Go.RowKit

theorem byte_back4 {d : Nat} {b : UInt8} (h : d < 10) (hb : UInt8.ofNat (48 + d) = b) (W : World) (a : Addr) (cap : Nat) (hc : W.cell? a = some (.int .u8 (48 + (d : Int)))) :
    (convert 79 9 (.slice (some a) 1 cap)).run Tryd.prog W = .ok (.string ⟨#[b]⟩) W :=
  run_convert_bytes_back W 79 9 5 a cap [b] Tryd.underlying79 Tryd.underlying5 Tryd.underlying9 (fun j hj => by
    have : j = 0 := by simpa using hj
    subst this
    have e : a.add 0 = a := by simp [Addr.add]
    rw [e, hc]
    have : b.toNat = 48 + d := by rw [← hb, UInt8.toNat_ofNat']; omega
    simp [this])

theorem numS_size {u : Nat} (h : u < 4294967296) : (numS u).size ≤ 20 := by
  have h2 : (numS u).size = (Lib.decDigits u).length := rfl
  rw [h2, Lib.decDigits_length]
  exact Lib.nDigits_le20 _ (by omega)
set_option maxHeartbeats 1000000 in
theorem digits_any : ∀ (n u : Nat) (x : Int) (w : World), x = (u : Int) → u < n → u < 4294967296 → Calls Tryd.prog 75 #[.int .u32 x] w fun e w' => e = .returned (.string (numS u)) ∧ Below w.heap.size w w' := by
  intro n
  induction n with
  | zero => intro u _ w _ h _; omega
  | succ n ih =>
    rintro u _ w rfl hn hu
    by_cases h10 : u < 10
    · rw [numS_small h10]
      obtain ⟨b, hb⟩ : ∃ b, UInt8.ofNat (48 + u) = b := ⟨_, rfl⟩
      rw [hb]
      have t1 : decide ((u : Int) < 10) = true := by rw [decide_eq_true_iff]; omega
      have hcb := byte_back4 h10 hb
      clear hb ih
      go_enter Tryd.func75, Tryd.ntmps75
      go_wp2_with fail
      go_ret
      exact ⟨rfl, (Below.refl _ w).alloc (Nat.le_refl _) _⟩
    · rw [numS_big h10]
      obtain ⟨b, hb⟩ : ∃ b, UInt8.ofNat (48 + u % 10) = b := ⟨_, rfl⟩
      rw [hb]
      have t1 : decide ((u : Int) < 10) = false := by rw [decide_eq_false_iff_not]; omega
      have hcb := byte_back4 (show u % 10 < 10 by omega) hb
      obtain ⟨q, hq⟩ : ∃ q, u / 10 = q := ⟨_, rfl⟩
      obtain ⟨r, hr⟩ : ∃ r, u % 10 = r := ⟨_, rfl⟩
      have hr10 : r < 10 := by omega
      rw [hr] at hcb
      have e1 : IntKind.u32.wrap ((u : Int) / 10) = (q : Int) := by rw [wrap_u32 (by omega) (by omega)]; omega
      have e2 : (u : Int).tmod 10 = (r : Int) := by rw [Int.tmod_eq_emod_of_nonneg (by omega)]; omega
      have e3 : IntKind.u32.wrap (48 + (r : Int)) = 48 + (r : Int) := wrap_u32 (by omega) (by omega)
      have e4 : IntKind.u8.wrap (48 + (r : Int)) = 48 + (r : Int) := wrap_u8 (by omega) (by omega)
      have hz1 : (numS q).size ≤ 20 := numS_size (by omega)
      have hz2 : ¬ 9223372036854775807 ≤ (numS q).size := by omega
      have hz3 : ¬ 9223372036854775807 < (numS q).size + 1 := by omega
      have ih' := fun w => ih q (q : Int) w rfl (by omega) (by omega)
      rw [hq]
      have ih2 := Lib.hid ih'
      clear hb ih ih' hq hr hn h10 hz1
      go_enter Tryd.func75, Tryd.ntmps75
      go_wp2_with fail
      go_region_with (go_at_call 75; refine (ih2.out _).mono ?_; rintro e w1 ⟨rfl, hb⟩
                      have hc := fun p hp => hb.cell (p := p) hp)
      all_goals
        go_wp2_with fail
        go_ret
        first
          | exact ⟨rfl, (((Below.refl _ w).drew).trans (hb.mono (by simp))).alloc (by have := hb.size; simpa using this) _⟩
          | exact ⟨rfl, (((Below.refl _ w).drew.alloc (by simp) _).trans (hb.mono (by simp)))⟩


end Go.Proofs.YtkcdmonmgnmojaaDoor
