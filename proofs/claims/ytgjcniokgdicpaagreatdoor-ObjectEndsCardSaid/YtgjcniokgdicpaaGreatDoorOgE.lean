/- Slots that are noted, and the least that is not. -/
import Derived.Test.YtgjcniokgdicpaaGreatDoorOgD
import Derived.Laws.Bits64b
import Derived.Lib.TrailingZeros
namespace Go.Proofs.YtgjcniokgdicpaaGreatDoor
open Go.RowKit
attribute [local go_sem] Oper.semAt_some

set_option maxRecDepth 100000 in
theorem bit_g (k : Nat) (h : k ≤ 20) (w : World) : Calls Tryz.prog 194 #[.int .i64 (k : Int)] w fun e w' => e = .returned (.int .u64 ((2 ^ k : Nat) : Int)) ∧ w' = w := by
  have h1 : decide ((k : Int) < 0) = false := decide_eq_false (by omega)
  have h2 : decide ((63 : Int) < (k : Int)) = false := decide_eq_false (by omega)
  have h3 : IntKind.u64.wrap (2 ^ k) = ((2 ^ k : Nat) : Int) := by
    have : 2 ^ k ≤ 2 ^ 20 := Nat.pow_le_pow_right (by omega) h
    rw [IntKind.wrap_u64, Int.emod_eq_of_lt]
    · simp
    · exact Int.le_of_lt (Int.pow_pos (by omega))
    · have h4 : ((2 ^ k : Nat) : Int) = (2 : Int) ^ k := by simp
      rw [← h4]
      omega
  go_enter Tryz.func194, Tryz.ntmps194
  go_wp2_with fail
  go_ret
  exact ⟨ret_int (by simp), rfl⟩
set_option maxRecDepth 100000 in
theorem put_g (u k : Nat) (hu : u < 18446744073709551616) (h : k ≤ 20) (w : World) : Calls Tryz.prog 192 #[.int .u64 (u : Int), .int .i64 (k : Int)] w fun e w' => e = .returned (.int .u64 ((u ||| 2 ^ k : Nat) : Int)) ∧ w' = w := by
  have h1 := Lib.hid fun W => bit_g k h W
  have h2 : bits BinOp.or IntKind.u64 (u : Int) ((2 ^ k : Nat) : Int) = ((u ||| 2 ^ k : Nat) : Int) := bits_or_u64_nat u (2 ^ k) hu (by have : 2 ^ k ≤ 2 ^ 20 := Nat.pow_le_pow_right (by omega) h; omega)
  obtain ⟨p, hp⟩ : ∃ x, 2 ^ k = x := ⟨_, rfl⟩
  rw [hp] at h1 h2 ⊢
  go_enter Tryz.func192, Tryz.ntmps192
  go_wp2_with fail
  refine (h1.out _).mono ?_
  rintro e w1 ⟨rfl, rfl⟩
  go_wp2_with fail
  go_ret
  exact ⟨rfl, rfl⟩
theorem used_put {u : Int} {f : Nat → Bool} (h : UsedIs u f) (k : Nat) (hk : k ≤ 20) : UsedIs ((u.toNat ||| 2 ^ k : Nat) : Int) fun j => f j || decide (j = k) := by
  obtain ⟨h0, h1, h2⟩ := h
  have hp : 2 ^ k < 2 ^ 64 := Nat.pow_lt_pow_right (by omega) (by omega)
  have hlt : u.toNat ||| 2 ^ k < 2 ^ 64 := Nat.or_lt_two_pow (by omega) hp
  refine ⟨by omega, by omega, fun j => ?_⟩
  rw [Int.toNat_natCast, Nat.testBit_or, h2, Nat.testBit_two_pow]
  congr 1
  by_cases e : k = j
  · subst e; simp
  · simp [e]
    exact fun h => e h.symm
def Tab64 (w : World) : Prop := ∀ j, j < Lib.deBruijn64tab.length → w.cell? ⟨0, j, none⟩ = some (.int .u8 (Lib.deBruijn64tab.getD j 0))
theorem Tab64.tch {w w' : World} {T : Nat → Prop} (h : Tab64 w) (hk : Tch T w w') (hn : ¬ T 0) : Tab64 w' := fun j hj => hk.cell (h j hj) hn
theorem tz_key (x a : Nat) (hx : x < 18446744073709551616) (hx0 : x ≠ 0) (hlow : x &&& (18446744073709551616 - x) = a) :
    IntKind.u64.wrap (bits BinOp.and IntKind.u64 (x : Int) (IntKind.u64.wrap (-(x : Int))) * 285870213051353865) / 288230376151711744 = ((a * 285870213051353865 % 18446744073709551616 / 288230376151711744 : Nat) : Int) := by
  have e1 : IntKind.u64.wrap (-(x : Int)) = ((18446744073709551616 - x : Nat) : Int) := by rw [IntKind.wrap_u64]; omega
  rw [e1, bits_and_u64_nat x _ hx (by omega), hlow, IntKind.wrap_u64]
  omega
set_option maxRecDepth 100000 in
set_option maxHeartbeats 1000000 in
theorem tz_core (x k idx : Nat) (w : World) (hx0 : ((x : Int) == 0) = false)
    (key : IntKind.u64.wrap (bits BinOp.and IntKind.u64 (x : Int) (IntKind.u64.wrap (-(x : Int))) * 285870213051353865) / 288230376151711744 = (idx : Int))
    (hi : idx < 64) (hk : k < 64) (hcell : w.cell? ⟨0, idx, none⟩ = some (.int .u8 k)) :
    Calls Tryz.prog 195 #[.int .u64 x] w fun e w' => e = .returned (.int .i64 k) ∧ w' = w := by
  go_enter Tryz.func195, Tryz.ntmps195
  go_wp2_with (simp only [key])
  go_ret
  exact ⟨rfl, rfl⟩
theorem tz_g (x : Nat) (hx : x < 18446744073709551616) (hx0 : x ≠ 0) (w : World) (hT : Tab64 w) :
    Calls Tryz.prog 195 #[.int .u64 x] w fun e w' => e = .returned (.int .i64 (Lib.ctz 64 x : Nat)) ∧ w' = w := by
  obtain ⟨hlow, hk⟩ := Lib.lowest_bit 64 x hx0 hx
  obtain ⟨hi, htab⟩ := Lib.deBruijn64_at _ hk
  have hcell := hT _ hi
  rw [htab] at hcell
  exact tz_core x _ _ w (by simp; omega) (tz_key x _ hx hx0 hlow) hi hk hcell
/-- The least that is in a set. -/
theorem find_ctz {x : Nat} (hx : x < 18446744073709551616) (hx0 : x ≠ 0) : (List.range 64).find? (fun k => x.testBit k) = some (Lib.ctz 64 x) := by
  obtain ⟨m, hm, hf⟩ := Lib.ctzFrom_spec 64 x (by omega) (by simpa using hx)
  have hc : Lib.ctz 64 x = Lib.ctzFrom 64 x := by unfold Lib.ctz; rw [if_neg hx0]
  rw [hc]
  generalize Lib.ctzFrom 64 x = k at hm hf
  rw [List.find?_range_eq_some]
  subst hm
  refine ⟨?_, by simpa using hf, fun j hj => ?_⟩
  · rw [Nat.testBit_two_pow_mul]
    simp
  · rw [Nat.testBit_two_pow_mul]
    simp
    omega
set_option maxRecDepth 100000 in
theorem first_g (x : Nat) (hx : x < 18446744073709551616) (w : World) (hT : Tab64 w) :
    Calls Tryz.prog 193 #[.int .u64 x] w fun e w' => ∃ b, e = .returned (.tuple #[.int .i64 (((List.range 64).find? (fun k => x.testBit k)).getD 0 : Nat), .bool b]) ∧ w' = w := by
  by_cases hx0 : x = 0
  · subst hx0
    have h0 : ((List.range 64).find? (fun k => (0 : Nat).testBit k)).getD 0 = 0 := by
      have : (List.range 64).find? (fun k => (0 : Nat).testBit k) = none := by simp [List.find?_eq_none]
      rw [this]
      rfl
    rw [h0]
    go_enter Tryz.func193, Tryz.ntmps193
    go_wp2_with fail
    go_ret2
    exact ⟨_, rfl, rfl⟩
  · rw [find_ctz hx hx0]
    have h0 : ((x : Int) == 0) = false := by simp; omega
    have HC := Lib.hid (tz_g x hx hx0 w hT)
    clear hx hx0 hT
    go_enter Tryz.func193, Tryz.ntmps193
    go_wp2_with fail
    refine HC.out.mono ?_
    rintro e w1 ⟨rfl, rfl⟩
    go_wp2_with fail
    go_ret2
    exact ⟨_, rfl, rfl⟩
section
variable (sb mb lb : Nat) (ty : TypeId) (o : Ob) (c : Kc) (rv : Value) (l : List Int)
set_option maxRecDepth 100000 in
set_option maxHeartbeats 1000000 in
theorem mark_o (s : Int) (w : World) (h : St w sb mb lb ty o c rv l) (hs : 0 ≤ s ∧ s < 4294967296) : Calls Tryz.prog 188 #[.pointer (some ⟨sb, 0, none⟩), .int .u32 s] w (DidK sb mb lb ty o w rv (c.mark s) l (.tuple #[])) := by
  obtain ⟨u, hu, hr⟩ := h.op.row
  have hu0 := hu.1
  have hu1 := hu.2.1
  have c15 : w.cell? ⟨sb, 15, none⟩ = some (.int .u64 u) := (hr.cell 15).trans rfl
  have f15 := hr.frozen 15
  obtain ⟨k, hk, hk2⟩ : ∃ k : Nat, min s 20 = (k : Int) ∧ k ≤ 20 := ⟨(min s 20).toNat, by omega, by omega⟩
  have hup := used_put hu k hk2
  have hm : c.mark s = { c with used := fun j => c.used j || decide (j = k) } := by
    unfold Kc.mark
    rw [hk]
    have : ∀ j : Nat, decide ((j : Int) = (k : Int)) = decide (j = k) := fun j => by rw [decide_eq_decide]; omega
    simp only [this]
  rw [hm]
  have hr2 := hr.set 15 (.int .u64 ((u.toNat ||| 2 ^ k : Nat) : Int))
  have ht := (Tch.refl (fun b => b = sb) w).set (b := sb) rfl 15 (.int .u64 ((u.toNat ||| 2 ^ k : Nat) : Int))
  have hf := h.op.fits
  have HS := Lib.hid (h.upd (c' := { c with used := fun j => c.used j || decide (j = k) }) (rv' := rv) ht hup hr2 ⟨hf.kd, hf.wd, hf.sl, hf.cap, hf.nr, hf.wd1, hf.nr1, hf.sl1, hf.cap1, hf.rd1, hf.base1, hf.size1, hf.i1, hf.tr1, hf.st1, hf.A0, hf.A1, hf.B0, hf.B1⟩ (.inl ⟨rfl, rfl⟩))
  have HT := Lib.hid ht
  have hpt := fun W (m : Int) (hm : m = (k : Int)) => (by subst hm; rw [show u = ((u.toNat : Nat) : Int) by omega]; exact put_g u.toNat k (by omega) hk2 W : Calls Tryz.prog 192 #[.int .u64 u, .int .i64 m] W fun e w' => e = .returned (.int .u64 ((u.toNat ||| 2 ^ k : Nat) : Int)) ∧ w' = W)
  have HP := Lib.hid hpt
  have hs0 := hs.1
  have hs1 := hs.2
  have HK := Lib.hid hk
  clear hr hu hup hr2 ht hf h hm hpt hu0 hu1 hk hs
  obtain ⟨Q, hQ⟩ : ∃ x, ((u.toNat ||| 2 ^ k : Nat) : Int) = x := ⟨_, rfl⟩
  rw [hQ] at HS HT HP
  clear hQ
  go_enter Tryz.func188, Tryz.ntmps188
  go_wp2_with fail
  all_goals
    refine (HP.out _ _ (by have := HK.out; omega)).mono ?_
    rintro e w1 ⟨rfl, rfl⟩
    go_wp2_with fail
    go_end0
    exact ⟨rfl, HS.out, Mv.own HT.out (.inl rfl)⟩
theorem xor_all {u : Int} (h0 : 0 ≤ u) (h1 : u < 18446744073709551616) : bits BinOp.xor IntKind.u64 IntKind.u64.max u = 18446744073709551615 - u := by
  have hm : IntKind.u64.max = ((18446744073709551615 : Nat) : Int) := rfl
  have hu : u = ((u.toNat : Nat) : Int) := by omega
  have hx : (18446744073709551615 : Nat) ^^^ u.toNat = 18446744073709551615 - u.toNat := by
    apply Nat.eq_of_testBit_eq
    intro i
    rw [Nat.testBit_xor, show (18446744073709551615 : Nat) = 2 ^ 64 - 1 by rfl, Nat.testBit_two_pow_sub_one, show 2 ^ 64 - 1 - u.toNat = 2 ^ 64 - (u.toNat + 1) by omega, Nat.testBit_two_pow_sub_succ (by omega)]
    by_cases hi : i < 64
    · simp [hi]
    · have : u.toNat.testBit i = false := Nat.testBit_lt_two_pow (Nat.lt_of_lt_of_le (show u.toNat < 2 ^ 64 by omega) (Nat.pow_le_pow_right (by omega) (by omega)))
      simp [hi, this]
  rw [hm, hu, bits_xor_u64_nat _ _ (by omega) (by omega), hx]
  omega
theorem free_bd (c : Kc) : 0 ≤ c.free ∧ c.free ≤ 63 := by
  unfold Kc.free
  cases h : (List.range 64).find? fun k => !c.used k with
  | none => simp
  | some x =>
    have := List.mem_range.1 (List.mem_of_find?_eq_some h)
    simp
    omega
theorem free_is {u : Int} {c : Kc} (h : UsedIs u c.used) : ((((List.range 64).find? (fun k => (18446744073709551615 - u.toNat).testBit k)).getD 0 : Nat) : Int) = c.free := by
  obtain ⟨h0, h1, h2⟩ := h
  unfold Kc.free
  have e : ∀ k, k ∈ List.range 64 → (18446744073709551615 - u.toNat).testBit k = !c.used k := fun k hk => by
    rw [show 18446744073709551615 - u.toNat = 2 ^ 64 - (u.toNat + 1) by omega, Nat.testBit_two_pow_sub_succ (by omega), h2]
    simp [List.mem_range.1 hk]
  have : ∀ (l : List Nat), (∀ k ∈ l, (18446744073709551615 - u.toNat).testBit k = !c.used k) → l.find? (fun k => (18446744073709551615 - u.toNat).testBit k) = l.find? fun k => !c.used k := fun l => by
    induction l with
    | nil => intro _; rfl
    | cons x l ih =>
      intro h
      rw [List.find?_cons, List.find?_cons, h x (by simp), ih fun k hk => h k (by simp [hk])]
  rw [this _ e]
set_option maxRecDepth 100000 in
set_option maxHeartbeats 1000000 in
theorem free_o (w : World) (h : St w sb mb lb ty o c rv l) (hT : Tab64 w) : Calls Tryz.prog 189 #[.pointer (some ⟨sb, 0, none⟩)] w fun e w' => e = .returned (.int .u32 c.free) ∧ w' = w := by
  obtain ⟨u, hu, hr⟩ := h.op.row
  have c15 : w.cell? ⟨sb, 15, none⟩ = some (.int .u64 u) := (hr.cell 15).trans rfl
  have hu0 := hu.1
  have hu1 := hu.2.1
  have hF := first_g (18446744073709551615 - u.toNat) (by omega) w hT
  rw [show ((18446744073709551615 - u.toNat : Nat) : Int) = 18446744073709551615 - u by omega] at hF
  rw [free_is hu] at hF
  have HF := Lib.hid hF
  have hb := free_bd c
  have hb0 := hb.1
  have hb1 := hb.2
  have HX := Lib.hid (xor_all hu0 hu1)
  clear hr hF hu h hb hT
  obtain ⟨Q, hQ⟩ : ∃ x, c.free = x := ⟨_, rfl⟩
  rw [hQ] at HF hb0 hb1 ⊢
  clear hQ
  go_enter Tryz.func189, Tryz.ntmps189
  go_wp2_with fail
  rw [HX.out]
  refine HF.out.mono ?_
  rintro e w1 ⟨b, rfl, rfl⟩
  go_wp2_with fail
  go_ret
  exact ⟨rfl, rfl⟩
end

end Go.Proofs.YtgjcniokgdicpaaGreatDoor
