/- The reference's Digits and Show. -/
import Derived.Test.YtjfgmallhjclgaaDoorRec3
import Derived.Laws.IdiomStrings
import Derived.IntWalk
import Derived.OpenShut
namespace Go.Proofs.YtjfgmallhjclgaaDoor
open Go.RowKit Go.Shelf

theorem byte_back {d : Nat} {b : UInt8} (h : d < 10) (hb : UInt8.ofNat (48 + d) = b) (W : World) (a : Addr) (cap : Nat) (hc : W.cell? a = some (.int .u8 (48 + (d : Int)))) :
    (convert 53 9 (.slice (some a) 1 cap)).run Tryd.prog W = .ok (.string ⟨#[b]⟩) W :=
  run_convert_bytes_back W 53 9 5 a cap [b] Tryd.underlying53 Tryd.underlying5 Tryd.underlying9 (fun j hj => by
    have : j = 0 := by simpa using hj
    subst this
    have e : a.add 0 = a := by simp [Addr.add]
    rw [e, hc]
    have : b.toNat = 48 + d := by rw [← hb, UInt8.toNat_ofNat']; omega
    simp [this])

theorem numS_small {u : Nat} (h : u < 10) : numS u = ⟨#[UInt8.ofNat (48 + u)]⟩ := by unfold numS; rw [Lib.decDigits, dif_pos h]
theorem numS_big {u : Nat} (h : ¬u < 10) : numS u = numS (u / 10) ++ ⟨#[UInt8.ofNat (48 + u % 10)]⟩ := by
  unfold numS
  rw [Lib.decDigits, dif_neg h]
  apply ByteArray.ext
  simp

theorem numS_size {u : Nat} (h : u < 4294967296) : (numS u).size ≤ 20 := by
  have h2 : (numS u).size = (Lib.decDigits u).length := rfl
  rw [h2, Lib.decDigits_length]
  exact Lib.nDigits_le20 _ (by omega)
theorem wrap_u32 {x : Int} (h0 : 0 ≤ x) (h : x < 4294967296) : IntKind.u32.wrap x = x := by
  simp [IntKind.wrap, IntKind.signed, IntKind.bits]
  omega
theorem wrap_u8 {x : Int} (h0 : 0 ≤ x) (h : x < 256) : IntKind.u8.wrap x = x := by
  simp [IntKind.wrap, IntKind.signed, IntKind.bits]
  omega
set_option maxHeartbeats 1000000 in
theorem digits_any : ∀ (n u : Nat) (x : Int) (w : World), x = (u : Int) → u < n → u < 4294967296 → Calls Tryd.prog 29 #[.int .u32 x] w fun e w' => e = .returned (.string (numS u)) ∧ Below w.heap.size w w' := by
  intro n
  induction n with
  | zero => intro u _ w _ h _; omega
  | succ n ih =>
    rintro u _ w rfl hn hu
    by_cases h10 : u < 10
    · rw [numS_small h10]
      obtain ⟨b, hb⟩ : ∃ b, UInt8.ofNat (48 + u) = b := ⟨_, rfl⟩
      rw [hb]
      have t1 : decide ((u : Int) < 10) = true := by rw [decide_eq_true_iff]; omega
      have hcb := byte_back h10 hb
      clear hb ih
      go_enter Tryd.func29, Tryd.ntmps29
      go_wp2_with fail
      go_ret
      exact ⟨rfl, (Below.refl _ w).alloc (Nat.le_refl _) _⟩
    · rw [numS_big h10]
      obtain ⟨b, hb⟩ : ∃ b, UInt8.ofNat (48 + u % 10) = b := ⟨_, rfl⟩
      rw [hb]
      have t1 : decide ((u : Int) < 10) = false := by rw [decide_eq_false_iff_not]; omega
      have hcb := byte_back (show u % 10 < 10 by omega) hb
      obtain ⟨q, hq⟩ : ∃ q, u / 10 = q := ⟨_, rfl⟩
      obtain ⟨r, hr⟩ : ∃ r, u % 10 = r := ⟨_, rfl⟩
      have hr10 : r < 10 := by omega
      rw [hr] at hcb
      have e1 : IntKind.u32.wrap ((u : Int) / 10) = (q : Int) := by rw [wrap_u32 (by omega) (by omega)]; omega
      have e2 : (u : Int).tmod 10 = (r : Int) := by rw [Int.tmod_eq_emod_of_nonneg (by omega)]; omega
      have e3 : IntKind.u32.wrap (48 + (r : Int)) = 48 + (r : Int) := wrap_u32 (by omega) (by omega)
      have e4 : IntKind.u8.wrap (48 + (r : Int)) = 48 + (r : Int) := wrap_u8 (by omega) (by omega)
      have hz1 : (numS q).size ≤ 20 := numS_size (by omega)
      have hz2 : ¬ 9223372036854775807 ≤ (numS q).size := by omega
      have hz3 : ¬ 9223372036854775807 < (numS q).size + 1 := by omega
      have ih' := fun w => ih q (q : Int) w rfl (by omega) (by omega)
      rw [hq]
      have ih2 := Lib.hid ih'
      clear hb ih ih' hq hr hn h10 hz1
      go_enter Tryd.func29, Tryd.ntmps29
      go_wp2_with fail
      go_region_with (go_at_call 29; refine (ih2.out _).mono ?_; rintro e w1 ⟨rfl, hb⟩
                      have hc := fun p hp => hb.cell (p := p) hp)
      all_goals
        go_wp2_with fail
        go_ret
        first
          | exact ⟨rfl, (((Below.refl _ w).drew).trans (hb.mono (by simp))).alloc (by have := hb.size; simpa using this) _⟩
          | exact ⟨rfl, (((Below.refl _ w).drew.alloc (by simp) _).trans (hb.mono (by simp)))⟩

theorem join_snoc (xs : List (List UInt8)) (x sep : List UInt8) (h : xs ≠ []) : Lib.join (xs ++ [x]) sep = Lib.join xs sep ++ sep ++ x := by
  cases xs with
  | nil => exact (h rfl).elim
  | cons y ys =>
    rw [List.cons_append, Lib.join_cons, Lib.join_cons]
    simp [Lib.joinTail]
theorem showL_one (l : List Int) {x : Int} (h : l[0]? = some x) : showL (l.take (0 + 1)) = Lib.decDigits x.toNat := by
  rw [take_snoc h]
  simp [showL, Lib.join]
theorem showL_snoc (l : List Int) {k : Nat} {x : Int} (hk : 0 < k) (h : l[k]? = some x) : showL (l.take (k + 1)) = showL (l.take k) ++ [32] ++ Lib.decDigits x.toNat := by
  rw [take_snoc h]
  unfold showL
  rw [List.map_append]
  refine join_snoc _ _ _ (fun e => ?_)
  have h1 := congrArg List.length e
  have := get_lt h
  rw [List.length_map, List.length_take, List.length_nil] at h1
  omega
theorem showL_len (l : List Int) (h : ∀ z ∈ l, z < 4294967296) : ∀ k, k ≤ l.length → (showL (l.take k)).length ≤ 21 * k := by
  intro k
  induction k with
  | zero => intro _; simp [showL, Lib.join]
  | succ k ih =>
    intro hk
    obtain ⟨x, hx⟩ := get_some (show k < l.length by omega)
    have hd := digits_le x (h x (List.mem_of_getElem? hx))
    have := ih (by omega)
    rcases Nat.eq_zero_or_pos k with rfl | hp
    · rw [showL_one l hx]; omega
    · rw [showL_snoc l hp hx, List.length_append, List.length_append, List.length_singleton]; omega

set_option maxHeartbeats 1000000 in
theorem refShow_any (A : Option Addr) (c : Nat) (l : List Int) (w : World) (hn : l.length ≤ 1000001) (hl : Ws w w.heap.size A l) :
    Calls Tryd.prog 20 #[.slice A l.length c] w fun e w' => e = .returned (.string (showS l)) ∧ Below w.heap.size w w' := by
  have hbd : ∀ z ∈ l, z < 4294967296 := fun z hz => by
    have := bounds_u32 (hl.2 z hz)
    omega
  have hlen := Lib.hid (showL_len l hbd)
  go_enter Tryd.func20, Tryd.ntmps20
  go_wp2_with fail
  go_loopw [3, 7] (fun s j wr => ∃ k : Nat, k ≤ l.length ∧ j = .int .i64 k ∧ s = .string ⟨(showL (l.take k)).toArray⟩ ∧ Below w.heap.size w wr) (fun _ j _ => l.length - (intOf j).toNat)
  case atStart => exact ⟨0, Nat.zero_le _, rfl, by simp [showL, Lib.join], Below.refl _ _⟩
  case round =>
    obtain ⟨k, hk, rfl, rfl, hbr⟩ := hrel
    by_cases hlt : k < l.length
    · obtain ⟨x, hx⟩ := get_some hlt
      obtain ⟨⟨hwf, hx0, hx1⟩, b, off, rfl, hbk, hcx⟩ := (hl.below hbr hbr.size).get hx
      have hxn : x = (x.toNat : Int) := by omega
      have hsz := hlen.out k (by omega)
      obtain ⟨S, hS⟩ : ∃ S : ByteArray, (⟨(showL (l.take k)).toArray⟩ : ByteArray) = S := ⟨_, rfl⟩
      have hSs : S.size ≤ 21 * k := by
        rw [← hS]
        simpa [ByteArray.size_mk'] using hsz
      rw [hS]
      have hx' := Lib.hid hx
      have hS' := Lib.hid hS
      have z1 : ¬ 9223372036854775807 ≤ S.size := by omega
      have z2 : ¬ 9223372036854775807 < S.size + 1 := by omega
      clear hx hS hsz
      have hxn' := Lib.hid hxn
      clear hxn hbd
      obtain ⟨D, hD⟩ : ∃ D : ByteArray, numS x.toNat = D := ⟨_, rfl⟩
      have hDs : D.size ≤ 20 := by rw [← hD]; exact numS_size (by omega)
      have z3 : ¬ 9223372036854775807 < S.size + D.size := by omega
      have z4 : ¬ 9223372036854775807 < S.size + 1 + D.size := by omega
      have hdg := fun W => digits_any (x.toNat + 1) x.toNat x W hxn'.out (by omega) (by omega)
      rw [hD] at hdg
      have hdg' := Lib.hid hdg
      have hD' := Lib.hid hD
      clear hdg hD
      rcases Nat.eq_zero_or_pos k with h0 | hp
      · have t1 : decide (0 < k) = false := by rw [decide_eq_false_iff_not]; omega
        have h0' := Lib.hid h0
        clear h0
        go_wp2_with fail
        refine (hdg'.out _).mono ?_
        rintro e w2 ⟨rfl, hb2⟩
        go_wp2_with fail
        go_roundw
        case rel => exact ⟨k + 1, by omega, by go_num, by
            have e1 : S = ⟨#[]⟩ := by rw [← hS'.out, h0'.out]; rfl
            have e2 := showL_one l (by have := hx'.out; rwa [h0'.out] at this)
            rw [h0'.out, e2, e1, ← hD'.out]
            rfl, hbr.trans (hb2.mono hbr.size)⟩
        case measure => simp [intOf]; omega
      · have t1 : decide (0 < k) = true := by rw [decide_eq_true_iff]; omega
        have hp' := Lib.hid hp
        clear hp
        go_wp2_with fail
        refine (hdg'.out _).mono ?_
        rintro e w2 ⟨rfl, hb2⟩
        go_wp2_with fail
        go_roundw
        case rel => exact ⟨k + 1, by omega, by go_num, by
            rw [showL_snoc l hp'.out hx'.out, ← hS'.out, ← hD'.out]
            refine congrArg Value.string (ByteArray.ext ?_)
            simp [numS], hbr.trans (hb2.mono hbr.size)⟩
        case measure => simp [intOf]; omega
    · have ht := Lib.hid (take_all hlt)
      go_wp2_with fail
      go_ret
      exact ⟨by rw [ht.out]; rfl, hbr⟩

end Go.Proofs.YtjfgmallhjclgaaDoor
