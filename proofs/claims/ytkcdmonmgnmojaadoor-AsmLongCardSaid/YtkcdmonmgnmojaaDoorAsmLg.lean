/- The law AsmLong, walked. -/
import Derived.Test.YtkcdmonmgnmojaaDoorAsmM3
import Derived.Test.YtkcdmonmgnmojaaDoorAsmAw
namespace Go.Proofs.YtkcdmonmgnmojaaDoor
open Go.RowKit

def nop0 : Ins := ⟨0, 0, 0, 0, 0⟩
def nops (n : Nat) : List UInt8 := textOf (List.replicate n nop0)
def nopS (n : Nat) : ByteArray := ⟨(nops n).toArray⟩
theorem line_nop : lineL nop0 = [110, 111, 112] := by rfl
theorem nops_add (n m : Nat) : nops (n + m) = nops n ++ nops m := by
  unfold nops textOf
  rw [← List.replicate_append_replicate, List.flatMap_append]
theorem nops_one : nops 1 = [110, 111, 112, 10] := by
  unfold nops textOf
  rw [show List.replicate 1 nop0 = [nop0] from rfl, List.flatMap_cons, List.flatMap_nil, line_nop]
  rfl
theorem nops_len (n : Nat) : (nops n).length = 4 * n := by
  induction n with
  | zero => rfl
  | succ n ih => rw [nops_add, List.length_append, ih, nops_one]; simp; omega
theorem nopS_size (n : Nat) : (nopS n).size = 4 * n := by
  rw [← nops_len]
  simp [nopS, ByteArray.size]
theorem nopS_add (n m : Nat) : nopS n ++ nopS m = nopS (n + m) := by
  refine ByteArray.ext ?_
  simp [nopS, nops_add]
theorem nopS_one : (⟨#[110, 111, 112, 10]⟩ : ByteArray) = nopS 1 := by
  unfold nopS
  rw [nops_one]
theorem lns_rows (l : List Ins) : lns (textOf l) = l.map fun e => lineL e ++ [10] := by
  induction l with
  | nil => rfl
  | cons e l ih =>
    have : textOf (e :: l) = lineL e ++ [10] ++ textOf l := by simp [textOf]
    rw [this, lns_line _ _ (lineL_no e), ih]
    rfl
theorem nop_ok : insB nop0 = true ∧ nop0.ok := by
  refine ⟨by decide, ?_⟩
  unfold nop0 Ins.ok
  decide
theorem parse_nops (n : Nat) : parseE (nopS n).data.toList = ⟨List.replicate n nop0, 0, 0⟩ := by
  have : (nopS n).data.toList = textOf (List.replicate n nop0) := rfl
  rw [this]
  refine text_back _ ?_ ?_
  · unfold okAll
    rw [List.all_eq_true]
    intro x hx
    rw [(List.mem_replicate.1 hx).2]
    exact nop_ok.1
  · intro x hx
    rw [(List.mem_replicate.1 hx).2]
    exact nop_ok.2
theorem nops_lines (n : Nat) : ∀ x ∈ lns (nopS n).data.toList, x.length ≤ 3000 := by
  have : (nopS n).data.toList = textOf (List.replicate n nop0) := rfl
  rw [this, lns_rows]
  intro x hx
  obtain ⟨e, he, rfl⟩ := List.mem_map.1 hx
  rw [(List.mem_replicate.1 he).2, line_nop]
  simp

set_option maxRecDepth 100000 in
set_option maxHeartbeats 1000000 in
theorem parse_big (s : ByteArray) (w : World) (hs : 65536 < s.size) :
    Calls Tryd.prog 15 #[.string s] w fun e w' => e = .returned (.tuple #[.slice none 0 0, .int .i64 0, .int .i64 6]) ∧ Below w.heap.size w w' := by
  have t1 : decide ((65536 : Int) < (s.size : Int)) = true := by rw [decide_eq_true_iff]; omega
  have t2 : decide (65536 < s.size) = true := by rw [decide_eq_true_iff]; omega
  go_enter Tryd.func15, Tryd.ntmps15
  go_wp2_with fail
  refine bodyPost_ret (res_parse (A := none) (n := 0) (cp := 0) (x := 0) (y := 6) _ _ rfl rfl rfl (by simp [go_sem]) (by simp [go_sem]) (by simp [go_sem])) rfl ?_
  exact ⟨rfl, (((Below.refl _ w).alloc (Nat.le_refl _) _).alloc (by simp) _).alloc (by simp; omega) _⟩

set_option maxRecDepth 100000 in
set_option maxHeartbeats 2000000 in
theorem long_any (more : Bool) (w : World) (hT : Tab w) (hM : Mx w) : Calls Tryd.prog 4 #[.bool more] w fun e w' => e = .returned (.bool true) ∧ Below w.heap.size w w' := by
  go_enter Tryd.func4, Tryd.ntmps4
  go_wp2_with fail
  go_loopw [3, 4] (fun s j wr => ∃ k : Nat, k ≤ 14 ∧ j = .int .i64 k ∧ s = .string (nopS (2 ^ k)) ∧ Below w.heap.size w wr) (fun _ j _ => 14 - (intOf j).toNat)
  case atStart => exact ⟨0, Nat.zero_le _, rfl, by rw [nopS_one], Below.refl _ _⟩
  case round =>
    obtain ⟨k, hk, rfl, rfl, hb⟩ := hrel
    by_cases hlt : k < 14
    · have hltI : (k : Int) < 14 := by omega
      have hltD : decide ((k : Int) < 14) = true := decide_eq_true hltI
      have hsz := nopS_size (2 ^ k)
      have hp : 2 ^ k ≤ 2 ^ 14 := Nat.pow_le_pow_right (by omega) (by omega)
      have hap := Lib.hid (nopS_add (2 ^ k) (2 ^ k))
      obtain ⟨S, hS⟩ : ∃ S, nopS (2 ^ k) = S := ⟨_, rfl⟩
      rw [hS] at hsz hap ⊢
      have z1 : ¬ 9223372036854775807 < S.size + S.size := by omega
      clear hsz hS hp
      go_wp2_with fail
      go_roundw
      case rel => exact ⟨k + 1, by omega, by go_num, by rw [hap.out, Nat.pow_succ]; congr 2; omega, hb⟩
      case measure => simp [intOf]; omega
    · have hk14 : k = 14 := by omega
      subst hk14
      have e14 : 2 ^ 14 = 16384 := rfl
      rw [e14]
      have hsz := nopS_size 16384
      rcases more with _ | _
      · have hpr := fun W hT hM => parse_any (nopS 16384) W (by rw [hsz]; omega) (nops_lines 16384) hT hM
        rw [parse_nops] at hpr
        simp only at hpr
        obtain ⟨S, hS⟩ : ∃ S, nopS 16384 = S := ⟨_, rfl⟩
        obtain ⟨L, hL⟩ : ∃ L, List.replicate 16384 nop0 = L := ⟨_, rfl⟩
        have hLl : L.length = 16384 := by rw [← hL, List.length_replicate]
        rw [hS] at hsz hpr ⊢
        rw [hL] at hpr
        have hpr' := Lib.hid hpr
        have hsz' : S.size = 65536 := by rw [hsz]
        have hszI : (S.size : Int) = 65536 := by omega
        clear hpr hS hL hsz
        go_wp2_with fail
        refine (hpr'.out _ (hT.below hb) (hM.below hb)).mono ?_
        rintro e w1 ⟨v, rfl, hown, hb1'⟩
        have hb1 := hb.trans (hb1'.mono hb.size)
        obtain ⟨A, c, rfl, _, _⟩ := hown.sl
        rw [hLl]
        clear hown
        go_wp2_with fail
        refine (awake_any _ (hT.below hb1) (hM.below hb1)).mono ?_
        rintro e w2 ⟨rfl, hb2⟩
        go_wp2_with fail
        go_ret
        exact ⟨rfl, hb1.trans (hb2.mono hb1.size)⟩
      · have hadd := nopS_add 16384 1
        rw [← nopS_one] at hadd
        have hsz2 := nopS_size (16384 + 1)
        rw [← hadd] at hsz2
        obtain ⟨S, hS⟩ : ∃ S, nopS 16384 = S := ⟨_, rfl⟩
        rw [hS] at hsz hsz2 ⊢
        have hpr := fun W => parse_big (S ++ ⟨#[110, 111, 112, 10]⟩) W (by rw [hsz2]; omega)
        have hpr' := Lib.hid hpr
        have hsz' : S.size = 65536 := by rw [hsz]
        have z1 : ¬ 9223372036854775807 < S.size + 4 := by omega
        clear hpr hS hadd hsz hsz2
        go_wp2_with fail
        refine (hpr'.out _).mono ?_
        rintro e w1 ⟨rfl, hb1'⟩
        have hb1 := hb.trans (hb1'.mono hb.size)
        go_wp2_with fail
        refine (awake_any _ (hT.below hb1) (hM.below hb1)).mono ?_
        rintro e w2 ⟨rfl, hb2⟩
        go_wp2_with fail
        go_ret
        exact ⟨rfl, hb1.trans (hb2.mono hb1.size)⟩

end Go.Proofs.YtkcdmonmgnmojaaDoor
