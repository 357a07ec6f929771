/- PROVED: the Go function coxswainlaw34.SourceLong returns true, whatever its argument (a boolean), and leaves what it holds as it was. Conditions: none beyond those of the given row; the listed tables are tied by the given card. -/
import Derived.Test.YtfgmebjbibbpdaaDoorZl7
import Derived.Test.YtfgmebjbibbpdaaDoorZlo
import Derived.Test.YtfgmebjbibbpdaaDoorCards
import Derived.Test.YtfgmebjbibbpdaaDoorTie
import Derived.Deep.DeepHandedRow
import Derived.Lib.LaidTab
namespace Go.Proofs.YtfgmebjbibbpdaaDoor
open Go.RowKit

theorem mx_of {W : World} (h : W.ShapedOpen Tryd.prog) : Mx W := Tryd.laysM146.s1_3 W h
def nop0 : Ins := ⟨0, 0, 0, 0, 0⟩
def nops (n : Nat) : List UInt8 := textOf (List.replicate n nop0)
def nopS (n : Nat) : ByteArray := ⟨(nops n).toArray⟩
theorem line_nop : lineL nop0 = [110, 111, 112] := by rfl
theorem nops_add (n m : Nat) : nops (n + m) = nops n ++ nops m := by
  unfold nops textOf
  rw [← List.replicate_append_replicate, List.flatMap_append]
theorem nops_one : nops 1 = [110, 111, 112, 10] := by
  unfold nops textOf
  rw [show List.replicate 1 nop0 = [nop0] from rfl, List.flatMap_cons, List.flatMap_nil, line_nop]
  rfl
theorem nops_len (n : Nat) : (nops n).length = 4 * n := by
  induction n with
  | zero => rfl
  | succ n ih => rw [nops_add, List.length_append, ih, nops_one]; simp; omega
theorem nopS_size (n : Nat) : (nopS n).size = 4 * n := by
  rw [← nops_len]
  simp [nopS, ByteArray.size]
theorem nopS_add (n m : Nat) : nopS n ++ nopS m = nopS (n + m) := by
  refine ByteArray.ext ?_
  simp [nopS, nops_add]
theorem nopS_one : (⟨#[110, 111, 112, 10]⟩ : ByteArray) = nopS 1 := by
  unfold nopS
  rw [nops_one]
/-- A task without code, as it stands in the long text. -/
def tk0 (c : List Ins) : Tk := ⟨2, 1, 1, 0, 1, 1, c⟩
def hdL : List UInt8 := [116, 97, 115, 107, 32, 115, 112, 111, 114, 97, 100, 105, 99, 32, 49, 32, 49, 32, 48, 32, 49, 32, 49]
theorem tk0_head (c : List Ins) : headL (tk0 c) = hdL := by
  have d1 : dd 1 = [49] := by unfold dd; rw [show Int.toNat 1 = 1 from rfl, dd_small (by omega)]; rfl
  unfold headL headP
  rw [Lib.join_cons]
  show taskW ++ Lib.joinTail [32] [spoW, dd 1, dd 1, dd 0, dd 1, dd 1] = _
  rw [d1, ex_d0]
  rfl
def tl (n : Nat) : List UInt8 := tasksT (List.replicate n (tk0 []))
def tlS (n : Nat) : ByteArray := ⟨(tl n).toArray⟩
theorem tl_add (n m : Nat) : tl (n + m) = tl n ++ tl m := by
  unfold tl tasksT
  rw [← List.replicate_append_replicate, List.flatMap_append]
theorem tl_one : tl 1 = hdL ++ [10, 101, 110, 100, 10] := by
  unfold tl tasksT
  rw [show List.replicate 1 (tk0 []) = [tk0 []] from rfl, List.flatMap_cons, List.flatMap_nil]
  unfold taskT
  rw [tk0_head]
  rfl
theorem tl_len (n : Nat) : (tl n).length = 28 * n := by
  induction n with
  | zero => rfl
  | succ n ih => rw [tl_add, List.length_append, ih, tl_one]; simp [hdL]; omega
theorem tlS_size (n : Nat) : (tlS n).size = 28 * n := by
  rw [← tl_len]
  simp [tlS, ByteArray.size]
theorem tlS_add (n m : Nat) : tlS n ++ tlS m = tlS (n + m) := by
  refine ByteArray.ext ?_
  simp [tlS, tl_add]
theorem tlS_one : (⟨#[116, 97, 115, 107, 32, 115, 112, 111, 114, 97, 100, 105, 99, 32, 49, 32, 49, 32, 48, 32, 49, 32, 49, 10, 101, 110, 100, 10]⟩ : ByteArray) = tlS 1 := by
  unfold tlS
  rw [tl_one]
  rfl
theorem nopS_cut : (nopS 2048).extract 0 8164 = nopS 2041 := by
  refine ByteArray.ext ?_
  rw [ByteArray.data_extract]
  apply Array.toList_inj.1
  rw [Array.toList_extract, List.extract_eq_take_drop, List.drop_zero]
  show (nops (2041 + 7)).take (8164 - 0) = nops 2041
  rw [nops_add, List.take_append, List.take_of_length_le (by rw [nops_len]; omega), nops_len]
  simp
/-- The long text's system. -/
def lgS (a b : Nat) : Sy := ⟨List.replicate a (tk0 []) ++ [tk0 (List.replicate b nop0)], []⟩
theorem lg_text (a b : Nat) : sysT (lgS a b) = tl a ++ ((hdL ++ [10]) ++ (nops b ++ [101, 110, 100, 10])) := by
  unfold sysT lgS
  simp only
  rw [tasksT_snoc]
  unfold taskT
  rw [tk0_head]
  simp [tl, nops, objsT, endW3, tk0]
theorem lg_len (a b : Nat) : (sysT (lgS a b)).length = 28 * a + (24 + (4 * b + 4)) := by
  rw [lg_text]
  simp only [List.length_append, tl_len, nops_len]
  rfl
theorem nop_ok : insB nop0 = true ∧ nop0.ok := by
  refine ⟨by decide, ?_⟩
  unfold nop0 Ins.ok
  decide
theorem lg_tasks (a b : Nat) : ∀ t ∈ (lgS a b).ts, ∃ n, t = tk0 (List.replicate n nop0) := fun t ht => by
  rcases List.mem_append.1 ht with ht | ht
  · exact ⟨0, (List.mem_replicate.1 ht).2⟩
  · exact ⟨b, List.mem_singleton.1 ht⟩
theorem tk0_ok (n : Nat) : taskOk (tk0 (List.replicate n nop0)) = true ∧ (tk0 (List.replicate n nop0)).ok := by
  refine ⟨?_, fun e he => ?_⟩
  · unfold taskOk
    rw [Bool.and_eq_true]
    refine ⟨rfl, List.all_eq_true.2 fun e he => ?_⟩
    rw [(List.mem_replicate.1 he).2]
    exact nop_ok.1
  · rw [(List.mem_replicate.1 he).2]
    exact nop_ok.2
theorem lg_ok (a b : Nat) (h : 28 * a + (24 + (4 * b + 4)) ≤ 65536) : printOk (lgS a b) = true ∧ (lgS a b).ok := by
  refine ⟨?_, fun t ht => ?_, fun o ho => by cases ho⟩
  · unfold printOk
    rw [lg_len, Bool.and_eq_true]
    refine ⟨?_, decide_eq_true h⟩
    unfold sysOk
    rw [Bool.and_eq_true]
    refine ⟨List.all_eq_true.2 fun t ht => ?_, rfl⟩
    obtain ⟨n, rfl⟩ := lg_tasks a b t ht
    exact (tk0_ok n).1
  · obtain ⟨n, rfl⟩ := lg_tasks a b t ht
    exact (tk0_ok n).2
theorem nops_bd (n : Nat) (rest : List UInt8) (hr : ∀ x ∈ lns rest, x.length ≤ 3000) : ∀ x ∈ lns (textOf (List.replicate n nop0) ++ rest), x.length ≤ 3000 := by
  induction n with
  | zero => exact hr
  | succ n ih =>
    have ht : textOf (List.replicate (n + 1) nop0) ++ rest = lineL nop0 ++ [10] ++ (textOf (List.replicate n nop0) ++ rest) := by rw [List.replicate_succ]; simp [textOf]
    rw [ht, lns_line _ _ (lineL_no nop0)]
    intro x hx
    rcases List.mem_cons.1 hx with rfl | hx
    · rw [line_nop]; decide
    · exact ih x hx
theorem tks_bd (l : List Tk) (h : ∀ t ∈ l, ∃ n, t = tk0 (List.replicate n nop0)) : ∀ x ∈ lns (tasksT l), x.length ≤ 3000 := by
  induction l with
  | nil => intro x hx; cases hx
  | cons t l ih =>
    obtain ⟨n, rfl⟩ := h t (by simp)
    have ht : tasksT (tk0 (List.replicate n nop0) :: l) = headL (tk0 (List.replicate n nop0)) ++ [10] ++ (textOf (List.replicate n nop0) ++ (endW3 ++ [10] ++ tasksT l)) := by simp [tasksT, taskT, tk0]
    rw [ht, lns_line _ _ (headL_no _)]
    intro x hx
    rcases List.mem_cons.1 hx with rfl | hx
    · rw [tk0_head]; decide
    · refine nops_bd n _ ?_ x hx
      rw [lns_line _ _ endW3_no]
      intro y hy
      rcases List.mem_cons.1 hy with rfl | hy
      · decide
      · exact ih (fun z hz => h z (by simp [hz])) y hy
theorem lg_bd (a b : Nat) : ∀ x ∈ lns (sysT (lgS a b)), x.length ≤ 3000 := by
  have : sysT (lgS a b) = tasksT (lgS a b).ts := by
    unfold sysT
    show _ ++ [] = _
    rw [List.append_nil]
  rw [this]
  exact tks_bd _ (lg_tasks a b)
theorem lg_parse (a b : Nat) (h : 28 * a + (24 + (4 * b + 4)) ≤ 65536) : parseS (sysT (lgS a b)) = ⟨lgS a b, 0, 0⟩ := sys_back (lg_ok a b h).1 (lg_ok a b h).2
def lgT (a b : Nat) : ByteArray := ⟨(sysT (lgS a b)).toArray⟩
theorem lgT_eq (a b : Nat) : ((tlS a ++ (⟨#[116, 97, 115, 107, 32, 115, 112, 111, 114, 97, 100, 105, 99, 32, 49, 32, 49, 32, 48, 32, 49, 32, 49, 10]⟩ : ByteArray)) ++ nopS b) ++ ⟨#[101, 110, 100, 10]⟩ = lgT a b := by
  refine ByteArray.ext ?_
  apply Array.toList_inj.1
  unfold lgT
  rw [lg_text]
  simp [tlS, nopS, hdL]
theorem lgT_size (a b : Nat) : (lgT a b).size = 28 * a + (24 + (4 * b + 4)) := by rw [← lg_len]; simp [lgT, ByteArray.size]

set_option maxRecDepth 100000 in
set_option maxHeartbeats 1000000 in
theorem sparse_big (s : ByteArray) (w : World) (hs : 65536 < s.size) :
    Calls Tryd.prog 4 #[.string s] w fun e w' => e = .returned (.tuple #[.agg #[.slice none 0 0, .slice none 0 0], .int .i64 0, .int .i64 6]) ∧ Below w.heap.size w w' := by
  have t1 : decide ((65536 : Int) < (s.size : Int)) = true := by rw [decide_eq_true_iff]; omega
  have t2 : decide (65536 < s.size) = true := by rw [decide_eq_true_iff]; omega
  go_enter Tryd.func4, Tryd.ntmps4
  go_wp2_with fail
  have r1 := RowB.new w #[.slice none 0 0, .slice none 0 0] 25
  have al : ∀ (W : World) (o : Obj), Below W.heap.size W (W.alloc o) := fun W o => (Below.refl _ _).alloc (Nat.le_refl _) o
  refine bodyPost_ret (res_sparse (x := 0) (y := 6) _ _ rfl rfl rfl (((r1.kept (al _ _)).kept (al _ _)).kept (al _ _)) (by simp [go_sem]) (by simp [go_sem])) rfl ?_
  exact ⟨rfl, ((((Below.refl _ w).alloc (Nat.le_refl _) _).alloc (by simp) _).alloc (by simp; omega) _).alloc (by simp; omega) _⟩

set_option maxRecDepth 100000 in
set_option maxHeartbeats 2000000 in
theorem slong_any (more : Bool) (w : World) (hT : Tab w) (hM : Mx w) : Calls Tryd.prog 3 #[.bool more] w fun e w' => e = .returned (.bool true) ∧ Below w.heap.size w w' := by
  go_enter Tryd.func3, Tryd.ntmps3
  go_wp2_with fail
  go_loopw [3, 4] (fun s j wr => ∃ k : Nat, k ≤ 11 ∧ j = .int .i64 k ∧ s = .string (tlS (2 ^ k)) ∧ Below w.heap.size w wr) (fun _ j _ => 11 - (intOf j).toNat)
  case atStart => exact ⟨0, Nat.zero_le _, rfl, by rw [tlS_one], Below.refl _ _⟩
  case round =>
    obtain ⟨k, hk, rfl, rfl, hb⟩ := hrel
    by_cases hlt : k < 11
    · have hltI : (k : Int) < 11 := by omega
      have hltD : decide ((k : Int) < 11) = true := decide_eq_true hltI
      have hsz := tlS_size (2 ^ k)
      have hp : 2 ^ k ≤ 2 ^ 11 := Nat.pow_le_pow_right (by omega) (by omega)
      have hap := Lib.hid (tlS_add (2 ^ k) (2 ^ k))
      obtain ⟨S, hS⟩ : ∃ S, tlS (2 ^ k) = S := ⟨_, rfl⟩
      rw [hS] at hsz hap ⊢
      have z1 : ¬ 9223372036854775807 < S.size + S.size := by omega
      clear hsz hS hp
      go_wp2_with fail
      go_roundw
      case rel => exact ⟨k + 1, by omega, by go_num, by rw [hap.out, Nat.pow_succ]; congr 2; omega, hb⟩
      case measure => simp [intOf]; omega
    · have hk11 : k = 11 := by omega
      subst hk11
      have e11 : 2 ^ 11 = 2048 := rfl
      rw [e11]
      have hsz := tlS_size 2048
      obtain ⟨A, hA⟩ : ∃ S, tlS 2048 = S := ⟨_, rfl⟩
      rw [hA] at hsz ⊢
      have HA := Lib.hid hA
      have hszA : A.size = 57344 := hsz
      clear hA hsz e11
      go_wp2_with fail
      go_loopw [6, 7] (fun s j wr => ∃ k : Nat, k ≤ 11 ∧ j = .int .i64 k ∧ s = .string (nopS (2 ^ k)) ∧ Below w.heap.size w wr) (fun _ j _ => 11 - (intOf j).toNat)
      case atStart => exact ⟨0, Nat.zero_le _, rfl, by rw [nopS_one], hb⟩
      case round =>
        obtain ⟨k, hk, rfl, rfl, hb⟩ := hrel
        by_cases hlt : k < 11
        · have hltI : (k : Int) < 11 := by omega
          have hltD : decide ((k : Int) < 11) = true := decide_eq_true hltI
          have hsz := nopS_size (2 ^ k)
          have hp : 2 ^ k ≤ 2 ^ 11 := Nat.pow_le_pow_right (by omega) (by omega)
          have hap := Lib.hid (nopS_add (2 ^ k) (2 ^ k))
          obtain ⟨S, hS⟩ : ∃ S, nopS (2 ^ k) = S := ⟨_, rfl⟩
          rw [hS] at hsz hap ⊢
          have z1 : ¬ 9223372036854775807 < S.size + S.size := by omega
          clear hsz hS hp
          go_wp2_with fail
          go_roundw
          case rel => exact ⟨k + 1, by omega, by go_num, by rw [hap.out, Nat.pow_succ]; congr 2; omega, hb⟩
          case measure => simp [intOf]; omega
        · have hk11 : k = 11 := by omega
          subst hk11
          have e11b : 2 ^ 11 = 2048 := rfl
          rw [e11b]
          have hsz := nopS_size 2048
          have hcut := nopS_cut
          obtain ⟨B, hB⟩ : ∃ S, nopS 2048 = S := ⟨_, rfl⟩
          rw [hB] at hsz hcut ⊢
          have hszB : B.size = 8192 := hsz
          have hszI : (B.size : Int) = 8192 := by omega
          have hszC := nopS_size 2041
          rw [← hcut] at hszC
          have HCUT := Lib.hid hcut
          clear hB hsz hcut
          have HTX := Lib.hid (show (((A ++ (⟨#[116, 97, 115, 107, 32, 115, 112, 111, 114, 97, 100, 105, 99, 32, 49, 32, 49, 32, 48, 32, 49, 32, 49, 10]⟩ : ByteArray)) ++ B.extract 0 8164) ++ ⟨#[101, 110, 100, 10]⟩) = lgT 2048 2041 by
            rw [← HA.out, HCUT.out]
            exact lgT_eq 2048 2041)
          have hTs := lgT_size 2048 2041
          have hTd : (lgT 2048 2041).data.toList = sysT (lgS 2048 2041) := rfl
          have hpr := fun W hT hM => sparse_any (lgT 2048 2041) W (by rw [hTs]; omega) (by rw [hTd]; exact lg_bd 2048 2041) hT hM
          unfold ParR at hpr
          rw [hTd, lg_parse 2048 2041 (by omega)] at hpr
          simp only at hpr
          obtain ⟨S, hS⟩ : ∃ S, lgS 2048 2041 = S := ⟨_, rfl⟩
          have hS1 : S.ts.length = 2049 := by
            rw [← hS]
            show (List.replicate 2048 (tk0 []) ++ [tk0 (List.replicate 2041 nop0)]).length = 2049
            rw [List.length_append, List.length_replicate]
            rfl
          have hS2 : S.os.length = 0 := by rw [← hS]; rfl
          rw [hS, hS1, hS2] at hpr
          obtain ⟨T, hT0⟩ : ∃ T, lgT 2048 2041 = T := ⟨_, rfl⟩
          rw [hT0] at hpr hTs HTX
          have hTsz : T.size = 65536 := hTs
          have hTszI : (T.size : Int) = 65536 := by omega
          have HPR := Lib.hid hpr
          have hXs : (A.extract 0 28).size = 28 := by rw [ByteArray.size_extract, hszA]; rfl
          have HBG := Lib.hid (fun W => sparse_big (T ++ A.extract 0 28) W (by rw [ByteArray.size_append, hTsz, hXs]; omega))
          clear hpr hTs hTd hS hS1 hS2 hT0 HCUT HA e11b
          rcases more with _ | _
          · go_wp2_with fail
            rw [HTX.out]
            refine (HPR.out _ (hT.below hb) (hM.below hb)).mono ?_
            rintro e w1 ⟨At, ct, Ao, co, rfl, -, -, hb1'⟩
            have hb1 := hb.trans (hb1'.mono hb.size)
            clear hb1'
            have hb2 := hb1.alloc hb1.size (.cells #[.slice At 2049 ct, .slice Ao 0 co] 25)
            have hAw := Lib.hid (awake_any _ (hT.below hb2) (hM.below hb2))
            go_wp2_with fail
            refine hAw.out.mono ?_
            rintro e w2 ⟨rfl, hb3⟩
            go_wp2_with fail
            go_ret
            exact ⟨rfl, hb2.trans (hb3.mono hb2.size)⟩
          · have z1 : ¬ 9223372036854775807 < T.size + (A.extract 0 28).size := by omega
            go_wp2_with fail
            rw [HTX.out]
            refine (HBG.out wr).mono ?_
            rintro e w1 ⟨rfl, hb1'⟩
            have hb1 := hb.trans (hb1'.mono hb.size)
            clear hb1'
            have hb2 := hb1.alloc hb1.size (.cells #[.slice none 0 0, .slice none 0 0] 25)
            have hAw := Lib.hid (awake_any _ (hT.below hb2) (hM.below hb2))
            have hbg : (T ++ A.extract 0 28).size = 65564 := by rw [ByteArray.size_append, hTsz, hXs]
            have hbgI : ((T ++ A.extract 0 28).size : Int) = 65564 := by omega
            go_wp2_with fail
            refine hAw.out.mono ?_
            rintro e w2 ⟨rfl, hb3⟩
            go_wp2_with fail
            go_ret
            exact ⟨rfl, hb2.trans (hb3.mono hb2.size)⟩

end Go.Proofs.YtfgmebjbibbpdaaDoor

namespace Go.Proofs.YtfgmebjbibbpdaaDoor.sourceLong
open Go.ChangeShapes Go.WideShapes Go.ChangeAt Go.RowKit
open Go.ChangeMaps (open_string shut_string)

theorem ownK : ownKnob Tryd.prog.godebug = none := by kernel_rfl
theorem laidOut : laidOutB Tryd.prog = true := by kernel_rfl

set_option maxRecDepth 100000 in
theorem contract (H : Type) (enc : TypeId × Value → H) (W : World) (base : Nat) (args : Array Value) (ds gs : List (DataW H)) (before : List MemPlace)
    (hval0 : ∀ (j : Nat) t v, Tryd.f3.params[j]? = some t → args[j]? = some v → Value.okWide Tryd.prog W .any base t v)
    (hW : DataW.Whole enc Tryd.prog Tryd.f3.params.toList Rows.sourceLongSpec.vars false W args.toList ds gs before) (hL : laidMetH Tryd.prog Rows.sourceLongRow.laid W) (hSh : W.ShapedOpen Tryd.prog) :
    Calls Tryd.prog 3 args W fun e W' => ∃ v, e = .returned v ∧ Rows.sourceLongSpec.post enc Tryd.prog Tryd.f3 false true false false W args v W' := by
  have hval : ∀ (j : Nat) t v, Tryd.f3.params[j]? = some t → args[j]? = some v → Value.okWide Tryd.prog W .any base t v := hval0
  have hW' := hW
  obtain ⟨p, q, hA0, hV, rfl, hfz, hnd⟩ := hW
  have hA : DataW.TrodAll enc Tryd.prog W 0 (fun _ => true) true Tryd.f3.params.toList args.toList ds p := hA0
  rw [Tryd.params3] at hA hval
  obtain ⟨v0, vs0, d0, ds0, p0, q0, hargs, rfl, rfl, h0, r0⟩ := trodAll_cons hA
  obtain ⟨rfl, rfl, rfl⟩ := trodAll_nil r0
  obtain rfl : args = #[v0] := by cases args; simp_all
  obtain ⟨rfl, rfl⟩ := trodVars_none hV
  have k0 := h0
  have lt0 : ∀ x ∈ p0, x.block < W.heap.size := by obtain ⟨m, hm⟩ := k0; exact DataW.trod_lt m _ _ _ hm
  obtain ⟨a0, rfl, rfl, rfl⟩ := open_bool Tryd.underlying4 (hval 0 4 v0 rfl rfl) h0
  clear hA0 hval0
  have hT : Tab W := tab_of ⟨by simp [Rows.sourceLongRow], hL⟩
  have hM : Mx W := mx_of hSh
  have walk : Calls Tryd.prog 3 #[.bool a0] W fun e W' => e = .returned (.bool true) ∧ Below W.heap.size W W' := slong_any a0 W hT hM
  refine walk.mono fun e W' ⟨he, bel⟩ => ?_
  subst he
  exact ⟨_, rfl, _, _, _, [], _, [], hW', trodAll_mk1 (shut_bool Tryd.underlying4 _), (trodAll_cons_mk (shut_bool Tryd.underlying4 a0) trodAll_mk0), rfl, bel.frame _, fun h => by cases h⟩

/-- A world for the witness: each listed table in its block. -/
noncomputable def laidWorld (os : Os) : World :=
  { World.holding Tryd.prog os ⟨#[], #[], []⟩ with heap := ((((((World.holding Tryd.prog os ⟨#[], #[], []⟩).heap.modify 4 fun | .cells _ t frozen => .cells #[.int .u8 0, .int .u8 1, .int .u8 28, .int .u8 2, .int .u8 29, .int .u8 14, .int .u8 24, .int .u8 3, .int .u8 30, .int .u8 22, .int .u8 20, .int .u8 15, .int .u8 25, .int .u8 17, .int .u8 4, .int .u8 8, .int .u8 31, .int .u8 27, .int .u8 13, .int .u8 23, .int .u8 21, .int .u8 19, .int .u8 16, .int .u8 7, .int .u8 26, .int .u8 12, .int .u8 18, .int .u8 6, .int .u8 11, .int .u8 5, .int .u8 10, .int .u8 9] t frozen | o => o).modify 5 fun | .cells _ t frozen => .cells #[.int .u8 0, .int .u8 1, .int .u8 56, .int .u8 2, .int .u8 57, .int .u8 49, .int .u8 28, .int .u8 3, .int .u8 61, .int .u8 58, .int .u8 42, .int .u8 50, .int .u8 38, .int .u8 29, .int .u8 17, .int .u8 4, .int .u8 62, .int .u8 47, .int .u8 59, .int .u8 36, .int .u8 45, .int .u8 43, .int .u8 51, .int .u8 22, .int .u8 53, .int .u8 39, .int .u8 33, .int .u8 30, .int .u8 24, .int .u8 18, .int .u8 12, .int .u8 5, .int .u8 63, .int .u8 55, .int .u8 48, .int .u8 27, .int .u8 60, .int .u8 41, .int .u8 37, .int .u8 16, .int .u8 46, .int .u8 35, .int .u8 44, .int .u8 21, .int .u8 52, .int .u8 32, .int .u8 23, .int .u8 11, .int .u8 54, .int .u8 26, .int .u8 40, .int .u8 15, .int .u8 34, .int .u8 20, .int .u8 31, .int .u8 10, .int .u8 25, .int .u8 14, .int .u8 19, .int .u8 9, .int .u8 13, .int .u8 8, .int .u8 7, .int .u8 6] t frozen | o => o).modify 1 fun | .cells _ t frozen => .cells #[.int .u64 1, .int .u64 10, .int .u64 100, .int .u64 1000, .int .u64 10000, .int .u64 100000, .int .u64 1000000, .int .u64 10000000, .int .u64 100000000, .int .u64 1000000000, .int .u64 10000000000, .int .u64 100000000000, .int .u64 1000000000000, .int .u64 10000000000000, .int .u64 100000000000000, .int .u64 1000000000000000, .int .u64 10000000000000000, .int .u64 100000000000000000, .int .u64 1000000000000000000, .int .u64 10000000000000000000] t frozen | o => o).modify 3 fun | .cells _ t frozen => .cells #[.int .u8 128, .int .u8 191, .int .u8 160, .int .u8 191, .int .u8 128, .int .u8 159, .int .u8 144, .int .u8 191, .int .u8 128, .int .u8 143, .int .u8 0, .int .u8 0, .int .u8 0, .int .u8 0, .int .u8 0, .int .u8 0, .int .u8 0, .int .u8 0, .int .u8 0, .int .u8 0, .int .u8 0, .int .u8 0, .int .u8 0, .int .u8 0, .int .u8 0, .int .u8 0, .int .u8 0, .int .u8 0, .int .u8 0, .int .u8 0, .int .u8 0, .int .u8 0] t frozen | o => o).modify 2 fun | .cells _ t frozen => .cells ((match (Go.Pinned.utf8First : DataW Unit) with | DataW.agg ds => (ds.map fun (x : DataW Unit) => match x with | DataW.lit l => l.value | _ => Value.bool false) | _ => []).toArray) t frozen | o => o) }
set_option maxRecDepth 100000 in
theorem laid_met (os : Os) : laidMet Tryd.prog Rows.sourceLongRow.laid ((laidWorld os).forCall (fun _ _ => 0) ⟨#[], #[.bool false], []⟩).memory :=
  laidMet_of_run' 8 (by kernel_rfl) (by kernel_rfl)

theorem reads (os : Os) {H : Type} (enc : TypeId × Value → H) : ∃ places, DataW.whole enc Tryd.prog ((laidWorld os).forCall (fun _ _ => 0) ⟨#[], #[.bool false], []⟩).memory Tryd.f3.params.toList Rows.sourceLongSpec.vars false (#[.bool false] : Array Value).toList 8 = some ([.lit (.bool false)], [], places) :=
  ⟨[], by kernel_rfl⟩

set_option maxRecDepth 100000 in
theorem lifted (os : Os) (started : os.Started) (H : Type) (enc : TypeId × Value → H) (F : Stop.Interp) :
    ReturnsInHanded {} Tryd.checked os 3 .any ((OpenSpec.ofChange Rows.sourceLongSpec).preRow enc Tryd.prog Tryd.f3 Rows.sourceLongRow.domain false Rows.sourceLongRow.laid) (((OpenSpec.ofChange Rows.sourceLongSpec).at F).post enc Tryd.prog Tryd.f3 false true false false) := by
  obtain ⟨places, hx⟩ := reads os enc
  refine returnsInHanded_of_row (C := Tryd.checked) (s := OpenSpec.ofChange Rows.sourceLongSpec) ownK started (by kernel_rfl) Tryd.func3
    (witness_row_at (enc := enc) (C := Tryd.checked) false (laidWorld os) #[.bool false] rfl (by kernel_rfl) (by kernel_rfl) (by kernel_rfl)
      (OpenSpec.preRow_of_cond 8 hx (by kernel_rfl) (fun k hk => by cases hk) (by kernel_rfl) (laid_met os))) ?_
  intro W base args ds gs before hval hW _ _ _ hL hSh _
  exact contract H enc W base args ds gs before hval hW hL hSh

theorem said : Rows.SourceLongSaid :=
  OpenClaim.holds_of_cond 3 Tryd.f3 rfl rfl rfl rfl rfl rfl rfl ⟨rfl, rfl, rfl, rfl, rfl⟩ rfl rfl rfl rfl rfl (by kernel_rfl) Tryd.func3 (by kernel_rfl)
    (of_decide_eq_true (by kernel_rfl)) (by unfold Func.isWrapper; first | (rw [if_pos (by decide +kernel)]; kernel_rfl) | (rw [if_neg (by decide +kernel)]; exact ⟨rfl, rfl⟩))
    (fun os started H enc _ F => by rw [OpenClaim.pre_eq_preRow]; exact lifted os started H enc F)

theorem plain (f : FuncId) (fn : Func) (hf : Tryd.pinned.checked.prog.funcNamed "coxswain/coxswainlaw34.SourceLong" = some f) (hfn : Tryd.pinned.checked.prog.funcs[f]? = some fn) :
    false = Tryd.pinned.checked.prog.looks [] ∧ ∀ (j : Nat) t, fn.params[j]? = some t → Tryd.pinned.checked.prog.wantsStandIn t = false := by
  obtain rfl : f = 3 := Option.some.inj ((show Tryd.prog.funcNamed "coxswain/coxswainlaw34.SourceLong" = some 3 by kernel_rfl).symm.trans hf) |>.symm
  obtain rfl : fn = Tryd.f3 := (Option.some.inj (Tryd.func3.symm.trans hfn)).symm
  refine ⟨by kernel_rfl, fun j t ht => ?_⟩
  rw [Tryd.params3] at ht
  have hm := Array.mem_of_getElem? ht
  have hm : t ∈ [4] := by simpa using hm
  simp only [List.mem_cons, List.not_mem_nil, or_false] at hm
  subst hm
  exact (show Tryd.prog.wantsStandIn 4 = false by kernel_rfl)

theorem card : Rows.SourceLongCardSaid :=
  Claim7.holds_tied_plain_at .later [] _ _ _ _ said (fun _ h => by cases h) (by kernel_rfl) (fun _ h => by cases h) sourceLong_row_tie rfl ⟨rfl, rfl⟩ (by kernel_rfl) rfl plain (by kernel_rfl)
#print axioms card

end Go.Proofs.YtfgmebjbibbpdaaDoor.sourceLong
