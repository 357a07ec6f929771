/- Texts joined: Sources, the reference's: an object's line. Sources: source.Print. The reference's Digits: the number that digits are. The reference's Split: a text's pieces. Sources: a word's number, words' numbers. What strings.Split gives at a separator of one byte: the pieces. Of no program. strings.Split at a separator of one byte. Sources: the task of a first line. Sources: an object's line, read: its parts. Sources: what a slice holds in far blocks; record.Read of what stands behind. -/
import Derived.Test.YtfgmebjbibbpdaaGreatDoorZs5
import Derived.Test.YtfgmebjbibbpdaaGreatDoorZs4
import Derived.Test.YtfgmebjbibbpdaaGreatDoorZs1
import Derived.Lib.Hide
import Derived.Deep.QuietTactic
import Derived.BigQuiet
import Derived.Below
import Derived.IntWalk
import Derived.Test.YtfgmebjbibbpdaaGreatDoorZs3
import Derived.Lib.SplitLaws
import Derived.Test.YtfgmebjbibbpdaaGreatDoorShelf
namespace Go.Proofs.YtfgmebjbibbpdaaGreatDoor
open Go.RowKit
attribute [local go_sem] Oper.semAt_some

theorem jn_more (l : List Int) (q : List UInt8) (r : List (List UInt8)) : ∀ p : List UInt8, Lib.join (p :: (l.map dd ++ q :: r)) [32] = p ++ (numsT l ++ ([32] ++ Lib.join (q :: r) [32])) := by
  induction l with
  | nil => intro p; rw [List.map_nil, List.nil_append, Lib.join_cons, Lib.join_cons]; simp [numsT, Lib.joinTail]
  | cons z l ih =>
    intro p
    have h1 : Lib.join (p :: dd z :: (l.map dd ++ q :: r)) [32] = p ++ ([32] ++ Lib.join (dd z :: (l.map dd ++ q :: r)) [32]) := by rw [Lib.join_cons, Lib.join_cons]; simp [Lib.joinTail]
    rw [List.map_cons, List.cons_append, h1, ih (dd z)]
    simp [numsT]
theorem objL_parts (o : Oj) (k : List UInt8) (h : obWs.getD o.kd.toNat [] = k) : objL o = objW ++ ([32] ++ (k ++ (numsT o.five ++ ([32] ++ (rdrW ++ (numsT o.rd ++ ([32] ++ (iniW ++ numsT o.ini)))))))) := by
  unfold objL objP
  rw [h]
  have h2 : Lib.join (objW :: k :: (o.five.map dd ++ rdrW :: (o.rd.map dd ++ iniW :: o.ini.map dd))) [32] = objW ++ ([32] ++ Lib.join (k :: (o.five.map dd ++ rdrW :: (o.rd.map dd ++ iniW :: o.ini.map dd))) [32]) := by rw [Lib.join_cons, Lib.join_cons]; simp [Lib.joinTail]
  rw [h2, jn_more, jn_more, jn_dds]
theorem numsT_u32 (l : List Int) (h : ∀ z ∈ l, 0 ≤ z ∧ z < 4294967296) : (numsT l).length ≤ 14 * l.length := numsT_len l (List.all_eq_true.2 fun z hz => topB_iff.2 (by have := h z hz; omega))
set_option maxRecDepth 100000 in
set_option maxHeartbeats 4000000 in
theorem rline_k (k : Nat) (wd sl cp st : Int) (I : Option Addr) (ini : List Int) (ci : Nat) (wt : Int) (R : Option Addr) (rd : List Int) (cr : Nat) (w : World) (hk : 1 ≤ k ∧ k ≤ 6) (hst : 0 ≤ st ∧ st < 4294967296) (hli : ini.length ≤ 20000) (hlr : rd.length ≤ 20000) (hI : Ws w w.heap.size I ini) (hR : SlOf (ints .i64) w w.heap.size R rd) :
    Calls Tryz.prog 21 #[.agg #[.int .i64 (k : Int), .int .i64 wd, .int .i64 sl, .int .i64 cp, .int .u32 st, .slice I ini.length ci, .int .i64 wt, .slice R rd.length cr]] w (LineR ⟨(k : Int), wd, sl, cp, st, ini, wt, rd⟩ w) := by
  have hewr : IntKind.i64.wrap st = st := by simp [IntKind.wrap, IntKind.signed, IntKind.bits]; omega
  have hnum := fun (b : Nat) W => rnums_any (some ⟨b, 0, none⟩) 5 [wd, sl, cp, st, wt] W (by simp)
  have hnr := fun W => rnums_any R cr rd W (by omega)
  have hN1 := numsS_size [wd, sl, cp, st, wt]
  have hN2 := numsS_size rd
  have hB : objB ⟨(k : Int), wd, sl, cp, st, ini, wt, rd⟩ = ([wd, sl, cp, st, wt].all topB && rd.all topB) := by
    unfold objB
    rw [decide_eq_true (show (1 : Int) ≤ (k : Int) by omega), decide_eq_true (show (k : Int) ≤ 6 by omega)]
    rfl
  have hS1 : [wd, sl, cp, st, wt].all topB = true → numsS [wd, sl, cp, st, wt] = ⟨(numsT [wd, sl, cp, st, wt]).toArray⟩ := numsS_ok
  have hS2 : rd.all topB = true → numsS rd = ⟨(numsT rd).toArray⟩ := numsS_ok
  obtain ⟨o1, ho1⟩ : ∃ o1, [wd, sl, cp, st, wt].all topB = o1 := ⟨_, rfl⟩
  obtain ⟨o2, ho2⟩ : ∃ o2, rd.all topB = o2 := ⟨_, rfl⟩
  obtain ⟨S1, hS1e⟩ : ∃ S, numsS [wd, sl, cp, st, wt] = S := ⟨_, rfl⟩
  obtain ⟨S2, hS2e⟩ : ∃ S, numsS rd = S := ⟨_, rfl⟩
  rw [ho1, hS1e] at hnum
  rw [ho2, hS2e] at hnr
  rw [ho1] at hS1
  rw [ho2] at hS2
  rw [ho1, ho2] at hB
  rw [hS1e] at hN1 hS1
  rw [hS2e] at hN2 hS2
  have hNS1 : S1.size ≤ 70 := by simpa using hN1
  have hNS2 : S2.size ≤ 280000 := by omega
  obtain ⟨KW, hKW⟩ : ∃ x, (⟨(obWs.getD k []).toArray⟩ : ByteArray) = x := ⟨_, rfl⟩
  have hKs : KW.size ≤ 4 := by
    rw [← hKW]
    have : k = 1 ∨ k = 2 ∨ k = 3 ∨ k = 4 ∨ k = 5 ∨ k = 6 := by omega
    rcases this with rfl | rfl | rfl | rfl | rfl | rfl <;> decide
  have hKx : kindsW[k]? = some (obWs.getD k []) := by
    have : k = 1 ∨ k = 2 ∨ k = 3 ∨ k = 4 ∨ k = 5 ∨ k = 6 := by omega
    rcases this with rfl | rfl | rfl | rfl | rfl | rfl <;> rfl
  have HN := Lib.hid hnum
  have HR := Lib.hid hnr
  have HS1 := Lib.hid hS1
  have HS2 := Lib.hid hS2
  have HB := Lib.hid hB
  have HKW := Lib.hid hKW
  have HKX := Lib.hid hKx
  have HIW := Lib.hid hI
  have HRR := Lib.hid hR
  have t1 : decide ((k : Int) < 1) = false := by rw [decide_eq_false_iff_not]; omega
  have t2 : decide ((6 : Int) < (k : Int)) = false := by rw [decide_eq_false_iff_not]; omega
  have hk7 : (k : Int) < 7 := by omega
  have hk0 : (0 : Int) ≤ (k : Int) := by omega
  have HST := Lib.hid hst
  clear hnum hnr hS1 hS2 hB ho1 ho2 hS1e hS2e hN1 hN2 hKW hKx hI hR hk hst
  go_enter Tryz.func21, Tryz.ntmps21
  go_wp2_with fail
  obtain ⟨w1, hw1⟩ : ∃ x, w.alloc (.cells #[.int .i64 (k : Int), .int .i64 wd, .int .i64 sl, .int .i64 cp, .int .u32 st, .slice I ini.length ci, .int .i64 wt, .slice R rd.length cr] 42) = x := ⟨_, rfl⟩
  have r1 := RowB.new w #[.int .i64 (k : Int), .int .i64 wd, .int .i64 sl, .int .i64 cp, .int .u32 st, .slice I ini.length ci, .int .i64 wt, .slice R rd.length cr] 42
  rw [hw1] at r1 ⊢
  have s1 : w1.heap.size = w.heap.size + 1 := by rw [← hw1, World.size_alloc]
  have x2 := SlOf.new (E := ints .i64) w1 #[.int .i64 wd, .int .i64 sl, .int .i64 cp, .int .i64 st, .int .i64 wt] 3 [wd, sl, cp, st, wt] rfl
  obtain ⟨w2, hw2⟩ : ∃ x, w1.alloc (.cells #[.int .i64 wd, .int .i64 sl, .int .i64 cp, .int .i64 st, .int .i64 wt] 3) = x := ⟨_, rfl⟩
  rw [hw2] at x2 ⊢
  have s2 : w2.heap.size = w1.heap.size + 1 := by rw [← hw2, World.size_alloc]
  rw [← s2, s1] at x2
  have hb2 : Below w.heap.size w w2 := below_al (below_al (Below.refl _ w) (Nat.le_refl _) hw1) (by omega) hw2
  have r2 := r1.kept (w' := w2) (by rw [← hw2]; exact (Below.refl _ w1).alloc (Nat.le_refl _) _)
  refine ((HN.out _ _) x2).mono ?_
  rintro e w3 ⟨rfl, hb3⟩
  have r3 := r2.kept hb3
  have hb4 := hb2.trans (hb3.mono hb2.size)
  have p7 : w3.cell? ⟨w.heap.size, 7, none⟩ = some (.slice R rd.length cr) := (r3.cell 7).trans rfl
  have HR3 := Lib.hid r3
  have HB4 := Lib.hid hb4
  clear r1 r2 x2 hb2 hb3 hw1 hw2 s1 s2 r3 hb4
  obtain ⟨np, hnp⟩ : ∃ x, w.heap.size = x := ⟨_, rfl⟩
  have HNP := Lib.hid hnp
  rw [hnp] at p7
  rw [hnp]
  go_wp2_with fail
  refine ((HR.out w3) (HRR.out.below HB4.out HB4.out.size)).mono ?_
  rintro e w4 ⟨rfl, hb5⟩
  have HR4 := Lib.hid (HR3.out.kept hb5)
  have HB5 := Lib.hid (HB4.out.trans (hb5.mono HB4.out.size))
  clear p7 hb5 hnp
  go_wp2_with fail
  have hnl : np < w4.heap.size := by have := HR4.out.lt; rw [HNP.out] at this; exact this
  have hSd : (fun w' : World => Below w.heap.size w w' ∧ w'.cell? ⟨np, 0, none⟩ = some (.int .i64 (k : Int))) w4.drew := ⟨HB5.out.drew, by rw [← HNP.out]; exact ((Below.refl w4.heap.size w4).drew.cell (p := ⟨w.heap.size, 0, none⟩) HR4.out.lt).trans ((HR4.out.cell 0).trans rfl)⟩
  refine wp_region_held_drew (S := (fun w' : World => Below w.heap.size w w' ∧ w'.cell? ⟨np, 0, none⟩ = some (.int .i64 (k : Int)))) (by kernel_rfl) hSd (fun hHeld => ?_)
  have HR5 := Lib.hid (HR4.out.kept (Below.refl _ w4).drew)
  generalize w4.drew = wz at hSd hHeld HR5 ⊢
  have hHeld : (fun w' : World => Below w.heap.size w w' ∧ w'.cell? ⟨np, 0, none⟩ = some (.int .i64 (k : Int))) wz := hHeld
  have z0 : ¬ 9223372036854775807 < 7 + KW.size := by omega
  have z1 : ¬ 9223372036854775807 < 7 + KW.size + S1.size := by omega
  have z2 : ¬ 9223372036854775807 < 7 + KW.size + S1.size + 8 := by omega
  have z3 : ¬ 9223372036854775807 < 7 + KW.size + S1.size + 8 + S2.size := by omega
  have z4 : ¬ 9223372036854775807 < 7 + KW.size + S1.size + 8 + S2.size + 5 := by omega
  refine tkH 1 ?_
  try first | simp only [pS, List.set] | simp only [pN]
  refine tkH 2 ?_
  try first | simp only [pS, List.set] | simp only [pN]
  refine tkH 6 ?_
  try first | simp only [pS, List.set] | simp only [pN]
  refine tkH 9 ?_
  try first | simp only [pS, List.set] | simp only [pN]
  refine wpAnyH_ready (rs := [0]) (by kernel_rfl) (by simp) ?_
  refine AllReadyH.cons (o := ?_) ?_ (fun K hK => ?_) AllReadyH.nil
  rotate_left
  · (simp only [List.getElem?_toArray, List.getElem?_cons_zero]; rfl)
  go_simp
  go_at_call 39
  refine (rkwords_any _).mono ?_
  rintro e wx ⟨bw, rfl, hcw, hlw, hbw⟩
  have HRX := Lib.hid (HR5.out.kept hbw)
  have hSx : (fun w' : World => Below w.heap.size w w' ∧ w'.cell? ⟨np, 0, none⟩ = some (.int .i64 (k : Int))) wx := ⟨hHeld.1.trans (hbw.mono hHeld.1.size), by rw [← HNP.out]; exact (HRX.out.cell 0).trans rfl⟩
  have hcw0 : wx.cell? ⟨bw, k, none⟩ = some (.string KW) := by rw [← HKW.out]; exact hcw k _ HKX.out
  clear hcw hbw hlw
  refine hK.out _ _ hSx (fun hHeld => ?_)
  clear hK K
  try first | simp only [pS, List.set] | simp only [pN]
  have hSy : ((fun w' : World => Below w.heap.size w w' ∧ w'.cell? ⟨np, 0, none⟩ = some (.int .i64 (k : Int))) _) ∧ _ := ⟨hHeld, hcw0⟩
  refine wpAnyH_strong (S' := (fun w' => (Below w.heap.size w w' ∧ w'.cell? ⟨np, 0, none⟩ = some (.int .i64 (k : Int))) ∧ w'.cell? ⟨bw, k, none⟩ = some (.string KW))) (fun w h => h.1) _ _ _ _ ?_
  refine tkH 3 ?_
  try first | simp only [pS, List.set] | simp only [pN]
  refine tkH 4 ?_
  try first | simp only [pS, List.set] | simp only [pN]
  refine tkH 5 ?_
  try first | simp only [pS, List.set] | simp only [pN]
  refine tkH 7 ?_
  try first | simp only [pS, List.set] | simp only [pN]
  refine tkH 8 ?_
  try first | simp only [pS, List.set] | simp only [pN]
  refine tkH 10 ?_
  try first | simp only [pS, List.set] | simp only [pN]
  refine tkH 11 ?_
  try first | simp only [pS, List.set] | simp only [pN]
  refine tkH 12 ?_
  try first | simp only [pS, List.set] | simp only [pN]
  refine wpAnyH_done (by kernel_rfl) ?_ _
  have HBX := Lib.hid hHeld.1
  have p5 : wx.cell? ⟨np, 5, none⟩ = some (.slice I ini.length ci) := by rw [← HNP.out]; exact (HRX.out.cell 5).trans rfl
  clear hSd hHeld hcw0 hSy z0 z1 z2 z3 z4 hnl
  obtain ⟨PR, hPR⟩ : ∃ x, ((⟨#[111, 98, 106, 101, 99, 116, 32]⟩ : ByteArray) ++ KW ++ S1 ++ ⟨#[32, 114, 101, 97, 100, 101, 114, 115]⟩ ++ S2 ++ ⟨#[32, 105, 110, 105, 116]⟩) = x := ⟨_, rfl⟩
  have hPs : PR.size ≤ 300000 := by
    rw [← hPR, ByteArray.size_append, ByteArray.size_append, ByteArray.size_append, ByteArray.size_append, ByteArray.size_append]
    show 7 + KW.size + S1.size + 8 + S2.size + 5 ≤ 300000
    omega
  rw [hPR]
  have HPR := Lib.hid hPR
  clear hPR hNS1 hNS2 hKs
  go_wp2_with fail
  go_loopw [4, 55] (fun s j wr => ∃ i : Nat, i ≤ ini.length ∧ j = .int .i64 i ∧ s = .string (PR ++ ⟨(numsT (ini.take i)).toArray⟩) ∧ Below w.heap.size w wr) (fun _ j _ => ini.length - (intOf j).toNat)
  case atStart => exact ⟨0, Nat.zero_le _, rfl, congrArg Value.string (ByteArray.ext (by simp [numsT])), HBX.out⟩
  case round =>
    obtain ⟨i, hi, rfl, rfl, hb⟩ := hrel
    by_cases hlt : i < ini.length
    · obtain ⟨z, hz⟩ := get_some hlt
      obtain ⟨⟨_, hz0⟩, b, off, rfl, hlb, hc⟩ := HIW.out.get hz
      have hc' := (hb.cell (p := ⟨b, off + i, none⟩) hlb).trans hc
      have hsz := numsT_u32 (ini.take i) (fun y hy => u32_of (HIW.out.2 y (List.mem_of_mem_take hy)))
      rw [List.length_take] at hsz
      obtain ⟨S, hS⟩ : ∃ S : ByteArray, (PR ++ ⟨(numsT (ini.take i)).toArray⟩ : ByteArray) = S := ⟨_, rfl⟩
      have hSs : S.size ≤ 300000 + 14 * 20000 := by
        rw [← hS, ByteArray.size_append]
        have : (⟨(numsT (ini.take i)).toArray⟩ : ByteArray).size = (numsT (ini.take i)).length := by simp [ByteArray.size]
        omega
      have hS' := Lib.hid hS
      have hz' := Lib.hid hz
      have HBW := Lib.hid hb
      rw [hS]
      obtain ⟨u, hu⟩ : ∃ u : Nat, z = u := ⟨z.toNat, by omega⟩
      have hln := fun W => digits_any (u + 1) u z W hu (by omega) (by omega)
      have hD := (dd_top (z := z) (by omega)).2.2.1
      have hD' : numS u = ⟨(dd z).toArray⟩ := by unfold numS dd; rw [hu]; rfl
      have hDs : (numS u).size ≤ 13 := by
        have : (⟨(dd z).toArray⟩ : ByteArray).size = (dd z).length := by simp [ByteArray.size]
        rw [hD']; omega
      obtain ⟨D, hDe⟩ : ∃ D, numS u = D := ⟨_, rfl⟩
      rw [hDe] at hln hDs hD'
      have hln' := Lib.hid hln
      have hDv := Lib.hid hD'
      have z1 : ¬ 9223372036854775807 < S.size + 1 := by omega
      have z2 : ¬ 9223372036854775807 < S.size + 1 + D.size := by omega
      clear hS hz hsz hc hln hD hDe hD' hu hb hz0
      go_wp2_with fail
      refine (hln'.out _).mono ?_
      rintro e1 w9 ⟨rfl, hb9⟩
      go_wp2_with fail
      go_roundw
      case rel => exact ⟨i + 1, by omega, by go_num, by
          rw [numsT_snoc hz'.out, ← hS'.out, hDv.out]
          refine congrArg Value.string (ByteArray.ext ?_)
          simp, HBW.out.trans (hb9.mono HBW.out.size)⟩
      case measure => simp [intOf]; omega
    · have ht := take_all hlt
      rw [ht]
      have hsz := numsT_u32 ini (fun y hy => u32_of (HIW.out.2 y hy))
      have HB9 := Lib.hid hb
      have HSZ := Lib.hid hsz
      clear hsz hb ht hi
      cases o1 with
      | false =>
        go_wp2_with fail
        go_ret2
        have hh : objB ⟨(k : Int), wd, sl, cp, st, ini, wt, rd⟩ = false := by rw [HB.out, Bool.false_and]
        refine ⟨_, by rw [hh]; rfl, (fun h => by rw [hh] at h; cases h), ?_, HB9.out⟩
        · rw [ByteArray.size_append]
          have h1 := HSZ.out
          have h3 : (⟨(numsT ini).toArray⟩ : ByteArray).size = (numsT ini).length := by simp [ByteArray.size]
          omega
      | true =>
        go_wp2_with fail
        go_ret2
        have hh : objB ⟨(k : Int), wd, sl, cp, st, ini, wt, rd⟩ = o2 := by rw [HB.out, Bool.true_and]
        refine ⟨_, by rw [hh]; rfl, fun h => ?_, ?_, HB9.out⟩
        · rw [hh] at h
          subst h
          have h1 := HS1.out (by trivial)
          have h2 := HS2.out (by trivial)
          rw [objL_parts _ (obWs.getD k []) rfl, ← HPR.out, h1, h2, ← HKW.out]
          refine ByteArray.ext ?_
          simp [objW, rdrW, iniW, Oj.five]
        · rw [ByteArray.size_append]
          have h1 := HSZ.out
          have h3 : (⟨(numsT ini).toArray⟩ : ByteArray).size = (numsT ini).length := by simp [ByteArray.size]
          omega
set_option maxRecDepth 100000 in
theorem rline_lo (kd wd sl cp st : Int) (I : Option Addr) (ini : List Int) (ci : Nat) (wt : Int) (R : Option Addr) (rd : List Int) (cr : Nat) (w : World) (hk : kd < 1) :
    Calls Tryz.prog 21 #[.agg #[.int .i64 kd, .int .i64 wd, .int .i64 sl, .int .i64 cp, .int .u32 st, .slice I ini.length ci, .int .i64 wt, .slice R rd.length cr]] w (LineR ⟨kd, wd, sl, cp, st, ini, wt, rd⟩ w) := by
  have hB : objB ⟨kd, wd, sl, cp, st, ini, wt, rd⟩ = false := by
    have : (decide (1 ≤ kd) && decide (kd ≤ 6)) = false := by simp; omega
    unfold objB
    rw [this, Bool.false_and]
  have HB := Lib.hid hB
  clear hB
  have t1 : decide (kd < 1) = true := decide_eq_true hk
  clear hk
  go_enter Tryz.func21, Tryz.ntmps21
  go_wp2_with fail
  go_ret2
  exact ⟨_, by rw [HB.out]; rfl, (fun h => by rw [HB.out] at h; cases h), Nat.zero_le _, (Below.refl _ w).alloc (Nat.le_refl _) _⟩
set_option maxRecDepth 100000 in
theorem rline_hi (kd wd sl cp st : Int) (I : Option Addr) (ini : List Int) (ci : Nat) (wt : Int) (R : Option Addr) (rd : List Int) (cr : Nat) (w : World) (hk : 6 < kd) :
    Calls Tryz.prog 21 #[.agg #[.int .i64 kd, .int .i64 wd, .int .i64 sl, .int .i64 cp, .int .u32 st, .slice I ini.length ci, .int .i64 wt, .slice R rd.length cr]] w (LineR ⟨kd, wd, sl, cp, st, ini, wt, rd⟩ w) := by
  have hB : objB ⟨kd, wd, sl, cp, st, ini, wt, rd⟩ = false := by
    have : (decide (1 ≤ kd) && decide (kd ≤ 6)) = false := by simp; omega
    unfold objB
    rw [this, Bool.false_and]
  have HB := Lib.hid hB
  clear hB
  have t1 : decide (kd < 1) = false := by rw [decide_eq_false_iff_not]; omega
  have t2 : decide ((6 : Int) < kd) = true := decide_eq_true hk
  clear hk
  go_enter Tryz.func21, Tryz.ntmps21
  go_wp2_with fail
  go_ret2
  exact ⟨_, by rw [HB.out]; rfl, (fun h => by rw [HB.out] at h; cases h), Nat.zero_le _, (Below.refl _ w).alloc (Nat.le_refl _) _⟩
theorem rline_ob (o : Oj) (I : Option Addr) (ci : Nat) (R : Option Addr) (cr : Nat) (w : World) (hst : 0 ≤ o.st ∧ o.st < 4294967296) (hli : o.ini.length ≤ 20000) (hlr : o.rd.length ≤ 20000) (hI : Ws w w.heap.size I o.ini) (hR : SlOf (ints .i64) w w.heap.size R o.rd) : Calls Tryz.prog 21 #[ojV o I ci R cr] w (LineR o w) := by
  obtain ⟨kd, wd, sl, cp, st, ini, wt, rd⟩ := o
  by_cases h1 : kd < 1
  · exact rline_lo kd wd sl cp st I ini ci wt R rd cr w h1
  · by_cases h2 : 6 < kd
    · exact rline_hi kd wd sl cp st I ini ci wt R rd cr w h2
    · obtain ⟨k, rfl⟩ := Int.eq_ofNat_of_zero_le (show 0 ≤ kd by omega)
      exact rline_k k wd sl cp st I ini ci wt R rd cr w (by omega) hst hli hlr hI hR

end Go.Proofs.YtfgmebjbibbpdaaGreatDoor

namespace Go.Proofs.YtfgmebjbibbpdaaGreatDoor
open Go.RowKit Go.Shelf
attribute [local go_sem] Oper.semAt_some

/-! ### of no program -/
def optT (o : Option (List UInt8)) : List UInt8 := match o with
  | some l => l ++ [10]
  | none => []
def txtI (p : List Item) : List UInt8 := p.flatMap fun x => x.1.data.toList ++ [10]
def goodI (p : List Item) : Prop := (∀ x ∈ p, x.2 = true) ∧ (txtI p).length ≤ 65536
theorem flatMap_same {α β : Type} {l : List α} {f g : α → List β} (h : ∀ x ∈ l, f x = g x) : l.flatMap f = l.flatMap g := by
  induction l with
  | nil => rfl
  | cons a l ih => rw [List.flatMap_cons, List.flatMap_cons, h a (by simp), ih (fun x hx => h x (by simp [hx]))]
theorem txtI_snoc (p : List Item) (x : Item) : txtI (p ++ [x]) = txtI p ++ (x.1.data.toList ++ [10]) := by simp [txtI]
theorem FM.good {L : List (Option (List UInt8))} : ∀ {p : List Item}, FM L p → (∀ x ∈ p, x.2 = true) → (∀ o ∈ L, o ≠ none) ∧ txtI p = L.flatMap optT := by
  induction L with
  | nil =>
    intro p h _
    cases p with
    | nil => exact ⟨(fun o ho => by cases ho), rfl⟩
    | cons y p => exact h.elim
  | cons a L ih =>
    intro p h hg
    cases p with
    | nil => exact h.elim
    | cons y p =>
      obtain ⟨h1, h2⟩ := ih h.2 (fun x hx => hg x (by simp [hx]))
      cases a with
      | none =>
        have := h.1.2.1 rfl
        rw [hg y (by simp)] at this
        cases this
      | some l =>
        have hy := h.1.2.2 l rfl
        refine ⟨fun o ho => ?_, ?_⟩
        · rcases List.mem_cons.1 ho with rfl | ho
          · exact fun e => by cases e
          · exact h1 o ho
        · have e1 : txtI (y :: p) = (y.1.data.toList ++ [10]) ++ txtI p := by simp [txtI]
          have e2 : (some l :: L).flatMap optT = (l ++ [10]) ++ L.flatMap optT := by simp [optT]
          rw [e1, e2, h2, hy]
theorem FM.all {L : List (Option (List UInt8))} : ∀ {p : List Item}, FM L p → (∀ o ∈ L, o ≠ none) → ∀ x ∈ p, x.2 = true := by
  induction L with
  | nil =>
    intro p h _
    cases p with
    | nil => exact fun x hx => by cases hx
    | cons y p => exact h.elim
  | cons a L ih =>
    intro p h hg
    cases p with
    | nil => exact h.elim
    | cons y p =>
      intro x hx
      rcases List.mem_cons.1 hx with rfl | hx
      · cases a with
        | none => exact absurd rfl (hg none (by simp))
        | some l => rw [h.1.2.2 l rfl]
      · exact ih h.2 (fun o ho => hg o (by simp [ho])) x hx
theorem sysLs_some (s : Sy) : (∀ o ∈ sysLs s, o ≠ none) ↔ sysOk s = true := by
  unfold sysLs sysOk
  rw [Bool.and_eq_true, List.all_eq_true, List.all_eq_true]
  constructor
  · intro h
    refine ⟨fun t ht => ?_, fun o ho => ?_⟩
    · have h1 : ∀ o ∈ taskLs t, o ≠ none := fun o ho => h o (by simp only [List.mem_append, List.mem_flatMap]; exact .inl ⟨t, ht, ho⟩)
      unfold taskOk
      rw [Bool.and_eq_true]
      constructor
      · have := h1 (headLs t) (by simp [taskLs])
        unfold headLs at this
        split at this
        · assumption
        · exact absurd rfl this
      · unfold okAll
        rw [List.all_eq_true]
        intro e he
        have := h1 (if insB e = true then some (lineL e) else none) (by
          unfold taskLs codeLs
          simp only [List.mem_cons, List.mem_append, List.mem_map]
          exact .inr (.inl ⟨e, he, rfl⟩))
        split at this
        · assumption
        · exact absurd rfl this
    · have := h (objLs o) (by simp only [List.mem_append, List.mem_map]; exact .inr ⟨o, ho, rfl⟩)
      unfold objLs at this
      split at this
      · assumption
      · exact absurd rfl this
  · rintro ⟨h1, h2⟩ o ho
    simp only [List.mem_append, List.mem_flatMap, List.mem_map] at ho
    rcases ho with ⟨t, ht, ho⟩ | ⟨u, hu, rfl⟩
    · have h3 := h1 t ht
      unfold taskOk at h3
      rw [Bool.and_eq_true] at h3
      unfold taskLs codeLs at ho
      simp only [List.mem_cons, List.mem_append, List.mem_map, List.not_mem_nil, or_false] at ho
      rcases ho with rfl | ⟨e, he, rfl⟩ | rfl
      · unfold headLs; rw [if_pos h3.1]; simp
      · have h4 := h3.2
        unfold okAll at h4
        rw [if_pos (List.all_eq_true.1 h4 e he)]
        simp
      · simp
    · unfold objLs; rw [if_pos (h2 u hu)]; simp
theorem sysLs_text {s : Sy} (h : sysOk s = true) : (sysLs s).flatMap optT = sysT s := by
  unfold sysOk at h
  rw [Bool.and_eq_true, List.all_eq_true, List.all_eq_true] at h
  obtain ⟨h1, h2⟩ := h
  unfold sysLs sysT
  rw [List.flatMap_append]
  congr 1
  · unfold tasksT
    rw [List.flatMap_assoc]
    refine flatMap_same fun t ht => ?_
    have h3 := h1 t ht
    unfold taskOk at h3
    rw [Bool.and_eq_true] at h3
    have h4 := h3.2
    unfold okAll at h4
    rw [List.all_eq_true] at h4
    unfold taskLs taskT codeLs headLs textOf
    rw [if_pos h3.1]
    simp only [List.flatMap_cons, List.flatMap_append, List.flatMap_map, List.flatMap_nil, optT, List.append_nil]
    congr 2
    refine flatMap_same fun e he => ?_
    rw [if_pos (h4 e he)]
  · unfold objsT
    rw [List.flatMap_map]
    refine flatMap_same fun o ho => ?_
    unfold objLs
    rw [if_pos (h2 o ho)]
    rfl
theorem done_good {s : Sy} {xs : List Item} (h : FM (sysLs s) xs) (hg : goodI xs) : printOk s = true ∧ txtI xs = sysT s := by
  obtain ⟨h1, h2⟩ := h.good hg.1
  have h3 := (sysLs_some s).1 h1
  rw [sysLs_text h3] at h2
  refine ⟨?_, h2⟩
  unfold printOk
  rw [h3, ← h2]
  simpa using hg.2
theorem prefix_flat {α β : Type} {l m : List α} (f : α → List β) (h : l <+: m) : (l.flatMap f).length ≤ (m.flatMap f).length := by
  obtain ⟨r, rfl⟩ := h
  rw [List.flatMap_append, List.length_append]
  omega
theorem stop_bad {s : Sy} {pre : List Item} (h : SpI s pre) (hb : ¬ goodI pre) : printOk s = false := by
  cases hp : printOk s with
  | false => rfl
  | true =>
    exfalso
    unfold printOk at hp
    rw [Bool.and_eq_true, decide_eq_true_iff] at hp
    obtain ⟨L, h1, h2⟩ := h
    have h3 := (sysLs_some s).2 hp.1
    have h4 := h1.all (fun o ho => h3 o (h2.subset ho))
    refine hb ⟨h4, ?_⟩
    rw [(h1.good h4).2]
    have := prefix_flat optT h2
    rw [sysLs_text hp.1] at this
    omega

/-- The text that is printed, or nothing. -/
def printT (s : Sy) : ByteArray := if printOk s = true then ⟨(sysT s).toArray⟩ else ⟨#[]⟩
theorem printT_ok {s : Sy} (h : printOk s = true) : printT s = ⟨(sysT s).toArray⟩ := by unfold printT; rw [if_pos h]
theorem printT_bad {s : Sy} (h : printOk s = false) : printT s = ⟨#[]⟩ := by unfold printT; rw [if_neg (by rw [h]; decide)]

/-! ### walked -/
theorem slines_st (n : Nat) (hn : 1 ≤ n) (s : Sy) (At Ao : Option Addr) (ct co sB : Nat) (w0 w : World) (hw : Below w0.heap.size w0 w)
    (ht : TkSl w0 w0.heap.size At s.ts) (ho : OjSl w0 w0.heap.size Ao s.os) (hcode : ∀ t ∈ s.ts, t.code.length ≤ 100000) (hobj : ∀ o ∈ s.os, o.ini.length ≤ 20000 ∧ o.rd.length ≤ 20000) (hnt : s.ts.length ≤ 100000) (hno : s.os.length ≤ 100000) (hT : Tab w0) (hs : SyB w sB At Ao s.ts.length ct s.os.length co) :
    Seq0 Fence.wide n Tryz.prog 31 #[.pointer (some ⟨sB, 0, none⟩)] encI (KpI w0.heap.size) (FM (sysLs s)) (SpI s) (OkI s) w :=
  fun lb J Jx W hW hJ hJx hY h0 => slines_in n hn lb sB s At Ao ct co J Jx w0 W hJ hJx ht ho hcode hobj hnt hno hT hY ((hW.block sB (Array.getElem?_eq_some_iff.1 hs).1).trans hs) (hw.trans (hW.mono hw.size)) h0
theorem linesOf_any (At Ao : Option Addr) (nt ct no co : Nat) (w : World) :
    Calls Tryz.prog 15 #[.agg #[.slice At nt ct, .slice Ao no co]] w fun e w' => ∃ B, B = w.heap.size ∧ e = .returned (.func (.func 31) #[] #[.pointer (some ⟨B, 0, none⟩)]) ∧ w.alloc (.cells #[.slice At nt ct, .slice Ao no co] 25) = w' := by
  go_enter Tryz.func15, Tryz.ntmps15
  go_wp2_with (first | go_in | fail)
  go_ret
  exact ⟨_, rfl, rfl, rfl⟩
theorem res_print (tmps : Array Value) (w : World) {a b : Addr} {s : ByteArray} {x : Bool} (ha : tmps[2]?.getD undef = .pointer (some a)) (hb : tmps[3]?.getD undef = .pointer (some b)) (hv : w.cell? a = some (.string s)) (hx : w.cell? b = some (.bool x)) :
    (results Tryz.f8 tmps).run Tryz.prog w = .ok (.tuple #[.string s, .bool x]) w := by
  simp [results, ha, hb, hv, hx, go_sem]
theorem belBuilder {B b : Nat} {bs : List Value} : Bel (fun W => Lib.IsBuilder 50 5 B b bs W) := fun _ _ h hb => builder_kept h hb
theorem builder_putO {B b l : Nat} {bs : List Value} {W : World} {o : Obj} (o' : Obj) (h : Lib.IsBuilder 50 5 B b bs W) (hl : W.heap[l]? = some o) (ho : o.isCells = false) : Lib.IsBuilder 50 5 B b bs (W.putObj l o') := by
  have far : ∀ {g : Nat} {cs : Array Value} {t : TypeId} {fr : Nat × Nat}, W.heap[g]? = some (.cells cs t fr) → (W.putObj l o').heap[g]? = some (.cells cs t fr) := fun {g cs t fr} hg => by
    have hne : g ≠ l := fun e => by
      subst e
      rw [hl] at hg
      injection hg with hg
      subst hg
      cases ho
    exact (World.putObj_heap_other hne).trans hg
  have key : ∀ p, Lib.BuilderAt 50 5 B b p bs W → Lib.BuilderAt 50 5 B b p bs (W.putObj l o') := fun p ⟨h1, v, h2, h3, h4⟩ =>
    ⟨h1, v, far h2, (by
      refine ⟨h3.1, ?_⟩
      rcases h3.2 with h5 | ⟨g, cap, cur, hv, hg, hh, r⟩
      · exact .inl h5
      · exact .inr ⟨g, cap, cur, hv, hg, far hh, r⟩), h4⟩
  rcases h with h | h
  · exact .inl (key _ h)
  · exact .inr (key _ h)
set_option maxRecDepth 100000 in
set_option maxHeartbeats 4000000 in
theorem sprint_any (s : Sy) (At Ao : Option Addr) (ct co : Nat) (w : World)
    (ht : TkSl w w.heap.size At s.ts) (ho : OjSl w w.heap.size Ao s.os) (hcode : ∀ t ∈ s.ts, t.code.length ≤ 100000) (hobj : ∀ o ∈ s.os, o.ini.length ≤ 20000 ∧ o.rd.length ≤ 20000) (hnt : s.ts.length ≤ 100000) (hno : s.os.length ≤ 100000) (hT : Tab w) :
    Calls Tryz.prog 8 #[.agg #[.slice At s.ts.length ct, .slice Ao s.os.length co]] w fun e w' => e = .returned (.tuple #[.string (printT s), .bool (printOk s)]) ∧ Below w.heap.size w w' := by
  have hls := fun W hw hs => slines_st (6 - 1) (by omega) s At Ao ct co (w.heap.size + 1 + 1 + 1 + 1) w W hw ht ho hcode hobj hnt hno hT hs
  have HLS := Lib.hid hls
  clear hls ht ho hcode hobj hT
  refine (callsIn_wide (n := 6)).1 ?_
  refine callsIn_of_wp_marks Tryz.func8 rfl trivial ?_ rfl
  simp only [Tryz.ntmps8, List.size_toArray, List.length_cons, List.length_nil, Nat.reduceAdd, Nat.reduceSub, Array.replicate_succ, Array.replicate_zero, List.push_toArray, List.append_toArray, List.nil_append, List.cons_append]
  gi_wp2_with fail
  refine ⟨trivial, ?_⟩
  refine (callsIn_wide.2 (linesOf_any At Ao s.ts.length ct s.os.length co _)).mono ?_
  rintro e W0 ⟨B, hB, rfl, hW0⟩
  gi_wp2_with fail
  clear hB
  have hbox : Boxed W0 (w.heap.size + 1) 9 (.string ⟨#[]⟩) ∧ Boxed W0 (w.heap.size + 1 + 1) 4 (.bool false) ∧ Lib.IsBuilder 50 5 (w.heap.size + 1 + 1 + 1) (w.heap.size + 1 + 1 + 1) [] W0 ∧ SyB W0 (w.heap.size + 1 + 1 + 1 + 1) At Ao s.ts.length ct s.os.length co ∧ Below w.heap.size w W0 ∧ W0.heap.size = w.heap.size + 5 := by
    obtain ⟨w1, hw1⟩ : ∃ x, w.alloc (.cells #[.slice At s.ts.length ct, .slice Ao s.os.length co] 25) = x := ⟨_, rfl⟩
    obtain ⟨w2, hw2⟩ : ∃ x, w1.alloc (.cells #[.string ⟨#[]⟩] 9) = x := ⟨_, rfl⟩
    obtain ⟨w3, hw3⟩ : ∃ x, w2.alloc (.cells #[.bool false] 4) = x := ⟨_, rfl⟩
    obtain ⟨w4, hw4⟩ : ∃ x, w3.alloc (.cells #[.pointer none, .slice none 0 0] 50) = x := ⟨_, rfl⟩
    rw [hw1, hw2, hw3, hw4] at hW0
    have s1 : w1.heap.size = w.heap.size + 1 := by rw [← hw1, World.size_alloc]
    have s2 : w2.heap.size = w.heap.size + 1 + 1 := by rw [← hw2, World.size_alloc, s1]
    have s3 : w3.heap.size = w.heap.size + 1 + 1 + 1 := by rw [← hw3, World.size_alloc, s2]
    have s4 : w4.heap.size = w.heap.size + 1 + 1 + 1 + 1 := by rw [← hw4, World.size_alloc, s3]
    have s5 : W0.heap.size = w.heap.size + 5 := by rw [← hW0, World.size_alloc, s4]
    have x2 := box_new hw2 s1
    have x3 := box_new hw3 s2
    have x4 := builder_new w3
    rw [hw4, s3] at x4
    have hb5 : Below w4.heap.size w4 W0 := by rw [← hW0]; exact (Below.refl _ _).alloc (Nat.le_refl _) _
    refine ⟨box_al (box_al (box_al x2.1 hw3) hw4) hW0, box_al (box_al x3.1 hw4) hW0, builder_kept x4 hb5, ?_, ?_, s5⟩
    · have := heap_alloc_new w4 (.cells #[.slice At s.ts.length ct, .slice Ao s.os.length co] 25)
      rw [hW0, s4] at this
      exact this
    · exact below_al (below_al (below_al (below_al (below_al (Below.refl w.heap.size w) (Nat.le_refl _) hw1) (by omega) hw2) (by omega) hw3) (by omega) hw4) (by omega) hW0
  obtain ⟨y1, y2, y3, y4, hb0, hsz⟩ := hbox
  clear hW0
  refine wpIn_rangeFunc_0 rfl (by omega) (gf := 31) (lb := #[.pointer (some ⟨w.heap.size + 1 + 1 + 1 + 1, 0, none⟩)]) rfl trivial (enters_of Tryz.func31 (by kernel_rfl) rfl)
    (fun _ => rfl) (HLS.out W0 hb0 y4) (fun h k => ⟨h.1.trans k.1, h.2.trans k.2⟩) (fun W l o o' hl hlo hoc => ⟨KeepC.put' o' hlo hoc, below_putO (H := w.heap.size) o' (by omega) hlo⟩) (Below.refl _ _)
    (fun pre W => (Boxed W (w.heap.size + 1) 9 (.string ⟨#[]⟩) ∧ Boxed W (w.heap.size + 1 + 1) 4 (.bool false)) ∧ (Lib.IsBuilder 50 5 (w.heap.size + 1 + 1 + 1) (w.heap.size + 1 + 1 + 1) (Lib.byteCells (txtI pre)) W ∧ goodI pre) ∧ (Below w.heap.size w W ∧ w.heap.size + 5 ≤ W.heap.size))
    (fun c pre W => (Boxed W (w.heap.size + 1) 9 (.string ⟨#[]⟩) ∧ Boxed W (w.heap.size + 1 + 1) 4 (.bool false)) ∧ ¬ goodI pre ∧ Below w.heap.size w W ∧ c = .ret)
    ?_ ?_ ?_ ?_ ⟨⟨y1, y2⟩, ⟨y3, (fun x hx => by cases hx), by simp [txtI]⟩, hb0, by omega⟩
    (fun x => { tmps := #[.agg #[.slice At s.ts.length ct, .slice Ao s.os.length co], .pointer (some ⟨w.heap.size, 0, none⟩), .pointer (some ⟨w.heap.size + 1, 0, none⟩), .pointer (some ⟨w.heap.size + 1 + 1, 0, none⟩), .pointer (some ⟨w.heap.size + 1 + 1 + 1, 0, none⟩), .string x.1, .bool x.2, .agg #[.slice At s.ts.length ct, .slice Ao s.os.length co], .func (.func 31) #[] #[.pointer (some ⟨w.heap.size + 1 + 1 + 1 + 1, 0, none⟩)], .string x.1, .bool x.2, undef, undef, undef, undef, undef, undef, undef, undef, undef, undef], defers := [] })
    ?assign ?body ?done ?stop
  · exact fun pre => ((Bel.at _ _).and (Bel.at _ _)).and ((belBuilder.and (Bel.const _)).and ((Bel.below (Nat.le_refl _)).and (Bel.size _)))
  · exact fun c pre => ((Bel.at _ _).and (Bel.at _ _)).and ((Bel.const _).and ((Bel.below (Nat.le_refl _)).and (Bel.const _)))
  · rintro pre W l o o' ⟨⟨r1, r2⟩, ⟨hbl, hg⟩, hbw, hNW⟩ hl ho hc
    have hbp := below_putO (H := w.heap.size) o' (by omega) ho
    exact ⟨⟨box_putO o' r1 ho hc, box_putO o' r2 ho hc⟩, ⟨builder_putO o' hbl ho hc, hg⟩, hbw.trans hbp, Nat.le_trans hNW hbp.size⟩
  · rintro c pre W l o o' ⟨⟨r1, r2⟩, hg, hbw, hr⟩ hl ho hc
    have hbp := below_putO (H := w.heap.size) o' (by omega) ho
    exact ⟨⟨box_putO o' r1 ho hc, box_putO o' r2 ho hc⟩, hg, hbw.trans hbp, hr⟩
  case assign =>
    intro l x W K hK
    unfold encI
    gi_wp2
    exact hK
  case body =>
    rintro lb pre ⟨xs, xo⟩ W ⟨⟨r1, r2⟩, ⟨hbl, hgood⟩, hbw, hNW⟩ hok
    obtain ⟨L, o, hfm, hmt, hpf⟩ := hok
    have hxs : xs.size ≤ 1000000 := hmt.1
    have z2 : ¬ 9223372036854775807 < xs.size + 1 := by omega
    have z3 : ¬ 9223372036854775807 ≤ xs.size := by omega
    have hDn : (xs ++ (⟨#[10]⟩ : ByteArray)).size = xs.size + 1 := by rw [ByteArray.size_append]; rfl
    have hwr := write_keep (w.heap.size + 1 + 1 + 1) (w.heap.size + 1 + 1 + 1) (Lib.byteCells (txtI pre)) (xs ++ ⟨#[10]⟩) W hbl (by rw [Lib.byteCells_length, hDn]; have := hgood.2; omega) (by omega)
    rw [str_bytes, show (xs ++ (⟨#[10]⟩ : ByteArray)).data.toList = xs.data.toList ++ [10] by simp, ← txtI_snoc pre (xs, xo)] at hwr
    have hwr' := Lib.hid hwr
    have hgd := Lib.hid hgood
    clear hwr hbl hgood hfm hmt hpf
    gi_wp2_with fail
    refine ⟨trivial, ?_⟩
    refine (CallsIn.inRound lb (callsIn_wide.2 hwr'.out)).mono ?_
    rintro e1 W1 ⟨rfl, hbl1, hb1, hk1⟩
    have r1' : Boxed W1 (w.heap.size + 1) 9 (.string ⟨#[]⟩) := hk1.c.2 _ _ _ _ r1 (by decide) (by decide)
    have r2' : Boxed W1 (w.heap.size + 1 + 1) 4 (.bool false) := hk1.c.2 _ _ _ _ r2 (by decide) (by decide)
    have hbw1 := hbw.trans (hb1.mono (show w.heap.size ≤ w.heap.size + 1 + 1 + 1 by omega))
    have HK1 := Lib.hid hk1
    have HBW1 := Lib.hid hbw1
    have HBL1 := Lib.hid hbl1
    have hs1 := hk1.1
    have hb1' := Lib.hid (hb1.mono (show w.heap.size ≤ w.heap.size + 1 + 1 + 1 by omega))
    clear hk1 hbw1 hbl1 hb1 r1 r2
    cases xo with
    | false =>
      have g1 := r1'.cell
      have g2 := r2'.cell
      have f1 := r1'.frozen
      have f2 := r2'.frozen
      have hng := Lib.hid (show ¬ goodI (pre ++ [(xs, false)]) from fun h => by have := h.1 (xs, false) (by simp); cases this)
      gi_wp2_with fail
      refine ⟨trivial, ?_⟩
      gi_wp2_with fail
      have k1 := (r1'.set (.string ⟨#[]⟩)).other (B' := w.heap.size + 1 + 1) (by omega) (.bool false)
      have k2 := (r2'.other (B' := w.heap.size + 1) (by omega) (.string ⟨#[]⟩)).set (.bool false)
      exact ⟨(HK1.out.from _).trans (((KeepsOthers.setCell _ _ _).trans (KeepsOthers.setCell _ _ _)).from _), ⟨k1, k2⟩, hng.out, (HBW1.out.setCell (p := ⟨w.heap.size + 1, 0, none⟩) (by simp) _).setCell (p := ⟨w.heap.size + 1 + 1, 0, none⟩) (by simp; omega) _, rfl⟩
    | true =>
      have hle := Tryz.Builder_Len _ _ _ W1 HBL1.out
      rw [Lib.byteCells_length] at hle
      have hle' := Lib.hid hle
      clear hle
      gi_wp2_with fail
      refine ⟨trivial, ?_⟩
      refine (CallsIn.inRound lb (callsIn_wide.2 hle'.out)).mono ?_
      rintro e2 W2 ⟨rfl, rfl⟩
      by_cases hbig : 65536 < (txtI (pre ++ [(xs, true)])).length
      · have t1 : decide ((65536 : Int) < ((txtI (pre ++ [(xs, true)])).length : Int)) = true := by rw [decide_eq_true_iff]; omega
        have t2 : decide (65536 < (txtI (pre ++ [(xs, true)])).length) = true := by rw [decide_eq_true_iff]; omega
        have g1 := r1'.cell
        have g2 := r2'.cell
        have f1 := r1'.frozen
        have f2 := r2'.frozen
        have hng := Lib.hid (show ¬ goodI (pre ++ [(xs, true)]) from fun h => by have := h.2; omega)
        gi_wp2_with fail
        have k1 := (r1'.set (.string ⟨#[]⟩)).other (B' := w.heap.size + 1 + 1) (by omega) (.bool false)
        have k2 := (r2'.other (B' := w.heap.size + 1) (by omega) (.string ⟨#[]⟩)).set (.bool false)
        exact ⟨(HK1.out.from _).trans (((KeepsOthers.setCell _ _ _).trans (KeepsOthers.setCell _ _ _)).from _), ⟨k1, k2⟩, hng.out, (HBW1.out.setCell (p := ⟨w.heap.size + 1, 0, none⟩) (by simp) _).setCell (p := ⟨w.heap.size + 1 + 1, 0, none⟩) (by simp; omega) _, rfl⟩
      · have t1 : decide ((65536 : Int) < ((txtI (pre ++ [(xs, true)])).length : Int)) = false := by rw [decide_eq_false_iff_not]; omega
        have t2 : decide (65536 < (txtI (pre ++ [(xs, true)])).length) = false := by rw [decide_eq_false_iff_not]; omega
        have hg2 := Lib.hid (show goodI (pre ++ [(xs, true)]) from ⟨fun x hx => by
          rcases List.mem_append.1 hx with h | h
          · exact hgd.out.1 x h
          · rw [List.mem_singleton.1 h], by omega⟩)
        clear hbig
        gi_wp2_with fail
        exact ⟨HK1.out.from _, ⟨HK1.out.c, hb1'.out⟩, ⟨r1', r2'⟩, ⟨HBL1.out, hg2.out⟩, HBW1.out, Nat.le_trans hNW hs1⟩
  case done =>
    rintro D ys W hD hfm ⟨⟨r1, r2⟩, ⟨hbl, hgood⟩, hbw, hNW⟩ hK
    obtain ⟨hp1, hp2⟩ := done_good hfm hgood
    have HP1 := Lib.hid hp1
    have HP2 := Lib.hid hp2
    have hst := Tryz.Builder_String_any_k _ _ (txtI ys) W (Lib.IsBuilderF.of hbl) (by omega)
    have HST := Lib.hid hst
    have HBW := Lib.hid hbw
    clear hst hbl hgood hfm hp1 hp2 hbw
    gi_wp2_with fail
    refine ⟨trivial, ?_⟩
    refine (callsIn_wide.2 HST.out).mono ?_
    rintro e2 W2 ⟨rfl, -, hb2, ho2⟩
    have q1 : Boxed W2 (w.heap.size + 1) 9 (.string ⟨#[]⟩) := ho2 _ _ r1 (by intro e; injection e with e; omega) (by intro c fz e; injection e with e1 e2 e3; exact absurd e2 (by decide))
    have q2 : Boxed W2 (w.heap.size + 1 + 1) 4 (.bool false) := ho2 _ _ r2 (by intro e; injection e with e; omega) (by intro c fz e; injection e with e1 e2 e3; exact absurd e2 (by decide))
    have hK2 := ho2 _ _ hK (by intro e; injection e with e; omega) (by intro c fz e; cases e)
    clear hK r1 r2 ho2
    have HB2 := Lib.hid (HBW.out.trans (hb2.mono (show w.heap.size ≤ w.heap.size + 1 + 1 + 1 by omega)))
    have hs2 := hb2.size
    clear hb2
    have g1 := q1.cell
    have g2 := q2.cell
    have f1 := q1.frozen
    have f2 := q2.frozen
    gi_wp2_with fail
    have hK3 := (((KeepsOthers.setCell W2 ⟨w.heap.size + 1, 0, none⟩ (.string ⟨(txtI ys).toArray⟩)).trans (KeepsOthers.setCell _ ⟨w.heap.size + 1 + 1, 0, none⟩ (.bool true))).from 0).2 _ _ (Nat.zero_le _) hK2 rfl
    have k1 := (q1.set (.string ⟨(txtI ys).toArray⟩)).other (B' := w.heap.size + 1 + 1) (by omega) (.bool true)
    have k2 := (q2.other (B' := w.heap.size + 1) (by omega) (.string ⟨(txtI ys).toArray⟩)).set (.bool true)
    have hbw3 := (HB2.out.setCell (p := ⟨w.heap.size + 1, 0, none⟩) (by simp) (.string ⟨(txtI ys).toArray⟩)).setCell (p := ⟨w.heap.size + 1 + 1, 0, none⟩) (by simp; omega) (.bool true)
    have hbp := below_putO (H := w.heap.size) (.deferred none) (by omega) hK3
    refine ⟨by simp, .inl ⟨_, _, rfl, run_takeDeferred hK3, ?_⟩⟩
    exact ⟨_, res_print _ _ rfl rfl (box_putO (.deferred none) k1 hK3 rfl).cell (box_putO (.deferred none) k2 hK3 rfl).cell, by rw [printT_ok HP1.out, HP1.out, HP2.out], hbw3.trans hbp⟩
  case stop =>
    rintro D c pre W hD hsp ⟨⟨r1, r2⟩, hng, hbw, rfl⟩ hK
    have g1 := r1.cell
    have g2 := r2.cell
    have HP := Lib.hid (stop_bad hsp hng)
    have hbp := below_putO (H := w.heap.size) (.deferred none) (by omega) hK
    clear hng hsp
    gi_wp2_with fail
    refine ⟨by simp, .inl ⟨_, _, rfl, run_takeDeferred hK, ?_⟩⟩
    exact ⟨_, res_print _ _ rfl rfl (box_putO (.deferred none) r1 hK rfl).cell (box_putO (.deferred none) r2 hK rfl).cell, by rw [HP.out, printT_bad HP.out], hbw.trans hbp⟩

end Go.Proofs.YtfgmebjbibbpdaaGreatDoor

namespace Go.Proofs.YtfgmebjbibbpdaaGreatDoor
open Go.RowKit

def digN (l : List UInt8) : Option Nat := if l.all digB = true ∧ l.length ≤ 14 then some (dv l) else none
def digNV (l : List UInt8) : Int := match digN l with
  | some n => n
  | none => -9
theorem digNV_yes {l : List UInt8} (h : l.all digB = true) (h2 : l.length ≤ 14) : digNV l = dv l := by unfold digNV digN; rw [if_pos ⟨h, h2⟩]
theorem digNV_no {l : List UInt8} (h : ¬(l.all digB = true ∧ l.length ≤ 14)) : digNV l = -9 := by unfold digNV digN; rw [if_neg h]
theorem all_no {l : List UInt8} {k : Nat} {x : UInt8} (hx : l[k]? = some x) (hd : digB x = false) : ¬ l.all digB = true := fun h => by
  have := List.all_eq_true.1 h x (List.mem_of_getElem? hx)
  rw [hd] at this
  cases this

set_option maxRecDepth 100000 in
set_option maxHeartbeats 1000000 in
theorem rdigits_any (s : ByteArray) (w : World) (_hs : s.size ≤ 1000000) :
    Calls Tryz.prog 75 #[.string s] w fun e w' => e = .returned (.int .i64 (digNV s.data.toList)) ∧ Below w.heap.size w w' := by
  obtain ⟨l, hl⟩ : ∃ l, s.data.toList = l := ⟨_, rfl⟩
  have hlen : l.length = s.size := by rw [← hl]; exact Array.length_toList
  rw [hl]
  have hl' := Lib.hid hl
  have hlen' := Lib.hid hlen
  clear hl hlen
  go_enter Tryz.func75, Tryz.ntmps75
  go_wp2_with fail
  go_loopw [3, 4] (fun m j wr => ∃ k : Nat, k ≤ s.size ∧ k ≤ 14 ∧ (l.take k).all digB = true ∧ m = .int .i64 ((dv (l.take k) : Nat) : Int) ∧ j = .int .i64 k ∧ Below w.heap.size w wr)
    (fun _ j _ => s.size - (intOf j).toNat)
  case atStart => exact ⟨0, Nat.zero_le _, by omega, rfl, rfl, rfl, Below.refl _ _⟩
  case round =>
    obtain ⟨k, hk, hk14, hall, rfl, rfl, hbr⟩ := hrel
    have hsz := hbr.size
    have hmx := dv_lt hall
    have hp10 : (10 : Nat) ^ (l.take k).length ≤ 10 ^ 14 := Nat.pow_le_pow_right (by omega) (by rw [List.length_take]; omega)
    have hm10 : dv (l.take k) < 100000000000000 := by omega
    clear hmx hp10
    by_cases hlt : k < s.size
    · obtain ⟨x, hx⟩ : ∃ x, s[k]'hlt = x := ⟨_, rfl⟩
      have hxl : l[k]? = some x := by
        rw [← hl'.out, ← hx, List.getElem?_eq_getElem (by rw [hl'.out, hlen'.out]; exact hlt)]
        rfl
      have hxt : x.toNat < 256 := UInt8.toNat_lt x
      have hstep := Lib.hid (take_snoc hxl)
      have hxl' := Lib.hid hxl
      have hall' := Lib.hid hall
      clear hxl hall
      by_cases hd : 48 ≤ x.toNat ∧ x.toNat ≤ 57
      · obtain ⟨hd1, hd2⟩ := hd
        have d1 : decide ((x.toNat : Int) < 48) = false := by rw [decide_eq_false_iff_not]; omega
        have d2 : decide ((57 : Int) < (x.toNat : Int)) = false := by rw [decide_eq_false_iff_not]; omega
        by_cases h13 : 13 < k
        · have d3 : decide (13 < k) = true := by rw [decide_eq_true_iff]; exact h13
          have hf := Lib.hid (digNV_no (l := l) (fun h => by have := h.2; have := hlen'.out; omega))
          go_wp2_with fail
          go_ret
          exact ⟨by rw [hf.out]; rfl, hbr⟩
        · have d3 : decide (13 < k) = false := by rw [decide_eq_false_iff_not]; exact h13
          go_wp2_with fail
          go_roundw
          case rel => exact ⟨k + 1, by omega, by omega, by rw [hstep.out, List.all_append, hall'.out]; simp [digB, hd1, hd2], val_int (by rw [hstep.out, dv_snoc]; omega), by go_num, hbr⟩
          case measure => simp [intOf]; omega
      · have hf := Lib.hid (digNV_no (l := l) (fun h => all_no hxl'.out (by unfold digB; simp only [Bool.and_eq_false_iff, decide_eq_false_iff_not]; omega) h.1))
        rcases d1 : decide ((x.toNat : Int) < 48) with _ | _
        · have d2 : decide ((57 : Int) < (x.toNat : Int)) = true := by
            have := of_decide_eq_false d1
            rw [decide_eq_true_iff]; omega
          go_wp2_with fail
          go_ret
          exact ⟨by rw [hf.out]; rfl, hbr⟩
        · go_wp2_with fail
          go_ret
          exact ⟨by rw [hf.out]; rfl, hbr⟩
    · have ht : l.take k = l := take_all (by rw [hlen'.out]; exact hlt)
      rw [ht] at hall hm10 ⊢
      have hf := Lib.hid (digNV_yes hall (by rw [hlen'.out]; omega))
      clear hall ht
      go_wp2_with fail
      go_ret
      exact ⟨by rw [hf.out]; rfl, hbr⟩

end Go.Proofs.YtfgmebjbibbpdaaGreatDoor

namespace Go.Proofs.YtfgmebjbibbpdaaGreatDoor
open Go.RowKit

def toB (l : List (List UInt8)) : List ByteArray := l.map fun p => ⟨p.toArray⟩
theorem toB_snoc (l : List (List UInt8)) (x : List UInt8) (b : ByteArray) (h : b.data.toList = x) : toB l ++ [b] = toB (l ++ [x]) := by
  unfold toB
  rw [List.map_append, ← h]
  rfl
theorem toB_len (l : List (List UInt8)) : (toB l).length = l.length := by simp [toB]
theorem ext_data (s : ByteArray) (a b : Nat) (_h : a ≤ b) : (s.extract a b).data.toList = (s.data.toList.drop a).take (b - a) := by
  rw [ByteArray.data_extract, Array.toList_extract, List.extract_eq_take_drop]

set_option maxRecDepth 100000 in
set_option maxHeartbeats 1000000 in
theorem rsplit_any (s : ByteArray) (c : UInt8) (z : Int) (w : World) (hz : z = (c.toNat : Int)) (hs : s.size ≤ 1000000) :
    Calls Tryz.prog 25 #[.string s, .int .u8 z] w fun e w' => ∃ v, e = .returned v ∧ Own strs 9 w.heap.size w' v (toB (pcs c s.data.toList)) ∧ Below w.heap.size w w' := by
  subst hz
  obtain ⟨l, hl⟩ : ∃ l, s.data.toList = l := ⟨_, rfl⟩
  have hlen : l.length = s.size := by rw [← hl]; exact Array.length_toList
  have hext := fun a b h => ext_data s a b h
  rw [hl] at hext ⊢
  have hl' := Lib.hid hl
  have hlen' := Lib.hid hlen
  have hext' := Lib.hid hext
  clear hl hlen hext
  go_enter Tryz.func25, Tryz.ntmps25
  go_wp2_with fail
  go_loopw [5, 6, 7] (fun v f j wr => ∃ (k fr : Nat) (out : List (List UInt8)), k ≤ s.size ∧ fr ≤ k ∧ out.length ≤ k ∧ pcs c l = out ++ pcs c (l.drop fr) ∧ (∀ i : Nat, fr ≤ i → i < k → l[i]? ≠ some c) ∧ j = .int .i64 k ∧ f = .int .i64 fr ∧ Own strs 9 w.heap.size wr v (toB out) ∧ Below w.heap.size w wr)
    (fun _ _ j _ => s.size - (intOf j).toNat)
  case atStart => exact ⟨0, 0, [], Nat.zero_le _, Nat.le_refl _, Nat.le_refl _, rfl, fun i h1 h2 => by omega, rfl, rfl, Own.nil _ _, Below.refl _ _⟩
  case round =>
    obtain ⟨k, fr, out, hk, hf, ho, hpc, hno, rfl, rfl, hown, hbr⟩ := hrel
    have hsz := hbr.size
    have hol := Lib.hid (toB_len out)
    have hpc' := Lib.hid hpc
    have hno' := Lib.hid hno
    have hown' := Lib.hid hown
    clear hpc hno hown
    by_cases hlt : k < s.size
    · obtain ⟨x, hx⟩ : ∃ x, s[k]'hlt = x := ⟨_, rfl⟩
      have hxl : l[k]? = some x := by
        rw [← hl'.out, ← hx, List.getElem?_eq_getElem (by rw [hl'.out, hlen'.out]; exact hlt)]
        rfl
      have hxl' := Lib.hid hxl
      clear hxl
      by_cases hxc : x = c
      · have t1 : ((x.toNat : Int) == (c.toNat : Int)) = true := by simp [hxc]
        have hxc' := Lib.hid hxc
        clear hxc
        go_wp2_with (first
          | (at_builtin; refine wpList_app1 rfl _ _ 70 rfl strTy w.heap.size hown'.out rfl rfl rfl rfl (by rw [hol.out]; unfold maxLen; omega) (by rw [hol.out]; omega) (by omega) ?_; intro v' w1 hown2 hbel2 _)
          | fail)
        go_roundw
        case rel =>
          have e1 : l[fr + (k - fr)]? = some c := by rw [show fr + (k - fr) = k by omega, hxl'.out, hxc'.out]
          have e2 := pcs_some c (l.drop fr) (k - fr) (by rw [List.getElem?_drop]; exact e1) (fun i hi => by rw [List.getElem?_drop]; exact hno'.out (fr + i) (by omega) (by omega))
          refine ⟨k + 1, k + 1, out ++ [(l.drop fr).take (k - fr)], by omega, Nat.le_refl _, by rw [List.length_append, List.length_singleton]; omega, ?_, fun i h1 h2 => by omega, by go_num, by go_num, ?_, hbr.trans hbel2⟩
          · rw [hpc'.out, e2, List.drop_drop, show fr + (k - fr + 1) = k + 1 by omega]
            simp
          · rw [← toB_snoc _ _ _ (hext'.out fr k hf)]
            exact Own.app hown2 rfl
        case measure => simp [intOf]; omega
      · have t1 : ((x.toNat : Int) == (c.toNat : Int)) = false := by
          rw [beq_eq_false_iff_ne]
          exact fun e => hxc (UInt8.toNat_inj.1 (by omega))
        have hxc' := Lib.hid hxc
        clear hxc
        go_wp2_with fail
        go_roundw
        case rel =>
          exact ⟨k + 1, fr, out, by omega, by omega, by omega, hpc'.out, fun i h1 h2 => by
            by_cases hi : i = k
            · subst hi; rw [hxl'.out]; exact fun e => hxc'.out (Option.some.inj e)
            · exact hno'.out i h1 (by omega), by go_num, rfl, hown'.out, hbr⟩
        case measure => simp [intOf]; omega
    · have hks : k = s.size := by omega
      subst hks
      go_wp2_with (first
        | (at_builtin; refine wpList_app1 rfl _ _ 70 rfl strTy w.heap.size hown'.out rfl rfl rfl rfl (by rw [hol.out]; unfold maxLen; omega) (by rw [hol.out]; omega) (by omega) ?_; intro v' w1 hown2 hbel2 _)
        | fail)
      go_ret
      have e2 := pcs_none c (l.drop fr) (fun i => by
        rw [List.getElem?_drop]
        rcases Nat.lt_or_ge (fr + i) s.size with h | h
        · exact hno'.out (fr + i) (by omega) h
        · rw [List.getElem?_eq_none (by rw [hlen'.out]; omega)]
          exact fun e => by cases e)
      refine ⟨_, rfl, ?_, hbr.trans hbel2⟩
      rw [hpc'.out, e2, ← toB_snoc out (l.drop fr) (s.extract fr s.size) (by
        rw [hext'.out fr s.size hf, List.take_of_length_le (by rw [List.length_drop, hlen'.out]; omega)])]
      exact Own.app hown2 rfl

theorem rsplit_cells (s : ByteArray) (c : UInt8) (z : Int) (w : World) (hz : z = (c.toNat : Int)) (hs : s.size ≤ 1000000) :
    Calls Tryz.prog 25 #[.string s, .int .u8 z] w fun e w' => ∃ b cp, e = .returned (.slice (some ⟨b, 0, none⟩) (pcs c s.data.toList).length cp) ∧
      (∀ (j : Nat) x, (pcs c s.data.toList)[j]? = some x → w'.cell? ⟨b, j, none⟩ = some (.string ⟨x.toArray⟩)) ∧ ((pcs c s.data.toList).length ≤ cp ∧ cp ≤ maxLen) ∧ Below w.heap.size w w' :=
  (rsplit_any s c z w hz hs).mono fun e w' ⟨v, he, hown, hb⟩ => by
    subst he
    rcases hown.2 with ⟨rfl, h0⟩ | ⟨g, cap, cur, rfl, hg, hh, hcap, hmax, r⟩
    · rw [toB_len] at h0
      exact (pcs_ne _ _ (List.eq_nil_of_length_eq_zero h0)).elim
    · rw [toB_len] at hcap ⊢
      refine ⟨g, cap, rfl, fun j x hx => ?_, ⟨hcap, hmax⟩, hb⟩
      obtain ⟨A, c2, e1, _, _, hsl⟩ := hown.sl
      have hx2 : (toB (pcs c s.data.toList))[j]? = some ⟨x.toArray⟩ := by unfold toB; rw [List.getElem?_map, hx]; rfl
      obtain ⟨b, off, hA, _, hc⟩ := hsl j _ hx2
      injection e1 with e1 e2 e3
      rw [← e1] at hA
      injection hA with hA
      injection hA with h1 h2
      subst h1 h2
      have := hc 0 _ rfl
      simpa [strs, Enc.of1] using this

end Go.Proofs.YtfgmebjbibbpdaaGreatDoor

namespace Go.Proofs.YtfgmebjbibbpdaaGreatDoor
open Go.RowKit Go.Shelf
attribute [local go_sem] Oper.semAt_some

theorem numG_no {l : List UInt8} (h : ¬ (l.all digB = true ∧ l ≠ [] ∧ l.length ≤ 13)) : numG l = -1 := by unfold numG; rw [if_neg h]
theorem numG_yes {l : List UInt8} (h : l.all digB = true ∧ l ≠ [] ∧ l.length ≤ 13) : numG l = dv l := by unfold numG; rw [if_pos h]
theorem digNV_R (l : List UInt8) : digNV l = numR l := by
  by_cases h : l.all digB = true ∧ l.length ≤ 14
  · rw [digNV_yes h.1 h.2]; unfold numR; rw [if_pos h]
  · rw [digNV_no h]; unfold numR; rw [if_neg h]
set_option maxRecDepth 100000 in
set_option maxHeartbeats 1000000 in
theorem snumber_any (s : ByteArray) (w : World) :
    Calls Tryz.prog 90 #[.string s] w fun e w' => e = .returned (.int .i64 (numG s.data.toList)) ∧ Below w.heap.size w w' := by
  obtain ⟨l, hl⟩ : ∃ l, s.data.toList = l := ⟨_, rfl⟩
  have hlen : l.length = s.size := by rw [← hl]; exact Array.length_toList
  rw [hl]
  by_cases z : s.size = 0
  · have hn : numG l = -1 := numG_no (fun h => h.2.1 (List.eq_nil_of_length_eq_zero (by omega)))
    have t1 : ((s.size : Int) == 0) = true := by simp [z]
    have hn' := Lib.hid hn
    clear hn hl hlen
    go_enter Tryz.func90, Tryz.ntmps90
    go_wp2_with fail
    go_ret
    exact ⟨by rw [hn'.out]; rfl, Below.refl _ _⟩
  · have t1 : ((s.size : Int) == 0) = false := by rw [beq_eq_false_iff_ne]; omega
    by_cases z10 : 13 < s.size
    · have hn : numG l = -1 := numG_no (fun h => by have := h.2.2; omega)
      have t2 : decide ((13 : Int) < (s.size : Int)) = true := by rw [decide_eq_true_iff]; omega
      have hn' := Lib.hid hn
      clear hn hl hlen z z10
      go_enter Tryz.func90, Tryz.ntmps90
      go_wp2_with fail
      go_ret
      exact ⟨by rw [hn'.out]; rfl, Below.refl _ _⟩
    · have t2 : decide ((13 : Int) < (s.size : Int)) = false := by rw [decide_eq_false_iff_not]; omega
      have hcv := fun w => Lib.run_convert_string_bytes (P := Tryz.prog) w 9 48 5 s (u := .string) Tryz.underlying9 Tryz.underlying48 Tryz.underlying5
      have hcell : ∀ t, t < s.size → (Lib.bytesWorld w 5 s).cell? ⟨w.heap.size, t, none⟩ = some (.int .u8 (l.getD t 0).toNat) := fun t ht => by
        rw [← hl]; exact Lib.bytesWorld_cell w 5 s t ht
      have hbw : Below w.heap.size w (Lib.bytesWorld w 5 s) := Lib.bytesWorld_below w 5 s
      have hcell' := Lib.hid hcell
      have hcv' := Lib.hid hcv
      have hlen' := Lib.hid hlen
      clear hcell hcv hl hlen
      go_enter Tryz.func90, Tryz.ntmps90
      go_wp2_with fail
      rw [hcv'.out]
      simp only [Result.andThen]
      rw [Oper.upon_value]
      obtain ⟨W1, hW1⟩ : ∃ W1, W1 = Lib.bytesWorld w 5 s := ⟨_, rfl⟩
      rw [← hW1] at hcell' hbw ⊢
      have hws : W1.heap.size = w.heap.size + 1 := by rw [hW1]; exact Lib.bytesWorld_size w 5 s
      clear hW1
      go_wp2_with fail
      go_loopw [3, 17] (fun m j wr => ∃ k : Nat, k ≤ s.size ∧ j = .int .i64 k ∧ m = .int .i64 ((dv (l.take k) : Nat) : Int) ∧ (l.take k).all digB = true ∧ Below W1.heap.size W1 wr)
        (fun _ j _ => s.size - (intOf j).toNat)
      case atStart => exact ⟨0, Nat.zero_le _, rfl, by simp [dv], by simp, Below.refl _ _⟩
      case round =>
        obtain ⟨k, hk, rfl, rfl, hall, hbr⟩ := hrel
        have hmx := dv_lt hall
        have hp10 : (10 : Nat) ^ (l.take k).length ≤ 10 ^ 13 := Nat.pow_le_pow_right (by omega) (by rw [List.length_take]; omega)
        have hm10 : dv (l.take k) < 10000000000000 := by omega
        clear hmx hp10
        by_cases hlt : k < s.size
        · obtain ⟨x, hx⟩ := get_some (show k < l.length by rw [hlen'.out]; exact hlt)
          have hcx : wr.cell? ⟨w.heap.size, k, none⟩ = some (.int .u8 (x.toNat : Int)) := by
            rw [hbr.cell (p := ⟨w.heap.size, k, none⟩) (by rw [hws]; exact Nat.lt_succ_self _), hcell'.out k hlt, List.getD_eq_getElem?_getD, hx]
            rfl
          have hxt : x.toNat < 256 := UInt8.toNat_lt x
          have hstep := Lib.hid (take_snoc hx)
          have hx' := Lib.hid hx
          have hall' := Lib.hid hall
          clear hx hall
          by_cases hd : 48 ≤ x.toNat ∧ x.toNat ≤ 57
          · obtain ⟨hd1, hd2⟩ := hd
            have d1 : decide ((x.toNat : Int) < 48) = false := by rw [decide_eq_false_iff_not]; omega
            have d2 : decide ((57 : Int) < (x.toNat : Int)) = false := by rw [decide_eq_false_iff_not]; omega
            go_wp2_with fail
            go_roundw
            case rel => exact ⟨k + 1, by omega, by go_num, congrArg (Value.int .i64) (by rw [hstep.out, dv_snoc]; omega), by rw [hstep.out, List.all_append, hall'.out]; simp [digB, hd1, hd2], hbr⟩
            case measure => simp [intOf]; omega
          · have hnf' := Lib.hid (numG_no (l := l) (fun h => by
              have h1 := List.all_eq_true.1 h.1 x (List.mem_of_getElem? hx'.out)
              unfold digB at h1
              simp only [Bool.and_eq_true, decide_eq_true_eq] at h1
              exact hd h1))
            rcases d1 : decide ((x.toNat : Int) < 48) with _ | _
            · have d2 : decide ((57 : Int) < (x.toNat : Int)) = true := by
                have := of_decide_eq_false d1
                rw [decide_eq_true_iff]; omega
              go_wp2_with fail
              go_ret
              exact ⟨by rw [hnf'.out]; rfl, hbw.trans (hbr.mono (by omega))⟩
            · go_wp2_with fail
              go_ret
              exact ⟨by rw [hnf'.out]; rfl, hbw.trans (hbr.mono (by omega))⟩
        · have ht : l.take k = l := take_all (by rw [hlen'.out]; exact hlt)
          rw [ht] at hall hm10 ⊢
          have hnum' := Lib.hid (numG_yes (l := l) ⟨hall, (fun e => by rw [e] at hlen'; have := hlen'.out; simp at this; omega), by rw [hlen'.out]; omega⟩)
          clear hall ht
          go_wp2_with fail
          go_ret
          exact ⟨by rw [hnum'.out]; rfl, hbw.trans (hbr.mono (by omega))⟩

theorem intTy : ElemTy Tryz.prog 40 3 1 8 := ElemTy.of (z := .int .i64 0) Tryz.underlying40 (by kernel_rfl) rfl (by omega)
set_option maxRecDepth 100000 in
set_option maxHeartbeats 2000000 in
theorem snumbers_any (A : Option Addr) (c : Nat) (ps : List (List UInt8)) (w : World) (hn : ps.length ≤ 1000000) (hp : ∀ p ∈ ps, p.length ≤ 1000000) (hl : SlOf strs w w.heap.size A (toB ps)) :
    Calls Tryz.prog 71 #[.slice A ps.length c] w fun e w' => ∃ v, e = .returned v ∧ Own (ints .i64) 3 w.heap.size w' v (ps.map numG) ∧ Below w.heap.size w w' := by
  go_enter Tryz.func71, Tryz.ntmps71
  go_wp2_with fail
  go_loopw [3, 8] (fun v j wr => ∃ k : Nat, k ≤ ps.length ∧ j = .int .i64 k ∧ Own (ints .i64) 3 w.heap.size wr v ((ps.take k).map numG) ∧ Below w.heap.size w wr) (fun _ j _ => ps.length - (intOf j).toNat)
  case atStart => exact ⟨0, Nat.zero_le _, rfl, Own.nil _ _, Below.refl _ _⟩
  case round =>
    obtain ⟨k, hk, rfl, hown, hb⟩ := hrel
    by_cases hlt : k < ps.length
    · obtain ⟨x, hx⟩ := get_some hlt
      have hx2 : (toB ps)[k]? = some ⟨x.toArray⟩ := by unfold toB; rw [List.getElem?_map, hx]; rfl
      obtain ⟨b, off, rfl, hlb, hc⟩ := hl k _ hx2
      have hc' : wr.cell? ⟨b, off + k, none⟩ = some (.string ⟨x.toArray⟩) := (hb.cell (p := ⟨b, off + k, none⟩) hlb).trans (by have := hc 0 (.string ⟨x.toArray⟩) rfl; simpa [strs, Enc.of1] using this)
      have hxl := hp x (List.mem_of_getElem? hx)
      have hnm := fun W => snumber_any ⟨x.toArray⟩ W
      have hts := Lib.hid (show (ps.take (k + 1)).map numG = (ps.take k).map numG ++ [numG x] by rw [take_snoc hx, List.map_append]; rfl)
      have hlen := Lib.hid (show ((ps.take k).map numG).length = k by simp; omega)
      have HN := Lib.hid hnm
      have HO := Lib.hid hown
      have hbs := hb.size
      clear hx hx2 hc hnm hown hxl
      go_wp2_with fail
      refine (HN.out _).mono ?_
      rintro e w1 ⟨rfl, hb1⟩
      have hown1 := Lib.hid (Own.below HO.out hb1 (Nat.le_refl _))
      have hB1 := hb.trans (hb1.mono hbs)
      have hbs1 := hb1.size
      go_wp2_with (first
        | (at_builtin; refine wpList_app1 rfl _ _ 40 rfl intTy w.heap.size hown1.out rfl rfl rfl rfl (by rw [hlen.out]; unfold maxLen; omega) (by rw [hlen.out]; omega) (by omega) ?_; intro v' w2 hown2 hbel2 _)
        | fail)
      go_roundw
      case rel => exact ⟨k + 1, by omega, by go_num, by rw [hts.out]; exact Own.app hown2 (by rfl), hB1.trans hbel2⟩
      case measure => simp [intOf]; omega
    · have ht := take_all hlt
      rw [ht] at hown
      have HO := Lib.hid hown
      clear hown ht
      go_wp2_with fail
      go_ret
      exact ⟨_, rfl, HO.out, hb⟩
set_option maxRecDepth 100000 in
set_option maxHeartbeats 2000000 in
theorem rwhole_any (A : Option Addr) (c : Nat) (ps : List (List UInt8)) (w : World) (hn : ps.length ≤ 1000000) (hp : ∀ p ∈ ps, p.length ≤ 1000000) (hl : SlOf strs w w.heap.size A (toB ps)) :
    Calls Tryz.prog 49 #[.slice A ps.length c] w fun e w' => ∃ v, e = .returned v ∧ Own (ints .i64) 3 w.heap.size w' v (ps.map digNV) ∧ Below w.heap.size w w' := by
  go_enter Tryz.func49, Tryz.ntmps49
  go_wp2_with fail
  go_loopw [3, 8] (fun v j wr => ∃ k : Nat, k ≤ ps.length ∧ j = .int .i64 k ∧ Own (ints .i64) 3 w.heap.size wr v ((ps.take k).map digNV) ∧ Below w.heap.size w wr) (fun _ j _ => ps.length - (intOf j).toNat)
  case atStart => exact ⟨0, Nat.zero_le _, rfl, Own.nil _ _, Below.refl _ _⟩
  case round =>
    obtain ⟨k, hk, rfl, hown, hb⟩ := hrel
    by_cases hlt : k < ps.length
    · obtain ⟨x, hx⟩ := get_some hlt
      have hx2 : (toB ps)[k]? = some ⟨x.toArray⟩ := by unfold toB; rw [List.getElem?_map, hx]; rfl
      obtain ⟨b, off, rfl, hlb, hc⟩ := hl k _ hx2
      have hc' : wr.cell? ⟨b, off + k, none⟩ = some (.string ⟨x.toArray⟩) := (hb.cell (p := ⟨b, off + k, none⟩) hlb).trans (by have := hc 0 (.string ⟨x.toArray⟩) rfl; simpa [strs, Enc.of1] using this)
      have hxl := hp x (List.mem_of_getElem? hx)
      have hnm := fun W => rdigits_any ⟨x.toArray⟩ W (by show x.toArray.size ≤ _; simpa using hxl)
      have hts := Lib.hid (show (ps.take (k + 1)).map digNV = (ps.take k).map digNV ++ [digNV x] by rw [take_snoc hx, List.map_append]; rfl)
      have hlen := Lib.hid (show ((ps.take k).map digNV).length = k by simp; omega)
      have HN := Lib.hid hnm
      have HO := Lib.hid hown
      have hbs := hb.size
      clear hx hx2 hc hnm hown hxl
      go_wp2_with fail
      refine (HN.out _).mono ?_
      rintro e w1 ⟨rfl, hb1⟩
      have hown1 := Lib.hid (Own.below HO.out hb1 (Nat.le_refl _))
      have hB1 := hb.trans (hb1.mono hbs)
      have hbs1 := hb1.size
      go_wp2_with (first
        | (at_builtin; refine wpList_app1 rfl _ _ 40 rfl intTy w.heap.size hown1.out rfl rfl rfl rfl (by rw [hlen.out]; unfold maxLen; omega) (by rw [hlen.out]; omega) (by omega) ?_; intro v' w2 hown2 hbel2 _)
        | fail)
      go_roundw
      case rel => exact ⟨k + 1, by omega, by go_num, by rw [hts.out]; exact Own.app hown2 (by rfl), hB1.trans hbel2⟩
      case measure => simp [intOf]; omega
    · have ht := take_all hlt
      rw [ht] at hown
      have HO := Lib.hid hown
      clear hown ht
      go_wp2_with fail
      go_ret
      exact ⟨_, rfl, HO.out, hb⟩

end Go.Proofs.YtfgmebjbibbpdaaGreatDoor

namespace Go.Proofs.YtfgmebjbibbpdaaGreatDoor
open Go.RowKit

theorem splitK_ne (c b : UInt8) (l : List UInt8) (h : b ≠ c) (k : Nat) : Lib.splitK [c] 0 k (b :: l) = (b :: (Lib.splitK [c] 0 k l).headD []) :: (Lib.splitK [c] 0 k l).tail := by
  cases k with
  | zero => rfl
  | succ k =>
    have hp : ([c] : List UInt8).isPrefixOf (b :: l) = false := by
      simp [List.isPrefixOf]
      exact fun e => h e.symm
    have hidx : Lib.index (b :: l) [c] = if Lib.index l [c] == -1 then -1 else Lib.index l [c] + 1 := by
      rw [Lib.index, hp]
      rfl
    unfold Lib.splitK
    rw [hidx]
    by_cases hi : Lib.index l [c] = -1
    · rw [hi]
      rfl
    · have h1 : ¬ (Lib.index l [c] == -1) = true := fun e => hi (beq_iff_eq.1 e)
      have h0 : 0 ≤ Lib.index l [c] := by
        have := Lib.index_ge l [c]
        omega
      have h2 : ¬ (Lib.index l [c] + 1 == -1) = true := fun e => by have := beq_iff_eq.1 e; omega
      have e2 : (Lib.index l [c] + 1).toNat = (Lib.index l [c]).toNat + 1 := by omega
      rw [if_neg h1, if_neg h2, if_neg h1, e2]
      simp
theorem split_pcs (c : UInt8) (l : List UInt8) : Lib.split l [c] = pcs c l := by
  unfold Lib.split
  rw [Lib.count_one]
  induction l with
  | nil => rfl
  | cons b l ih =>
    unfold pcs
    by_cases h : b = c
    · subst h
      rw [if_pos rfl, List.count_cons_self]
      have hp : ([b] : List UInt8).isPrefixOf (b :: l) = true := by simp [List.isPrefixOf]
      have hi : Lib.index (b :: l) [b] = 0 := by unfold Lib.index; rw [hp, if_pos rfl]
      unfold Lib.splitK
      rw [hi, if_neg (by decide), ← ih]
      simp
    · rw [if_neg h, List.count_cons_of_ne h, splitK_ne c b l h, ih]
theorem split_cells (c : UInt8) (s : ByteArray) : Lib.splitB ⟨#[c]⟩ 0 (Lib.countB s ⟨#[c]⟩) s = (pcs c s.data.toList).map fun p => ⟨p.toArray⟩ := by
  have h := Lib.splitB_data ⟨#[c]⟩ 0 (Lib.countB s ⟨#[c]⟩) s
  have e : Lib.countB s ⟨#[c]⟩ = Lib.count s.data.toList [c] := rfl
  rw [← split_pcs, Lib.split, ← e]
  have h2 : (Lib.splitK [c] 0 (Lib.countB s ⟨#[c]⟩) s.data.toList) = (Lib.splitB ⟨#[c]⟩ 0 (Lib.countB s ⟨#[c]⟩) s).map (·.data.toList) := h.symm
  rw [h2, List.map_map]
  conv => lhs; rw [← List.map_id (Lib.splitB ⟨#[c]⟩ 0 (Lib.countB s ⟨#[c]⟩) s)]
  refine List.map_congr_left fun x _ => ?_
  rfl

end Go.Proofs.YtfgmebjbibbpdaaGreatDoor

namespace Go.Proofs.YtfgmebjbibbpdaaGreatDoor
open Go.RowKit Go.Lib

def Mx (w : World) : Prop := ∃ m, w.cell? ⟨0, 0, none⟩ = some (.int .i64 m)
theorem Mx.below {w w' : World} (h : Mx w) (hb : Below w.heap.size w w') : Mx w' := by
  obtain ⟨m, hm⟩ := h
  exact ⟨m, (hb.cell (p := ⟨0, 0, none⟩) (cell_lt hm)).trans hm⟩
theorem split_any (s : ByteArray) (c : UInt8) (w : World) (hM : Mx w) (hs : s.size ≤ 1000000) :
    Calls Tryz.prog 70 #[.string s, .string ⟨#[c]⟩] w fun e w' => e = .returned (.slice (some ⟨w.heap.size, 0, none⟩) (pcs c s.data.toList).length (pcs c s.data.toList).length) ∧
      (∀ (j : Nat) x, (pcs c s.data.toList)[j]? = some x → w'.cell? ⟨w.heap.size, j, none⟩ = some (.string ⟨x.toArray⟩)) ∧ Below w.heap.size w w' := by
  obtain ⟨m, hm⟩ := hM
  have hc : (pcs c s.data.toList).length = Lib.countB s ⟨#[c]⟩ + 1 := by
    have := Lib.splitB_all ⟨#[c]⟩ (Nat.le_refl 1) 0 _ s rfl
    rw [split_cells, List.length_map] at this
    exact this
  refine (Tryz.strings_Split s ⟨#[c]⟩ m w (by omega) hm (Nat.le_refl 1)).mono ?_
  rintro e w' ⟨rfl, rfl⟩
  refine ⟨by rw [hc], fun j x hx => ?_, (Below.refl _ w).alloc (Nat.le_refl _) _⟩
  have h1 := cells_new w ((Lib.splitB ⟨#[c]⟩ 0 (Lib.countB s ⟨#[c]⟩) s).map Value.string).toArray 9 j
  rw [Addr.add_lit, Nat.zero_add] at h1
  rw [h1, split_cells, List.getElem?_toArray, List.getElem?_map, List.getElem?_map, hx]
  rfl
theorem index_any (b n : Nat) (zs : List ByteArray) (x : ByteArray) (w : World) (hn : n = zs.length) (hbig : zs.length ≤ 1000000) (hc : ∀ (j : Nat) z, zs[j]? = some z → w.cell? ⟨b, j, none⟩ = some (.string z)) :
    Calls Tryz.prog 72 #[.slice (some ⟨b, 0, none⟩) n n, .string x] w fun e w' => e = .returned (.int .i64 (Lib.idxOfS zs x)) ∧ w' = w := by
  subst hn
  have h := Tryz.slices_Index_string b 0 zs.length zs.length zs x w (Nat.le_refl _) (by omega) (fun j hj => by
    rw [Nat.zero_add]
    exact hc j _ (by rw [List.getD_eq_getElem?_getD, List.getElem?_eq_getElem hj]; rfl))
  rw [List.take_length] at h
  exact h

end Go.Proofs.YtfgmebjbibbpdaaGreatDoor

namespace Go.Proofs.YtfgmebjbibbpdaaGreatDoor
open Go.RowKit
attribute [local go_sem] Oper.semAt_some

theorem row_set7 {w : World} {b : Nat} {t : TypeId} (a0 a1 a2 a3 a4 a5 a6 : Value) (v0 v1 v2 v3 v4 v5 v6 : Value) (h : RowB w b #[a0, a1, a2, a3, a4, a5, a6] t) : RowB (((((((w.setCell ⟨b, 0, none⟩ v0).setCell ⟨b, 1, none⟩ v1).setCell ⟨b, 2, none⟩ v2).setCell ⟨b, 3, none⟩ v3).setCell ⟨b, 4, none⟩ v4).setCell ⟨b, 5, none⟩ v5).setCell ⟨b, 6, none⟩ v6) b #[v0, v1, v2, v3, v4, v5, v6] t := by
  have h7 := ((((((h.set 0 v0).set 1 v1).set 2 v2).set 3 v3).set 4 v4).set 5 v5).set 6 v6
  simp only [List.setIfInBounds_toArray, List.set_cons_zero, List.set_cons_succ] at h7
  exact h7
theorem below_s7 {N : Nat} {w0 w : World} (h : Below N w0 w) (b : Nat) (hb : N ≤ b) (v0 v1 v2 v3 v4 v5 v6 : Value) : Below N w0 (((((((w.setCell ⟨b, 0, none⟩ v0).setCell ⟨b, 1, none⟩ v1).setCell ⟨b, 2, none⟩ v2).setCell ⟨b, 3, none⟩ v3).setCell ⟨b, 4, none⟩ v4).setCell ⟨b, 5, none⟩ v5).setCell ⟨b, 6, none⟩ v6) :=
  below_set1 (below_set1 (below_set1 (below_set1 (below_set1 (below_set1 (below_set1 h b 0 hb _) b 1 hb _) b 2 hb _) b 3 hb _) b 4 hb _) b 5 hb _) b 6 hb _
theorem cell_set7 (w : World) (b : Nat) (v0 v1 v2 v3 v4 v5 v6 : Value) (m j : Nat) (h : m ≠ b) : (((((((w.setCell ⟨b, 0, none⟩ v0).setCell ⟨b, 1, none⟩ v1).setCell ⟨b, 2, none⟩ v2).setCell ⟨b, 3, none⟩ v3).setCell ⟨b, 4, none⟩ v4).setCell ⟨b, 5, none⟩ v5).setCell ⟨b, 6, none⟩ v6).cell? ⟨m, j, none⟩ = w.cell? ⟨m, j, none⟩ := by
  have hk : ∀ (W : World) (i : Nat) (v : Value), (W.setCell ⟨b, i, none⟩ v).cell? ⟨m, j, none⟩ = W.cell? ⟨m, j, none⟩ := fun W i v => World.cell?_setCell_far W ⟨b, i, none⟩ ⟨m, j, none⟩ v (fun e => h e.symm)
  rw [hk, hk, hk, hk, hk, hk, hk]
theorem row_set7_far {w : World} {b m : Nat} {arr : Array Value} {t : TypeId} (h : RowB w m arr t) (hm : m ≠ b) (v0 v1 v2 v3 v4 v5 v6 : Value) : RowB (((((((w.setCell ⟨b, 0, none⟩ v0).setCell ⟨b, 1, none⟩ v1).setCell ⟨b, 2, none⟩ v2).setCell ⟨b, 3, none⟩ v3).setCell ⟨b, 4, none⟩ v4).setCell ⟨b, 5, none⟩ v5).setCell ⟨b, 6, none⟩ v6) m arr t :=
  ((((((h.other b 0 v0 hm).other b 1 v1 hm).other b 2 v2 hm).other b 3 v3 hm).other b 4 v4 hm).other b 5 v5 hm).other b 6 v6 hm
def tkR (kd pr pe off dl ow : Int) : Array Value := #[.int .i64 kd, .int .i64 pr, .int .i64 pe, .int .i64 off, .int .i64 dl, .int .i64 ow, .slice none 0 0]
theorem res_rhead (tmps : Array Value) (w : World) {b : Nat} {kd pr pe off dl ow : Int} {x : Bool} (ha : tmps[2]?.getD undef = .pointer (some ⟨b, 0, none⟩)) (hx : tmps[3]?.getD undef = .bool x) (hbox : RowB w b (tkR kd pr pe off dl ow) 46) :
    (results Tryz.f45 tmps).run Tryz.prog w = .ok (.tuple #[.agg (tkR kd pr pe off dl ow), .bool x]) w := by
  have h0 := hbox.cell 0
  have h1 := hbox.cell 1
  have h2 := hbox.cell 2
  have h3 := hbox.cell 3
  have h4 := hbox.cell 4
  have h5 := hbox.cell 5
  have h6 := hbox.cell 6
  simp only [tkR, List.getElem?_toArray, List.getElem?_cons_zero, List.getElem?_cons_succ] at h0 h1 h2 h3 h4 h5 h6
  simp [results, ha, hx, h0, h1, h2, h3, h4, h5, h6, go_sem, tkR]
/-- What the region keeps. -/
def RtS (w5 : World) (lb : Nat) (x1 : ByteArray) (g off : Nat) (n0 n1 n2 n3 n4 : Int) (w' : World) : Prop :=
  Below w5.heap.size w5 w' ∧ w'.cell? ⟨lb, 1, none⟩ = some (.string x1) ∧ w'.cell? ⟨g, off, none⟩ = some (.int .i64 n0) ∧ w'.cell? ⟨g, off + 1, none⟩ = some (.int .i64 n1) ∧ w'.cell? ⟨g, off + 2, none⟩ = some (.int .i64 n2) ∧ w'.cell? ⟨g, off + 3, none⟩ = some (.int .i64 n3) ∧ w'.cell? ⟨g, off + 4, none⟩ = some (.int .i64 n4)
theorem RtS.below {w5 w w' : World} {lb g off : Nat} {x1 : ByteArray} {n0 n1 n2 n3 n4 : Int} (h : RtS w5 lb x1 g off n0 n1 n2 n3 n4 w) (hb : Below w.heap.size w w') : RtS w5 lb x1 g off n0 n1 n2 n3 n4 w' := by
  obtain ⟨h1, h2, h3, h4, h5, h6, h7⟩ := h
  have key : ∀ {p : Addr} {u : Value}, w.cell? p = some u → w'.cell? p = some u := fun {p u} hc => (hb.cell (p := p) (cell_lt hc)).trans hc
  exact ⟨h1.trans (hb.mono h1.size), key h2, key h3, key h4, key h5, key h6, key h7⟩
def RtS2 (w5 : World) (lb : Nat) (x1 : ByteArray) (g off : Nat) (n0 n1 n2 n3 n4 : Int) (nb : Nat) (w' : World) : Prop := RtS w5 lb x1 g off n0 n1 n2 n3 n4 w' ∧ ∃ kd pr pe o dl ow, RowB w' nb (tkR kd pr pe o dl ow) 46
theorem RtS.set7 {w5 w : World} {lb g off nb : Nat} {x1 : ByteArray} {n0 n1 n2 n3 n4 : Int} (h : RtS w5 lb x1 g off n0 n1 n2 n3 n4 w) (hn : w5.heap.size ≤ nb) (hl : lb < w5.heap.size) (hg : g < w5.heap.size) (v0 v1 v2 v3 v4 v5 v6 : Value) : RtS w5 lb x1 g off n0 n1 n2 n3 n4 (((((((w.setCell ⟨nb, 0, none⟩ v0).setCell ⟨nb, 1, none⟩ v1).setCell ⟨nb, 2, none⟩ v2).setCell ⟨nb, 3, none⟩ v3).setCell ⟨nb, 4, none⟩ v4).setCell ⟨nb, 5, none⟩ v5).setCell ⟨nb, 6, none⟩ v6) := by
  obtain ⟨h1, h2, h3, h4, h5, h6, h7⟩ := h
  refine ⟨below_s7 h1 nb hn _ _ _ _ _ _ _, ?_, ?_, ?_, ?_, ?_, ?_⟩
  · rw [cell_set7 _ _ _ _ _ _ _ _ _ _ _ (by omega)]; exact h2
  all_goals (rw [cell_set7 _ _ _ _ _ _ _ _ _ _ _ (by omega)]; assumption)
theorem numG_bd (l : List UInt8) : -1 ≤ numG l ∧ numG l < 10000000000000 := by
  by_cases h : l.all digB = true ∧ l ≠ [] ∧ l.length ≤ 13
  · rw [numG_yes h]
    have h1 := dv_lt h.1
    have h2 : (10 : Nat) ^ l.length ≤ 10 ^ 13 := Nat.pow_le_pow_right (by omega) h.2.2
    omega
  · rw [numG_no h]; omega
theorem idx_from (ws : List (List UInt8)) (x : List UInt8) : ∀ (l : List (List UInt8)) (i : Nat), Lib.idxFromS (l.map fun p => (⟨p.toArray⟩ : ByteArray)) ⟨x.toArray⟩ i = match l.findIdx? fun z => z == x with
    | some k => ((i + k : Nat) : Int)
    | none => -1
  | [], i => rfl
  | z :: l, i => by
    rw [List.map_cons, Lib.idxFromS, List.findIdx?_cons, idx_from ws x l (i + 1)]
    by_cases h : z = x
    · subst h
      rw [if_pos rfl, if_pos (by simp)]
      simp
    · rw [if_neg (fun e => h (by injection e with e; exact congrArg Array.toList e)), if_neg (by simp [h])]
      cases l.findIdx? fun z => z == x with
      | none => rfl
      | some k =>
        show ((i + 1 + k : Nat) : Int) = ((i + (k + 1) : Nat) : Int)
        rw [show i + 1 + k = i + (k + 1) by omega]
theorem idx_F (ws : List (List UInt8)) (x : List UInt8) : Lib.idxOfS (ws.map fun p => (⟨p.toArray⟩ : ByteArray)) ⟨x.toArray⟩ = idxF ws x := by
  have := idx_from ws x ws 0
  unfold Lib.idxOfS idxF
  rw [this]
  cases ws.findIdx? fun z => z == x with
  | none => rfl
  | some k => simp
theorem pcs_mem (c : UInt8) (l : List UInt8) : ∀ x ∈ pcs c l, x.length ≤ l.length := by
  induction l with
  | nil => intro x hx; simp [pcs] at hx; simp [hx]
  | cons a l ih =>
    intro x hx
    have hh : ((pcs c l).headD []).length ≤ l.length := by
      cases h : pcs c l with
      | nil => simp
      | cons y r => exact ih y (by rw [h]; simp)
    unfold pcs at hx
    split at hx
    · rcases List.mem_cons.1 hx with rfl | hx
      · simp
      · have := ih x hx
        rw [List.length_cons]; omega
    · rcases List.mem_cons.1 hx with rfl | hx
      · simp only [List.length_cons]; omega
      · have := ih x (List.mem_of_mem_tail hx)
        rw [List.length_cons]; omega
theorem sl_strs {w : World} {B b off : Nat} {ps : List (List UInt8)} (hb : b < B) (hc : ∀ (j : Nat) x, ps[j]? = some x → w.cell? ⟨b, off + j, none⟩ = some (.string ⟨x.toArray⟩)) : SlOf strs w B (some ⟨b, off, none⟩) (toB ps) := fun k p hk => by
  unfold toB at hk
  rw [List.getElem?_map] at hk
  cases h : ps[k]? with
  | none => rw [h] at hk; cases hk
  | some x =>
    rw [h] at hk
    have hp : p = ⟨x.toArray⟩ := (Option.some.inj hk).symm
    subst hp
    refine ⟨b, off, rfl, hb, fun j u hj => ?_⟩
    cases j with
    | zero =>
      have : u = .string ⟨x.toArray⟩ := by simpa [strs, Enc.of1] using hj.symm
      subst this
      simpa [strs, Enc.of1] using hc k x h
    | succ j => simp [strs, Enc.of1] at hj
theorem tkKd_bd (w : List UInt8) : 0 ≤ tkKd w ∧ tkKd w ≤ 2 := by
  unfold tkKd idxF
  simp only [List.findIdx?_cons, List.findIdx?_nil]
  cases (perW == w) <;> cases (spoW == w) <;> simp
theorem tkKd_idx (x : List UInt8) : Lib.idxOfS [⟨#[112, 101, 114, 105, 111, 100, 105, 99]⟩, ⟨#[115, 112, 111, 114, 97, 100, 105, 99]⟩] ⟨x.toArray⟩ + 1 = tkKd x := by
  unfold tkKd
  rw [← idx_F]
  rfl
/-- What reading a first line answers. -/
def RHeadR (l : List UInt8) (w : World) (e : Ending) (w' : World) : Prop := ∃ kd pr pe off dl ow : Int, e = .returned (.tuple #[.agg (tkR kd pr pe off dl ow), .bool (readTG l).isSome]) ∧ (∀ t, readTG l = some t → t = ⟨kd, pr, pe, off, dl, ow, []⟩) ∧ Below w.heap.size w w'
set_option maxRecDepth 100000 in
set_option maxHeartbeats 800000 in
theorem srhead_any (s : ByteArray) (w : World) (hs : s.size ≤ 1000000) (hT : Tab w) (hM : Mx w) :
    Calls Tryz.prog 45 #[.string s] w (RHeadR s.data.toList w) := by
  obtain ⟨l, hl⟩ : ∃ l, s.data.toList = l := ⟨_, rfl⟩
  have hlen : l.length = s.size := by rw [← hl]; exact Array.length_toList
  obtain ⟨q, hq⟩ : ∃ q, pcs 32 l = q := ⟨_, rfl⟩
  have hsp := fun W hM => split_any s 32 W hM hs
  have hqs : ∀ x ∈ q, x.length ≤ 1000000 := fun x hx => by
    have := pcs_mem 32 l x (by rw [hq]; exact hx)
    omega
  rw [hl] at hsp ⊢
  rw [hq] at hsp
  by_cases h7 : q.length = 7
  · obtain ⟨x0, x1, x2, x3, x4, x5, x6, rfl⟩ : ∃ x0 x1 x2 x3 x4 x5 x6, q = [x0, x1, x2, x3, x4, x5, x6] := by
      match q, h7 with
      | [a, b, c, d, e, f, g], _ => exact ⟨a, b, c, d, e, f, g, rfl⟩
    have HRD : readTG l = if headB1 ⟨tkKd x1, numG x2, numG x3, numG x4, numG x5, numG x6, []⟩ = true ∧ headL ⟨tkKd x1, numG x2, numG x3, numG x4, numG x5, numG x6, []⟩ = l then some ⟨tkKd x1, numG x2, numG x3, numG x4, numG x5, numG x6, []⟩ else none := by
      unfold readTG
      rw [hq]
      simp [headC]
    have hkb := tkKd_bd x1
    have hki := tkKd_idx x1
    obtain ⟨KI, hKI⟩ : ∃ x, Lib.idxOfS [⟨#[112, 101, 114, 105, 111, 100, 105, 99]⟩, ⟨#[115, 112, 111, 114, 97, 100, 105, 99]⟩] ⟨x1.toArray⟩ = x := ⟨_, rfl⟩
    rw [hKI] at hki
    rw [← hki] at HRD hkb
    have HEW := Lib.hid (show IntKind.i64.wrap (KI + 1) = KI + 1 by simp [IntKind.wrap, IntKind.signed, IntKind.bits]; omega)
    have HKI := Lib.hid hKI
    have hRD := Lib.hid HRD
    clear hKI hki
    have hQS := Lib.hid hqs
    have hl' := Lib.hid hl
    have hsp' := Lib.hid hsp
    clear hsp hq hl hqs h7 HRD
    go_enter Tryz.func45, Tryz.ntmps45
    go_wp2_with fail
    have hnew := RowB.new w (tkR 0 0 0 0 0 0) 46
    have hb0 := (Below.refl w.heap.size w).alloc (Nat.le_refl _) (.cells (tkR 0 0 0 0 0 0) 46)
    obtain ⟨w0, hw0⟩ : ∃ x, w.alloc (.cells (tkR 0 0 0 0 0 0) 46) = x := ⟨_, rfl⟩
    rw [hw0] at hnew hb0
    unfold tkR at hw0
    rw [hw0]
    have hs0 : w0.heap.size = w.heap.size + 1 := by rw [← hw0, World.size_alloc]
    obtain ⟨n, hn⟩ : ∃ n, w.heap.size = n := ⟨_, rfl⟩
    rw [hn] at hnew hb0 hs0 ⊢
    refine (hsp'.out _ (hM.below (by rw [hn]; exact hb0))).mono ?_
    rintro e w1 ⟨rfl, hc1, hb1⟩
    have hbox1 := Lib.hid (hnew.kept hb1)
    have hB1 := Lib.hid (hb0.trans (hb1.mono (by have := hb0.size; omega)))
    rw [hs0] at hc1
    have HT1 := Lib.hid (show Tab w1 from hT.below (by rw [hn]; exact hB1.out))
    have HC1 := Lib.hid hc1
    have hlb : n + 1 < w1.heap.size := cell_lt (hc1 0 x0 rfl)
    rw [hs0]
    clear hnew hb0 hw0 hb1 hc1 hT hM hs0
    have hk := tkinds_any w1
    unfold tkA at hk
    have HK := Lib.hid hk
    clear hk
    go_wp2_with fail
    refine HK.out.mono ?_
    rintro e w2 ⟨rfl, hb2⟩
    have hkn := RowB.new w2 #[.string ⟨#[]⟩, .string ⟨#[112, 101, 114, 105, 111, 100, 105, 99]⟩, .string ⟨#[115, 112, 111, 114, 97, 100, 105, 99]⟩] 102
    have hb3 := hb2.trans ((Below.refl w2.heap.size w2).alloc (Nat.le_refl _) (.cells #[.string ⟨#[]⟩, .string ⟨#[112, 101, 114, 105, 111, 100, 105, 99]⟩, .string ⟨#[115, 112, 111, 114, 97, 100, 105, 99]⟩] 102) |>.mono hb2.size)
    go_wp2_with fail
    obtain ⟨w3, hw3⟩ : ∃ x, w2.alloc (.cells #[.string ⟨#[]⟩, .string ⟨#[112, 101, 114, 105, 111, 100, 105, 99]⟩, .string ⟨#[115, 112, 111, 114, 97, 100, 105, 99]⟩] 102) = x := ⟨_, rfl⟩
    obtain ⟨kb, hkb⟩ : ∃ x, w2.heap.size = x := ⟨_, rfl⟩
    rw [hw3] at hkn hb3 ⊢
    rw [hkb] at hkn ⊢
    have hsl := Lib.hid (sl_strs (w := w3) (B := w3.heap.size) (b := n + 1) (off := 2) (ps := [x2, x3, x4, x5, x6]) (by have := hb3.size; omega) (fun j x hj => by
      rw [Nat.add_comm 2 j]
      exact (hb3.cell (p := ⟨n + 1, j + 2, none⟩) hlb).trans (HC1.out (j + 2) x hj)))
    refine (snumbers_any (some ⟨n + 1, 2, none⟩) 5 [x2, x3, x4, x5, x6] w3 (by simp) (fun p hp => hQS.out p (List.mem_cons_of_mem _ (List.mem_cons_of_mem _ hp))) hsl.out).mono ?_
    rintro e w4 ⟨v, rfl, hown, hb4⟩
    obtain ⟨g0, c', rfl, hcl, hne, hnl⟩ := hown.sl
    obtain ⟨g, off, rfl, hg, hg0⟩ := hnl 0 (numG x2) rfl
    have m0 : w4.cell? ⟨g, off, none⟩ = some (.int .i64 (numG x2)) := by simpa [ints, Enc.of1] using hg0 0 _ rfl
    have m1 : w4.cell? ⟨g, off + 1, none⟩ = some (.int .i64 (numG x3)) := by
      obtain ⟨g', off', he, _, hg1⟩ := hnl 1 (numG x3) rfl
      injection he with he
      injection he with he1 he2 he3
      subst he1 he2
      simpa [ints, Enc.of1] using hg1 0 _ rfl
    have m2 : w4.cell? ⟨g, off + 2, none⟩ = some (.int .i64 (numG x4)) := by
      obtain ⟨g', off', he, _, hg1⟩ := hnl 2 (numG x4) rfl
      injection he with he
      injection he with he1 he2 he3
      subst he1 he2
      simpa [ints, Enc.of1] using hg1 0 _ rfl
    have m3 : w4.cell? ⟨g, off + 3, none⟩ = some (.int .i64 (numG x5)) := by
      obtain ⟨g', off', he, _, hg1⟩ := hnl 3 (numG x5) rfl
      injection he with he
      injection he with he1 he2 he3
      subst he1 he2
      simpa [ints, Enc.of1] using hg1 0 _ rfl
    have m4 : w4.cell? ⟨g, off + 4, none⟩ = some (.int .i64 (numG x6)) := by
      obtain ⟨g', off', he, _, hg1⟩ := hnl 4 (numG x6) rfl
      injection he with he
      injection he with he1 he2 he3
      subst he1 he2
      simpa [ints, Enc.of1] using hg1 0 _ rfl
    have hkn4 := Lib.hid (hkn.kept hb4)
    have hB4 := Lib.hid (hB1.out.trans ((hb3.trans (hb4.mono hb3.size)).mono (by omega)))
    have hbox4 := Lib.hid ((hbox1.out.kept hb3).kept hb4)
    have HT4 := Lib.hid ((HT1.out.below hb3).below hb4)
    have o1 : w4.cell? ⟨n + 1, 1, none⟩ = some (.string ⟨x1.toArray⟩) := (hb4.cell (p := ⟨n + 1, 1, none⟩) (show n + 1 < w3.heap.size by have := hb3.size; omega)).trans ((hb3.cell (p := ⟨n + 1, 1, none⟩) hlb).trans (HC1.out 1 x1 rfl))
    have hRt := Lib.hid (show RtS w4 (n + 1) ⟨x1.toArray⟩ g off (numG x2) (numG x3) (numG x4) (numG x5) (numG x6) w4 from ⟨Below.refl _ _, o1, m0, m1, m2, m3, m4⟩)
    have hcc : 5 ≤ c' := hcl.1
    have hnb4 : n < w4.heap.size := by have := hbox4.out.lt; exact this
    have hlb4 : n + 1 < w4.heap.size := cell_lt o1
    have hgb4 : g < w4.heap.size := hg
    clear hown hcl hne hnl hg hg0 hb3 hb4 hkn hb2 hw3 hkb m0 m1 m2 m3 m4 o1 hlb hsl
    go_wp2_with fail
    have HIX := Lib.hid (show ∀ W, Below w4.heap.size w4 W → Calls Tryz.prog 72 #[.slice (some ⟨kb, 1, none⟩) 2 2, .string ⟨x1.toArray⟩] W fun e w' => e = .returned (.int .i64 KI) ∧ w' = W from fun W hW => by
      have h := Tryz.slices_Index_string kb 1 2 2 [⟨#[112, 101, 114, 105, 111, 100, 105, 99]⟩, ⟨#[115, 112, 111, 114, 97, 100, 105, 99]⟩] ⟨x1.toArray⟩ W (by decide) (by decide) (fun j hj => by
        have hk := hkn4.out.below hW hkn4.out.lt
        match j, hj with
        | 0, _ => exact (hk.cell 1).trans rfl
        | 1, _ => exact (hk.cell 2).trans rfl)
      rw [show List.take 2 [(⟨#[112, 101, 114, 105, 111, 100, 105, 99]⟩ : ByteArray), ⟨#[115, 112, 111, 114, 97, 100, 105, 99]⟩] = [⟨#[112, 101, 114, 105, 111, 100, 105, 99]⟩, ⟨#[115, 112, 111, 114, 97, 100, 105, 99]⟩] from rfl, HKI.out] at h
      exact h)
    have hSd : RtS w4 (n + 1) ⟨x1.toArray⟩ g off (numG x2) (numG x3) (numG x4) (numG x5) (numG x6) w4.drew := hRt.out.below (Below.refl _ w4).drew
    refine wp_region_held_drew (S := (fun w' : World => Below w4.heap.size w4 w' ∧ w'.cell? ⟨n + 1, 1, none⟩ = some (.string ⟨x1.toArray⟩) ∧ w'.cell? ⟨g, off, none⟩ = some (.int .i64 (numG x2)) ∧ w'.cell? ⟨g, off + 1, none⟩ = some (.int .i64 (numG x3)) ∧ w'.cell? ⟨g, off + 2, none⟩ = some (.int .i64 (numG x4)) ∧ w'.cell? ⟨g, off + 3, none⟩ = some (.int .i64 (numG x5)) ∧ w'.cell? ⟨g, off + 4, none⟩ = some (.int .i64 (numG x6)))) (by kernel_rfl) hSd (fun hHeld => ?_)
    generalize w4.drew = wz at hSd hHeld ⊢
    have hHeld : (fun w' : World => Below w4.heap.size w4 w' ∧ w'.cell? ⟨n + 1, 1, none⟩ = some (.string ⟨x1.toArray⟩) ∧ w'.cell? ⟨g, off, none⟩ = some (.int .i64 (numG x2)) ∧ w'.cell? ⟨g, off + 1, none⟩ = some (.int .i64 (numG x3)) ∧ w'.cell? ⟨g, off + 2, none⟩ = some (.int .i64 (numG x4)) ∧ w'.cell? ⟨g, off + 3, none⟩ = some (.int .i64 (numG x5)) ∧ w'.cell? ⟨g, off + 4, none⟩ = some (.int .i64 (numG x6))) wz := hHeld
    refine tkH 0 ?_
    try first | simp only [pS, List.set] | simp only [pN]
    refine tkH 1 ?_
    try first | simp only [pS, List.set] | simp only [pN]
    refine tkH 6 ?_
    try first | simp only [pS, List.set] | simp only [pN]
    refine tkH 9 ?_
    try first | simp only [pS, List.set] | simp only [pN]
    refine tkH 12 ?_
    try first | simp only [pS, List.set] | simp only [pN]
    refine tkH 15 ?_
    try first | simp only [pS, List.set] | simp only [pN]
    refine tkH 18 ?_
    try first | simp only [pS, List.set] | simp only [pN]
    refine tkH 2 ?_
    try first | simp only [pS, List.set] | simp only [pN]
    refine tkH 7 ?_
    try first | simp only [pS, List.set] | simp only [pN]
    refine tkH 10 ?_
    try first | simp only [pS, List.set] | simp only [pN]
    refine tkH 13 ?_
    try first | simp only [pS, List.set] | simp only [pN]
    refine tkH 16 ?_
    try first | simp only [pS, List.set] | simp only [pN]
    refine tkH 19 ?_
    try first | simp only [pS, List.set] | simp only [pN]
    refine tkH 3 ?_
    try first | simp only [pS, List.set] | simp only [pN]
    refine tkH 8 ?_
    try first | simp only [pS, List.set] | simp only [pN]
    refine tkH 11 ?_
    try first | simp only [pS, List.set] | simp only [pN]
    refine tkH 14 ?_
    try first | simp only [pS, List.set] | simp only [pN]
    refine tkH 17 ?_
    try first | simp only [pS, List.set] | simp only [pN]
    refine tkH 20 ?_
    try first | simp only [pS, List.set] | simp only [pN]
    refine wpAnyH_ready (rs := [4, 22]) (by kernel_rfl) (by simp) ?_
    refine AllReadyH.cons (o := ?_) ?_ (fun K hK => ?_) ?_
    rotate_left
    · (simp only [List.getElem?_toArray, List.getElem?_cons_succ, List.getElem?_cons_zero]; rfl)
    · go_simp
      go_at_call 72
      refine (HIX.out _ hHeld.1).mono ?_
      rintro e wx ⟨rfl, hwx⟩
      have hwy := hwx.symm
      clear hwx
      subst hwy
      have hSx := hHeld
      refine hK.out _ _ hSx (fun hHeld => ?_)
      clear hK K
      try first | simp only [pS, List.set] | simp only [pN]
      refine tkH 5 ?_
      try first | simp only [pS, List.set] | simp only [pN]
      refine tkH 21 ?_
      try first | simp only [pS, List.set] | simp only [pN]
      refine wpAnyH_ready (rs := [22]) (by kernel_rfl) (by simp) ?_
      refine AllReadyH.cons (o := ?_) ?_ (fun K hK => ?_) AllReadyH.nil
      rotate_left
      · (simp only [List.getElem?_toArray, List.getElem?_cons_succ, List.getElem?_cons_zero]; rfl)
      go_simp
      have hnew := RowB.new (wz) (tkR 0 0 0 0 0 0) 46
      have hsz := hHeld.1.size
      have hSx := RtS.below (show RtS w4 (n + 1) ⟨x1.toArray⟩ g off (numG x2) (numG x3) (numG x4) (numG x5) (numG x6) _ from hHeld) ((Below.refl (wz).heap.size (wz)).alloc (Nat.le_refl _) (.cells #[.int .i64 0, .int .i64 0, .int .i64 0, .int .i64 0, .int .i64 0, .int .i64 0, .slice none 0 0] 46))
      refine hK.out _ _ hSx (fun hHeld => ?_)
      clear hK K
      try first | simp only [pS, List.set] | simp only [pN]
      obtain ⟨wa, hwa⟩ : ∃ x, (wz).alloc (.cells #[.int .i64 0, .int .i64 0, .int .i64 0, .int .i64 0, .int .i64 0, .int .i64 0, .slice none 0 0] 46) = x := ⟨_, rfl⟩
      obtain ⟨nb, hnb⟩ : ∃ x, (wz).heap.size = x := ⟨_, rfl⟩
      have hnew2 : RowB wa nb (tkR 0 0 0 0 0 0) 46 := by rw [← hwa, ← hnb]; exact hnew
      rw [hwa] at hHeld ⊢
      rw [hnb] at hsz ⊢
      clear hwa hnb hnew
      have hS2 : (RtS w4 (n + 1) ⟨x1.toArray⟩ g off (numG x2) (numG x3) (numG x4) (numG x5) (numG x6) wa) ∧ ∃ kd pr pe o dl ow, RowB wa nb (tkR kd pr pe o dl ow) 46 := ⟨hHeld, _, _, _, _, _, _, hnew2⟩
      clear hnew2 hHeld
      refine wpAnyH_strong (S' := fun w' => (Below w4.heap.size w4 w' ∧ w'.cell? ⟨n + 1, 1, none⟩ = some (.string ⟨x1.toArray⟩) ∧ w'.cell? ⟨g, off, none⟩ = some (.int .i64 (numG x2)) ∧ w'.cell? ⟨g, off + 1, none⟩ = some (.int .i64 (numG x3)) ∧ w'.cell? ⟨g, off + 2, none⟩ = some (.int .i64 (numG x4)) ∧ w'.cell? ⟨g, off + 3, none⟩ = some (.int .i64 (numG x5)) ∧ w'.cell? ⟨g, off + 4, none⟩ = some (.int .i64 (numG x6))) ∧ ∃ kd pr pe o dl ow, RowB w' nb (tkR kd pr pe o dl ow) 46) (fun w h => h.1) _ _ _ _ ?_
      have hHeld := hS2
      obtain ⟨q0, q1, q2, q3, q4, q5, hz⟩ := hHeld.2
      unfold tkR at hz
      have b0 := hz.cell 0
      have b1 := hz.cell 1
      have b2 := hz.cell 2
      have b3 := hz.cell 3
      have b4 := hz.cell 4
      have b5 := hz.cell 5
      have b6 := hz.cell 6
      simp only [List.getElem?_toArray, List.getElem?_cons_zero, List.getElem?_cons_succ] at b0 b1 b2 b3 b4 b5 b6
      have f0 := hz.frozen 0
      have f1 := hz.frozen 1
      have f2 := hz.frozen 2
      have f3 := hz.frozen 3
      have f4 := hz.frozen 4
      have f5 := hz.frozen 5
      have f6 := hz.frozen 6
      refine wpAnyH_ready (rs := [23]) (by kernel_rfl) (by simp) ?_
      refine AllReadyH.cons (o := ?_) ?_ (fun K hK => ?_) AllReadyH.nil
      rotate_left
      · (simp only [List.getElem?_toArray, List.getElem?_cons_succ, List.getElem?_cons_zero]; rfl)
      go_simp
      have hSr := RtS.set7 (show RtS w4 (n + 1) ⟨x1.toArray⟩ g off (numG x2) (numG x3) (numG x4) (numG x5) (numG x6) wa from hHeld.1) hsz hlb4 hgb4 (.int .i64 (KI + 1)) (.int .i64 (numG x2)) (.int .i64 (numG x3)) (.int .i64 (numG x4)) (.int .i64 (numG x5)) (.int .i64 (numG x6)) (.slice none 0 0)
      have hzz := row_set7 (w := wa) (b := nb) (t := 46) _ _ _ _ _ _ _ (.int .i64 (KI + 1)) (.int .i64 (numG x2)) (.int .i64 (numG x3)) (.int .i64 (numG x4)) (.int .i64 (numG x5)) (.int .i64 (numG x6)) (.slice none 0 0) hz
      try rw [HEW.out]
      obtain ⟨wS, hwS⟩ : ∃ x, (((((((wa.setCell ⟨nb, 0, none⟩ (.int .i64 (KI + 1))).setCell ⟨nb, 1, none⟩ (.int .i64 (numG x2))).setCell ⟨nb, 2, none⟩ (.int .i64 (numG x3))).setCell ⟨nb, 3, none⟩ (.int .i64 (numG x4))).setCell ⟨nb, 4, none⟩ (.int .i64 (numG x5))).setCell ⟨nb, 5, none⟩ (.int .i64 (numG x6))).setCell ⟨nb, 6, none⟩ (.slice none 0 0)) = x := ⟨_, rfl⟩
      rw [hwS] at hSr hzz ⊢
      clear hwS
      have hzz : RowB wS nb (tkR (KI + 1) (numG x2) (numG x3) (numG x4) (numG x5) (numG x6)) 46 := hzz
      obtain ⟨s1, s2, s3, s4, s5, s6, s7⟩ := hSr
      have hSx : (Below w4.heap.size w4 wS ∧ wS.cell? ⟨n + 1, 1, none⟩ = some (.string ⟨x1.toArray⟩) ∧ wS.cell? ⟨g, off, none⟩ = some (.int .i64 (numG x2)) ∧ wS.cell? ⟨g, off + 1, none⟩ = some (.int .i64 (numG x3)) ∧ wS.cell? ⟨g, off + 2, none⟩ = some (.int .i64 (numG x4)) ∧ wS.cell? ⟨g, off + 3, none⟩ = some (.int .i64 (numG x5)) ∧ wS.cell? ⟨g, off + 4, none⟩ = some (.int .i64 (numG x6))) ∧ ∃ kd pr pe o dl ow, RowB wS nb (tkR kd pr pe o dl ow) 46 := ⟨⟨s1, s2, s3, s4, s5, s6, s7⟩, _, _, _, _, _, _, hzz⟩
      refine hK.out _ _ hSx (fun hHeld => ?_)
      clear hK K
      try first | simp only [pS, List.set] | simp only [pN]
      refine wpAnyH_done (by kernel_rfl) ?_ _
      have HZ := Lib.hid hzz
      have HBB := Lib.hid s1
      clear s1 s2 s3 s4 s5 s6 s7 hSx hzz hHeld hz b0 b1 b2 b3 b4 b5 b6 f0 f1 f2 f3 f4 f5 f6 hSd
      have c0 := HZ.out.cell 0
      have c1 := HZ.out.cell 1
      have c2 := HZ.out.cell 2
      have c3 := HZ.out.cell 3
      have c4 := HZ.out.cell 4
      have c5 := HZ.out.cell 5
      have c6 := HZ.out.cell 6
      unfold tkR at c0 c1 c2 c3 c4 c5 c6
      simp only [List.getElem?_toArray, List.getElem?_cons_zero, List.getElem?_cons_succ] at c0 c1 c2 c3 c4 c5 c6
      have HBX := Lib.hid (hbox4.out.below HBB.out hnb4)
      have hnw : n ≤ w4.heap.size := by omega
      have HBS := Lib.hid (hB4.out.trans (HBB.out.mono hnw))
      have hnl6 : n ≤ wS.heap.size := by have := HBB.out.size; omega
      have hhd := head_any ⟨KI + 1, numG x2, numG x3, numG x4, numG x5, numG x6, []⟩ none 0 0 wS (fun z hz => by
        have h2 := numG_bd x2
        have h3 := numG_bd x3
        have h4 := numG_bd x4
        have h5 := numG_bd x5
        have h6 := numG_bd x6
        simp only [Tk.five, List.mem_cons, List.not_mem_nil, or_false] at hz
        rcases hz with rfl | rfl | rfl | rfl | rfl <;> omega) (HT4.out.below HBB.out)
      unfold tkV at hhd
      have HHD := Lib.hid hhd
      clear hhd
      go_wp2_with fail
      refine HHD.out.mono ?_
      rintro e w6 ⟨sH, rfl, hHs, hHl, hb6⟩
      clear c0 c1 c2 c3 c4 c5 c6
      rcases hq : headB1 ⟨KI + 1, numG x2, numG x3, numG x4, numG x5, numG x6, []⟩ with _ | _
      · have HNO := Lib.hid (show readTG l = none by rw [hRD.out, if_neg (by rw [hq]; rintro ⟨h, _⟩; cases h)])
        clear hq hHs
        have hbox6 := (HBX.out).kept hb6
        have d0 := hbox6.cell 0
        have d1 := hbox6.cell 1
        have d2 := hbox6.cell 2
        have d3 := hbox6.cell 3
        have d4 := hbox6.cell 4
        have d5 := hbox6.cell 5
        have d6 := hbox6.cell 6
        unfold tkR at d0 d1 d2 d3 d4 d5 d6
        simp only [List.getElem?_toArray, List.getElem?_cons_zero, List.getElem?_cons_succ] at d0 d1 d2 d3 d4 d5 d6
        have df0 := hbox6.frozen 0
        have df1 := hbox6.frozen 1
        have df2 := hbox6.frozen 2
        have df3 := hbox6.frozen 3
        have df4 := hbox6.frozen 4
        have df5 := hbox6.frozen 5
        have df6 := hbox6.frozen 6
        have hz6 := HZ.out.kept hb6
        have e0 := hz6.cell 0
        have e1 := hz6.cell 1
        have e2 := hz6.cell 2
        have e3 := hz6.cell 3
        have e4 := hz6.cell 4
        have e5 := hz6.cell 5
        have e6 := hz6.cell 6
        unfold tkR at e0 e1 e2 e3 e4 e5 e6
        simp only [List.getElem?_toArray, List.getElem?_cons_zero, List.getElem?_cons_succ] at e0 e1 e2 e3 e4 e5 e6
        have HB6 := Lib.hid (HBS.out.trans (hb6.mono hnl6))
        have HX6 := Lib.hid hbox6
        clear hb6 hbox6 hz6
        go_wp2_with fail
        unfold tkR at HX6
        refine bodyPost_ret (res_rhead _ _ rfl rfl (row_set7 _ _ _ _ _ _ _ (.int .i64 (KI + 1)) (.int .i64 (numG x2)) (.int .i64 (numG x3)) (.int .i64 (numG x4)) (.int .i64 (numG x5)) (.int .i64 (numG x6)) (.slice none 0 0) HX6.out)) rfl ?_
        exact ⟨KI + 1, numG x2, numG x3, numG x4, numG x5, numG x6, by rw [HNO.out]; rfl, (fun t ht => by rw [HNO.out] at ht; cases ht), by rw [hn]; exact below_s7 HB6.out n (Nat.le_refl _) _ _ _ _ _ _ _⟩
      · have hSH := hHs hq
        by_cases hls : headL ⟨KI + 1, numG x2, numG x3, numG x4, numG x5, numG x6, []⟩ = l
        · have HYES := Lib.hid (show readTG l = some ⟨KI + 1, numG x2, numG x3, numG x4, numG x5, numG x6, []⟩ by rw [hRD.out, if_pos ⟨hq, hls⟩])
          have hst : (sH.toList == s.toList) = true := by rw [hSH, ByteArray.toList_eq, ByteArray.toList_eq, hl'.out]; simp [hls]
          clear hq hHs hls hSH
          have hbox6 := (HBX.out).kept hb6
          have d0 := hbox6.cell 0
          have d1 := hbox6.cell 1
          have d2 := hbox6.cell 2
          have d3 := hbox6.cell 3
          have d4 := hbox6.cell 4
          have d5 := hbox6.cell 5
          have d6 := hbox6.cell 6
          unfold tkR at d0 d1 d2 d3 d4 d5 d6
          simp only [List.getElem?_toArray, List.getElem?_cons_zero, List.getElem?_cons_succ] at d0 d1 d2 d3 d4 d5 d6
          have df0 := hbox6.frozen 0
          have df1 := hbox6.frozen 1
          have df2 := hbox6.frozen 2
          have df3 := hbox6.frozen 3
          have df4 := hbox6.frozen 4
          have df5 := hbox6.frozen 5
          have df6 := hbox6.frozen 6
          have hz6 := HZ.out.kept hb6
          have e0 := hz6.cell 0
          have e1 := hz6.cell 1
          have e2 := hz6.cell 2
          have e3 := hz6.cell 3
          have e4 := hz6.cell 4
          have e5 := hz6.cell 5
          have e6 := hz6.cell 6
          unfold tkR at e0 e1 e2 e3 e4 e5 e6
          simp only [List.getElem?_toArray, List.getElem?_cons_zero, List.getElem?_cons_succ] at e0 e1 e2 e3 e4 e5 e6
          have HB6 := Lib.hid (HBS.out.trans (hb6.mono hnl6))
          have HX6 := Lib.hid hbox6
          clear hb6 hbox6 hz6
          go_wp2_with fail
          unfold tkR at HX6
          refine bodyPost_ret (res_rhead _ _ rfl rfl (row_set7 _ _ _ _ _ _ _ (.int .i64 (KI + 1)) (.int .i64 (numG x2)) (.int .i64 (numG x3)) (.int .i64 (numG x4)) (.int .i64 (numG x5)) (.int .i64 (numG x6)) (.slice none 0 0) HX6.out)) rfl ?_
          exact ⟨KI + 1, numG x2, numG x3, numG x4, numG x5, numG x6, by rw [HYES.out]; rfl, (fun t ht => by rw [HYES.out] at ht; exact (Option.some.inj ht).symm), by rw [hn]; exact below_s7 HB6.out n (Nat.le_refl _) _ _ _ _ _ _ _⟩
        · have HNO := Lib.hid (show readTG l = none by rw [hRD.out, if_neg (fun h => hls h.2)])
          have hst : (sH.toList == s.toList) = false := by rw [beq_eq_false_iff_ne, hSH, ByteArray.toList_eq, ByteArray.toList_eq, hl'.out]; simpa using hls
          clear hq hHs hls hSH
          have hbox6 := (HBX.out).kept hb6
          have d0 := hbox6.cell 0
          have d1 := hbox6.cell 1
          have d2 := hbox6.cell 2
          have d3 := hbox6.cell 3
          have d4 := hbox6.cell 4
          have d5 := hbox6.cell 5
          have d6 := hbox6.cell 6
          unfold tkR at d0 d1 d2 d3 d4 d5 d6
          simp only [List.getElem?_toArray, List.getElem?_cons_zero, List.getElem?_cons_succ] at d0 d1 d2 d3 d4 d5 d6
          have df0 := hbox6.frozen 0
          have df1 := hbox6.frozen 1
          have df2 := hbox6.frozen 2
          have df3 := hbox6.frozen 3
          have df4 := hbox6.frozen 4
          have df5 := hbox6.frozen 5
          have df6 := hbox6.frozen 6
          have hz6 := HZ.out.kept hb6
          have e0 := hz6.cell 0
          have e1 := hz6.cell 1
          have e2 := hz6.cell 2
          have e3 := hz6.cell 3
          have e4 := hz6.cell 4
          have e5 := hz6.cell 5
          have e6 := hz6.cell 6
          unfold tkR at e0 e1 e2 e3 e4 e5 e6
          simp only [List.getElem?_toArray, List.getElem?_cons_zero, List.getElem?_cons_succ] at e0 e1 e2 e3 e4 e5 e6
          have HB6 := Lib.hid (HBS.out.trans (hb6.mono hnl6))
          have HX6 := Lib.hid hbox6
          clear hb6 hbox6 hz6
          go_wp2_with fail
          unfold tkR at HX6
          refine bodyPost_ret (res_rhead _ _ rfl rfl (row_set7 _ _ _ _ _ _ _ (.int .i64 (KI + 1)) (.int .i64 (numG x2)) (.int .i64 (numG x3)) (.int .i64 (numG x4)) (.int .i64 (numG x5)) (.int .i64 (numG x6)) (.slice none 0 0) HX6.out)) rfl ?_
          exact ⟨KI + 1, numG x2, numG x3, numG x4, numG x5, numG x6, by rw [HNO.out]; rfl, (fun t ht => by rw [HNO.out] at ht; cases ht), by rw [hn]; exact below_s7 HB6.out n (Nat.le_refl _) _ _ _ _ _ _ _⟩
    · refine AllReadyH.cons (o := ?_) ?_ (fun K hK => ?_) AllReadyH.nil
      rotate_left
      · (simp only [List.getElem?_toArray, List.getElem?_cons_succ, List.getElem?_cons_zero]; rfl)
      · go_simp
        have hnew := RowB.new (wz) (tkR 0 0 0 0 0 0) 46
        have hsz := hHeld.1.size
        have hSx := RtS.below (show RtS w4 (n + 1) ⟨x1.toArray⟩ g off (numG x2) (numG x3) (numG x4) (numG x5) (numG x6) _ from hHeld) ((Below.refl (wz).heap.size (wz)).alloc (Nat.le_refl _) (.cells #[.int .i64 0, .int .i64 0, .int .i64 0, .int .i64 0, .int .i64 0, .int .i64 0, .slice none 0 0] 46))
        refine hK.out _ _ hSx (fun hHeld => ?_)
        clear hK K
        try first | simp only [pS, List.set] | simp only [pN]
        obtain ⟨wa, hwa⟩ : ∃ x, (wz).alloc (.cells #[.int .i64 0, .int .i64 0, .int .i64 0, .int .i64 0, .int .i64 0, .int .i64 0, .slice none 0 0] 46) = x := ⟨_, rfl⟩
        obtain ⟨nb, hnb⟩ : ∃ x, (wz).heap.size = x := ⟨_, rfl⟩
        have hnew2 : RowB wa nb (tkR 0 0 0 0 0 0) 46 := by rw [← hwa, ← hnb]; exact hnew
        rw [hwa] at hHeld ⊢
        rw [hnb] at hsz ⊢
        clear hwa hnb hnew
        have hS2 : (RtS w4 (n + 1) ⟨x1.toArray⟩ g off (numG x2) (numG x3) (numG x4) (numG x5) (numG x6) wa) ∧ ∃ kd pr pe o dl ow, RowB wa nb (tkR kd pr pe o dl ow) 46 := ⟨hHeld, _, _, _, _, _, _, hnew2⟩
        clear hnew2 hHeld
        refine wpAnyH_strong (S' := fun w' => (Below w4.heap.size w4 w' ∧ w'.cell? ⟨n + 1, 1, none⟩ = some (.string ⟨x1.toArray⟩) ∧ w'.cell? ⟨g, off, none⟩ = some (.int .i64 (numG x2)) ∧ w'.cell? ⟨g, off + 1, none⟩ = some (.int .i64 (numG x3)) ∧ w'.cell? ⟨g, off + 2, none⟩ = some (.int .i64 (numG x4)) ∧ w'.cell? ⟨g, off + 3, none⟩ = some (.int .i64 (numG x5)) ∧ w'.cell? ⟨g, off + 4, none⟩ = some (.int .i64 (numG x6))) ∧ ∃ kd pr pe o dl ow, RowB w' nb (tkR kd pr pe o dl ow) 46) (fun w h => h.1) _ _ _ _ ?_
        have hHeld := hS2
        refine wpAnyH_ready (rs := [4]) (by kernel_rfl) (by simp) ?_
        refine AllReadyH.cons (o := ?_) ?_ (fun K hK => ?_) AllReadyH.nil
        rotate_left
        · (simp only [List.getElem?_toArray, List.getElem?_cons_succ, List.getElem?_cons_zero]; rfl)
        go_simp
        go_at_call 72
        refine (HIX.out _ hHeld.1.1).mono ?_
        rintro e wx ⟨rfl, hwx⟩
        have hwy := hwx.symm
        clear hwx
        subst hwy
        have hSx := hHeld
        refine hK.out _ _ hSx (fun hHeld => ?_)
        clear hK K
        try first | simp only [pS, List.set] | simp only [pN]
        refine tkH 5 ?_
        try first | simp only [pS, List.set] | simp only [pN]
        refine tkH 21 ?_
        try first | simp only [pS, List.set] | simp only [pN]
        obtain ⟨q0, q1, q2, q3, q4, q5, hz⟩ := hHeld.2
        unfold tkR at hz
        have b0 := hz.cell 0
        have b1 := hz.cell 1
        have b2 := hz.cell 2
        have b3 := hz.cell 3
        have b4 := hz.cell 4
        have b5 := hz.cell 5
        have b6 := hz.cell 6
        simp only [List.getElem?_toArray, List.getElem?_cons_zero, List.getElem?_cons_succ] at b0 b1 b2 b3 b4 b5 b6
        have f0 := hz.frozen 0
        have f1 := hz.frozen 1
        have f2 := hz.frozen 2
        have f3 := hz.frozen 3
        have f4 := hz.frozen 4
        have f5 := hz.frozen 5
        have f6 := hz.frozen 6
        refine wpAnyH_ready (rs := [23]) (by kernel_rfl) (by simp) ?_
        refine AllReadyH.cons (o := ?_) ?_ (fun K hK => ?_) AllReadyH.nil
        rotate_left
        · (simp only [List.getElem?_toArray, List.getElem?_cons_succ, List.getElem?_cons_zero]; rfl)
        go_simp
        have hSr := RtS.set7 (show RtS w4 (n + 1) ⟨x1.toArray⟩ g off (numG x2) (numG x3) (numG x4) (numG x5) (numG x6) wa from hHeld.1) hsz hlb4 hgb4 (.int .i64 (KI + 1)) (.int .i64 (numG x2)) (.int .i64 (numG x3)) (.int .i64 (numG x4)) (.int .i64 (numG x5)) (.int .i64 (numG x6)) (.slice none 0 0)
        have hzz := row_set7 (w := wa) (b := nb) (t := 46) _ _ _ _ _ _ _ (.int .i64 (KI + 1)) (.int .i64 (numG x2)) (.int .i64 (numG x3)) (.int .i64 (numG x4)) (.int .i64 (numG x5)) (.int .i64 (numG x6)) (.slice none 0 0) hz
        try rw [HEW.out]
        obtain ⟨wS, hwS⟩ : ∃ x, (((((((wa.setCell ⟨nb, 0, none⟩ (.int .i64 (KI + 1))).setCell ⟨nb, 1, none⟩ (.int .i64 (numG x2))).setCell ⟨nb, 2, none⟩ (.int .i64 (numG x3))).setCell ⟨nb, 3, none⟩ (.int .i64 (numG x4))).setCell ⟨nb, 4, none⟩ (.int .i64 (numG x5))).setCell ⟨nb, 5, none⟩ (.int .i64 (numG x6))).setCell ⟨nb, 6, none⟩ (.slice none 0 0)) = x := ⟨_, rfl⟩
        rw [hwS] at hSr hzz ⊢
        clear hwS
        have hzz : RowB wS nb (tkR (KI + 1) (numG x2) (numG x3) (numG x4) (numG x5) (numG x6)) 46 := hzz
        obtain ⟨s1, s2, s3, s4, s5, s6, s7⟩ := hSr
        have hSx : (Below w4.heap.size w4 wS ∧ wS.cell? ⟨n + 1, 1, none⟩ = some (.string ⟨x1.toArray⟩) ∧ wS.cell? ⟨g, off, none⟩ = some (.int .i64 (numG x2)) ∧ wS.cell? ⟨g, off + 1, none⟩ = some (.int .i64 (numG x3)) ∧ wS.cell? ⟨g, off + 2, none⟩ = some (.int .i64 (numG x4)) ∧ wS.cell? ⟨g, off + 3, none⟩ = some (.int .i64 (numG x5)) ∧ wS.cell? ⟨g, off + 4, none⟩ = some (.int .i64 (numG x6))) ∧ ∃ kd pr pe o dl ow, RowB wS nb (tkR kd pr pe o dl ow) 46 := ⟨⟨s1, s2, s3, s4, s5, s6, s7⟩, _, _, _, _, _, _, hzz⟩
        refine hK.out _ _ hSx (fun hHeld => ?_)
        clear hK K
        try first | simp only [pS, List.set] | simp only [pN]
        refine wpAnyH_done (by kernel_rfl) ?_ _
        have HZ := Lib.hid hzz
        have HBB := Lib.hid s1
        clear s1 s2 s3 s4 s5 s6 s7 hSx hzz hHeld hz b0 b1 b2 b3 b4 b5 b6 f0 f1 f2 f3 f4 f5 f6 hSd
        have c0 := HZ.out.cell 0
        have c1 := HZ.out.cell 1
        have c2 := HZ.out.cell 2
        have c3 := HZ.out.cell 3
        have c4 := HZ.out.cell 4
        have c5 := HZ.out.cell 5
        have c6 := HZ.out.cell 6
        unfold tkR at c0 c1 c2 c3 c4 c5 c6
        simp only [List.getElem?_toArray, List.getElem?_cons_zero, List.getElem?_cons_succ] at c0 c1 c2 c3 c4 c5 c6
        have HBX := Lib.hid (hbox4.out.below HBB.out hnb4)
        have hnw : n ≤ w4.heap.size := by omega
        have HBS := Lib.hid (hB4.out.trans (HBB.out.mono hnw))
        have hnl6 : n ≤ wS.heap.size := by have := HBB.out.size; omega
        have hhd := head_any ⟨KI + 1, numG x2, numG x3, numG x4, numG x5, numG x6, []⟩ none 0 0 wS (fun z hz => by
          have h2 := numG_bd x2
          have h3 := numG_bd x3
          have h4 := numG_bd x4
          have h5 := numG_bd x5
          have h6 := numG_bd x6
          simp only [Tk.five, List.mem_cons, List.not_mem_nil, or_false] at hz
          rcases hz with rfl | rfl | rfl | rfl | rfl <;> omega) (HT4.out.below HBB.out)
        unfold tkV at hhd
        have HHD := Lib.hid hhd
        clear hhd
        go_wp2_with fail
        refine HHD.out.mono ?_
        rintro e w6 ⟨sH, rfl, hHs, hHl, hb6⟩
        clear c0 c1 c2 c3 c4 c5 c6
        rcases hq : headB1 ⟨KI + 1, numG x2, numG x3, numG x4, numG x5, numG x6, []⟩ with _ | _
        · have HNO := Lib.hid (show readTG l = none by rw [hRD.out, if_neg (by rw [hq]; rintro ⟨h, _⟩; cases h)])
          clear hq hHs
          have hbox6 := (HBX.out).kept hb6
          have d0 := hbox6.cell 0
          have d1 := hbox6.cell 1
          have d2 := hbox6.cell 2
          have d3 := hbox6.cell 3
          have d4 := hbox6.cell 4
          have d5 := hbox6.cell 5
          have d6 := hbox6.cell 6
          unfold tkR at d0 d1 d2 d3 d4 d5 d6
          simp only [List.getElem?_toArray, List.getElem?_cons_zero, List.getElem?_cons_succ] at d0 d1 d2 d3 d4 d5 d6
          have df0 := hbox6.frozen 0
          have df1 := hbox6.frozen 1
          have df2 := hbox6.frozen 2
          have df3 := hbox6.frozen 3
          have df4 := hbox6.frozen 4
          have df5 := hbox6.frozen 5
          have df6 := hbox6.frozen 6
          have hz6 := HZ.out.kept hb6
          have e0 := hz6.cell 0
          have e1 := hz6.cell 1
          have e2 := hz6.cell 2
          have e3 := hz6.cell 3
          have e4 := hz6.cell 4
          have e5 := hz6.cell 5
          have e6 := hz6.cell 6
          unfold tkR at e0 e1 e2 e3 e4 e5 e6
          simp only [List.getElem?_toArray, List.getElem?_cons_zero, List.getElem?_cons_succ] at e0 e1 e2 e3 e4 e5 e6
          have HB6 := Lib.hid (HBS.out.trans (hb6.mono hnl6))
          have HX6 := Lib.hid hbox6
          clear hb6 hbox6 hz6
          go_wp2_with fail
          unfold tkR at HX6
          refine bodyPost_ret (res_rhead _ _ rfl rfl (row_set7 _ _ _ _ _ _ _ (.int .i64 (KI + 1)) (.int .i64 (numG x2)) (.int .i64 (numG x3)) (.int .i64 (numG x4)) (.int .i64 (numG x5)) (.int .i64 (numG x6)) (.slice none 0 0) HX6.out)) rfl ?_
          exact ⟨KI + 1, numG x2, numG x3, numG x4, numG x5, numG x6, by rw [HNO.out]; rfl, (fun t ht => by rw [HNO.out] at ht; cases ht), by rw [hn]; exact below_s7 HB6.out n (Nat.le_refl _) _ _ _ _ _ _ _⟩
        · have hSH := hHs hq
          by_cases hls : headL ⟨KI + 1, numG x2, numG x3, numG x4, numG x5, numG x6, []⟩ = l
          · have HYES := Lib.hid (show readTG l = some ⟨KI + 1, numG x2, numG x3, numG x4, numG x5, numG x6, []⟩ by rw [hRD.out, if_pos ⟨hq, hls⟩])
            have hst : (sH.toList == s.toList) = true := by rw [hSH, ByteArray.toList_eq, ByteArray.toList_eq, hl'.out]; simp [hls]
            clear hq hHs hls hSH
            have hbox6 := (HBX.out).kept hb6
            have d0 := hbox6.cell 0
            have d1 := hbox6.cell 1
            have d2 := hbox6.cell 2
            have d3 := hbox6.cell 3
            have d4 := hbox6.cell 4
            have d5 := hbox6.cell 5
            have d6 := hbox6.cell 6
            unfold tkR at d0 d1 d2 d3 d4 d5 d6
            simp only [List.getElem?_toArray, List.getElem?_cons_zero, List.getElem?_cons_succ] at d0 d1 d2 d3 d4 d5 d6
            have df0 := hbox6.frozen 0
            have df1 := hbox6.frozen 1
            have df2 := hbox6.frozen 2
            have df3 := hbox6.frozen 3
            have df4 := hbox6.frozen 4
            have df5 := hbox6.frozen 5
            have df6 := hbox6.frozen 6
            have hz6 := HZ.out.kept hb6
            have e0 := hz6.cell 0
            have e1 := hz6.cell 1
            have e2 := hz6.cell 2
            have e3 := hz6.cell 3
            have e4 := hz6.cell 4
            have e5 := hz6.cell 5
            have e6 := hz6.cell 6
            unfold tkR at e0 e1 e2 e3 e4 e5 e6
            simp only [List.getElem?_toArray, List.getElem?_cons_zero, List.getElem?_cons_succ] at e0 e1 e2 e3 e4 e5 e6
            have HB6 := Lib.hid (HBS.out.trans (hb6.mono hnl6))
            have HX6 := Lib.hid hbox6
            clear hb6 hbox6 hz6
            go_wp2_with fail
            unfold tkR at HX6
            refine bodyPost_ret (res_rhead _ _ rfl rfl (row_set7 _ _ _ _ _ _ _ (.int .i64 (KI + 1)) (.int .i64 (numG x2)) (.int .i64 (numG x3)) (.int .i64 (numG x4)) (.int .i64 (numG x5)) (.int .i64 (numG x6)) (.slice none 0 0) HX6.out)) rfl ?_
            exact ⟨KI + 1, numG x2, numG x3, numG x4, numG x5, numG x6, by rw [HYES.out]; rfl, (fun t ht => by rw [HYES.out] at ht; exact (Option.some.inj ht).symm), by rw [hn]; exact below_s7 HB6.out n (Nat.le_refl _) _ _ _ _ _ _ _⟩
          · have HNO := Lib.hid (show readTG l = none by rw [hRD.out, if_neg (fun h => hls h.2)])
            have hst : (sH.toList == s.toList) = false := by rw [beq_eq_false_iff_ne, hSH, ByteArray.toList_eq, ByteArray.toList_eq, hl'.out]; simpa using hls
            clear hq hHs hls hSH
            have hbox6 := (HBX.out).kept hb6
            have d0 := hbox6.cell 0
            have d1 := hbox6.cell 1
            have d2 := hbox6.cell 2
            have d3 := hbox6.cell 3
            have d4 := hbox6.cell 4
            have d5 := hbox6.cell 5
            have d6 := hbox6.cell 6
            unfold tkR at d0 d1 d2 d3 d4 d5 d6
            simp only [List.getElem?_toArray, List.getElem?_cons_zero, List.getElem?_cons_succ] at d0 d1 d2 d3 d4 d5 d6
            have df0 := hbox6.frozen 0
            have df1 := hbox6.frozen 1
            have df2 := hbox6.frozen 2
            have df3 := hbox6.frozen 3
            have df4 := hbox6.frozen 4
            have df5 := hbox6.frozen 5
            have df6 := hbox6.frozen 6
            have hz6 := HZ.out.kept hb6
            have e0 := hz6.cell 0
            have e1 := hz6.cell 1
            have e2 := hz6.cell 2
            have e3 := hz6.cell 3
            have e4 := hz6.cell 4
            have e5 := hz6.cell 5
            have e6 := hz6.cell 6
            unfold tkR at e0 e1 e2 e3 e4 e5 e6
            simp only [List.getElem?_toArray, List.getElem?_cons_zero, List.getElem?_cons_succ] at e0 e1 e2 e3 e4 e5 e6
            have HB6 := Lib.hid (HBS.out.trans (hb6.mono hnl6))
            have HX6 := Lib.hid hbox6
            clear hb6 hbox6 hz6
            go_wp2_with fail
            unfold tkR at HX6
            refine bodyPost_ret (res_rhead _ _ rfl rfl (row_set7 _ _ _ _ _ _ _ (.int .i64 (KI + 1)) (.int .i64 (numG x2)) (.int .i64 (numG x3)) (.int .i64 (numG x4)) (.int .i64 (numG x5)) (.int .i64 (numG x6)) (.slice none 0 0) HX6.out)) rfl ?_
            exact ⟨KI + 1, numG x2, numG x3, numG x4, numG x5, numG x6, by rw [HNO.out]; rfl, (fun t ht => by rw [HNO.out] at ht; cases ht), by rw [hn]; exact below_s7 HB6.out n (Nat.le_refl _) _ _ _ _ _ _ _⟩
  · have HNO := Lib.hid (show readTG l = none by unfold readTG; rw [hq, if_neg (fun h => h7 h.1)])
    have t1 : ((q.length : Int) != 7) = true := by simp; omega
    have hsp' := Lib.hid hsp
    have hn0 := Lib.hid hqs
    clear hsp hq hqs hl
    go_enter Tryz.func45, Tryz.ntmps45
    go_wp2_with fail
    have hnew := RowB.new w (tkR 0 0 0 0 0 0) 46
    have hb0 := (Below.refl w.heap.size w).alloc (Nat.le_refl _) (.cells (tkR 0 0 0 0 0 0) 46)
    obtain ⟨w0, hw0⟩ : ∃ x, w.alloc (.cells (tkR 0 0 0 0 0 0) 46) = x := ⟨_, rfl⟩
    rw [hw0] at hnew hb0
    unfold tkR at hw0
    rw [hw0]
    obtain ⟨n, hn⟩ : ∃ n, w.heap.size = n := ⟨_, rfl⟩
    rw [hn] at hnew hb0 ⊢
    refine (hsp'.out _ (hM.below (by rw [hn]; exact hb0))).mono ?_
    rintro e w1 ⟨rfl, -, hb1⟩
    have HX := Lib.hid (hnew.kept hb1)
    have HB1 := Lib.hid (hb0.trans (hb1.mono (by have := hb0.size; omega)))
    have d0 := HX.out.cell 0
    have d1 := HX.out.cell 1
    have d2 := HX.out.cell 2
    have d3 := HX.out.cell 3
    have d4 := HX.out.cell 4
    have d5 := HX.out.cell 5
    have d6 := HX.out.cell 6
    unfold tkR at d0 d1 d2 d3 d4 d5 d6
    simp only [List.getElem?_toArray, List.getElem?_cons_zero, List.getElem?_cons_succ] at d0 d1 d2 d3 d4 d5 d6
    have df0 := HX.out.frozen 0
    have df1 := HX.out.frozen 1
    have df2 := HX.out.frozen 2
    have df3 := HX.out.frozen 3
    have df4 := HX.out.frozen 4
    have df5 := HX.out.frozen 5
    have df6 := HX.out.frozen 6
    clear hnew hb0 hb1 hw0
    go_wp2_with fail
    unfold tkR at HX
    refine bodyPost_ret (res_rhead _ _ rfl rfl (row_set7 _ _ _ _ _ _ _ (.int .i64 0) (.int .i64 0) (.int .i64 0) (.int .i64 0) (.int .i64 0) (.int .i64 0) (.slice none 0 0) HX.out)) rfl ?_
    exact ⟨0, 0, 0, 0, 0, 0, by rw [HNO.out]; rfl, (fun t ht => by rw [HNO.out] at ht; cases ht), by rw [hn]; exact below_s7 HB1.out n (Nat.le_refl _) _ _ _ _ _ _ _⟩

end Go.Proofs.YtfgmebjbibbpdaaGreatDoor

namespace Go.Proofs.YtfgmebjbibbpdaaGreatDoor
open Go.RowKit
attribute [local go_sem] Oper.semAt_some

theorem toB_get {ps : List (List UInt8)} {j : Nat} {z : ByteArray} (h : (toB ps)[j]? = some z) : ∃ x, ps[j]? = some x ∧ z = ⟨x.toArray⟩ := by
  unfold toB at h
  rw [List.getElem?_map] at h
  cases hx : ps[j]? with
  | none => rw [hx] at h; cases h
  | some x => rw [hx] at h; exact ⟨x, rfl, (Option.some.inj h).symm⟩
theorem sindex_any (b n : Nat) (ps : List (List UInt8)) (x : List UInt8) (w : World) (hn : n = ps.length) (hbig : ps.length ≤ 1000000) (hc : ∀ (j : Nat) y, ps[j]? = some y → w.cell? ⟨b, j, none⟩ = some (.string ⟨y.toArray⟩)) :
    Calls Tryz.prog 72 #[.slice (some ⟨b, 0, none⟩) n n, .string ⟨x.toArray⟩] w fun e w' => e = .returned (.int .i64 (idxF ps x)) ∧ w' = w := by
  have h := index_any b n (toB ps) ⟨x.toArray⟩ w (by rw [toB_len]; exact hn) (by rw [toB_len]; exact hbig) (fun j z hz => by
    obtain ⟨y, hy, rfl⟩ := toB_get hz
    exact hc j y hy)
  rw [show toB ps = ps.map fun p => (⟨p.toArray⟩ : ByteArray) from rfl, idx_F] at h
  exact h
theorem sjoin_any (A : Option Addr) (c : Nat) (ps : List (List UInt8)) (w : World) (hl : ps.length ≤ 1000000) (hc : ps.length ≤ c) (hj : (Lib.join ps [32]).length ≤ 1000000) (hs : SlOf strs w w.heap.size A (toB ps)) :
    Calls Tryz.prog 61 #[.slice A ps.length c, .string ⟨#[32]⟩] w fun e w' => e = .returned (.string ⟨(Lib.join ps [32]).toArray⟩) ∧ Below w.heap.size w w' := by
  cases hp : ps with
  | nil =>
    refine (Tryz.strings_Join_none A c ⟨#[32]⟩ w).mono ?_
    rintro e w' ⟨rfl, rfl⟩
    exact ⟨rfl, Below.refl _ _⟩
  | cons p r =>
    rw [← hp]
    obtain ⟨b, off, rfl, hb, _⟩ := hs 0 ⟨p.toArray⟩ (by rw [hp]; rfl)
    have h := Tryz.strings_Join b off c (toB ps) ⟨#[32]⟩ w (fun j x hx => by
      obtain ⟨b', off', he, _, h1⟩ := hs j x hx
      injection he with he
      injection he with e1 e2 e3
      subst e1 e2
      simpa [strs, Enc.of1] using h1 0 (.string x) rfl) hb (by rw [toB_len]; omega) (by rw [toB_len]; exact hc)
    rw [toB_len, show (toB ps).map (·.data.toList) = ps by unfold toB; rw [List.map_map]; exact List.map_id'' (fun _ => rfl) ps, show (⟨#[32]⟩ : ByteArray).data.toList = [32] from rfl] at h
    exact h (by omega)
theorem idxF_some {ws : List (List UInt8)} {w : List UInt8} {k : Nat} (h : idxF ws w = (k : Int)) : ws[k]? = some w := by
  unfold idxF at h
  cases hf : ws.findIdx? (fun x => x == w) with
  | none =>
    rw [hf] at h
    have h' : (-1 : Int) = (k : Int) := h
    omega
  | some i =>
    rw [hf] at h
    have h' : (i : Int) = (k : Int) := h
    have hik : i = k := by omega
    subst hik
    obtain ⟨hlt, h1, _⟩ := List.findIdx?_eq_some_iff_getElem.1 hf
    rw [List.getElem?_eq_getElem hlt]
    exact congrArg some (by simpa using h1)
theorem idxF_bd (ws : List (List UInt8)) (w : List UInt8) : -1 ≤ idxF ws w ∧ idxF ws w < ws.length := by
  unfold idxF
  cases hf : ws.findIdx? (fun x => x == w) with
  | none => exact ⟨by show (-1 : Int) ≤ -1; omega, by show (-1 : Int) < _; omega⟩
  | some i =>
    obtain ⟨hlt, _, _⟩ := List.findIdx?_eq_some_iff_getElem.1 hf
    exact ⟨by show (-1 : Int) ≤ (i : Int); omega, by show (i : Int) < _; omega⟩
/-- Where "readers" stands at 7 and "init" no earlier, "init" stands behind it. -/
theorem idx_behind {ws : List (List UInt8)} (h7 : idxF ws rdrW = 7) (hi : 7 ≤ idxF ws iniW) : 8 ≤ idxF ws iniW := by
  by_cases h : idxF ws iniW = 7
  · have h1 := idxF_some (k := 7) h7
    have h2 := idxF_some (k := 7) h
    rw [h1] at h2
    exact absurd (Option.some.inj h2) (by decide)
  · omega
theorem jtail_len (r : List (List UInt8)) : (Lib.join r [32]).length ≤ (Lib.joinTail [32] r).length := by
  cases r with
  | nil => exact Nat.zero_le _
  | cons x r => rw [Lib.join_cons]; simp [Lib.joinTail]
theorem join_drop_le (k : Nat) : ∀ ps : List (List UInt8), (Lib.join (ps.drop k) [32]).length ≤ (Lib.join ps [32]).length := by
  induction k with
  | zero => intro ps; exact Nat.le_refl _
  | succ k ih =>
    intro ps
    cases ps with
    | nil => exact Nat.le_refl _
    | cons x r =>
      rw [List.drop_succ_cons]
      refine Nat.le_trans (ih r) (Nat.le_trans (jtail_len r) ?_)
      rw [Lib.join_cons, List.length_append]
      omega
theorem drop_join_le (k : Nat) (l : List UInt8) : (Lib.join ((pcs 32 l).drop k) [32]).length ≤ l.length := by
  have := join_drop_le k (pcs 32 l)
  rw [join_pcs] at this
  exact this
theorem pcs_len_le (c : UInt8) (l : List UInt8) : (pcs c l).length ≤ l.length + 1 := by
  induction l with
  | nil => simp [pcs]
  | cons a l ih =>
    unfold pcs
    split
    · simp only [List.length_cons]; omega
    · simp only [List.length_cons, List.length_tail]; omega

end Go.Proofs.YtfgmebjbibbpdaaGreatDoor

namespace Go.Proofs.YtfgmebjbibbpdaaGreatDoor
open Go.RowKit
attribute [local go_sem] Oper.semAt_some

/-- A row of one's own, from lo on, that does not lie in nb. -/
def FarS (E : Enc Int) (t : TypeId) (w : World) (lo nb : Nat) (A : Option Addr) (n c : Nat) (l : List Int) : Prop := Own E t lo w (.slice A n c) l ∧ (Value.slice A n c).ownBlock ≠ some nb
theorem FarS.sl {E : Enc Int} {t : TypeId} {w : World} {lo nb n c : Nat} {A : Option Addr} {l : List Int} (h : FarS E t w lo nb A n c l) : SlOf E w w.heap.size A l := by
  obtain ⟨A', c', hv, _, _, hs⟩ := h.1.sl
  injection hv with h1
  rw [h1]
  exact hs
theorem FarS.below {E : Enc Int} {t : TypeId} {w w' : World} {lo nb n c : Nat} {A : Option Addr} {l : List Int} (h : FarS E t w lo nb A n c l) (hb : Below w.heap.size w w') : FarS E t w' lo nb A n c l := ⟨h.1.below hb (Nat.le_refl _), h.2⟩
theorem FarS.set {E : Enc Int} {t : TypeId} {w : World} {lo nb n c : Nat} {A : Option Addr} {l : List Int} (h : FarS E t w lo nb A n c l) (b j : Nat) (v : Value) (hb : b < lo ∨ b = nb) : FarS E t (w.setCell ⟨b, j, none⟩ v) lo nb A n c l := by
  refine ⟨?_, h.2⟩
  rcases hb with hb | rfl
  · exact ownsRow_setCell_below h.1 (a := ⟨b, j, none⟩) hb v
  · exact ownsRow_setCell_other h.1 (a := ⟨b, j, none⟩) h.2 v
theorem FarS.set8 {E : Enc Int} {t : TypeId} {w : World} {lo nb n c : Nat} {A : Option Addr} {l : List Int} (h : FarS E t w lo nb A n c l) (b : Nat) (hb : b < lo ∨ b = nb) (v0 v1 v2 v3 v4 v5 v6 v7 : Value) :
    FarS E t ((((((((w.setCell ⟨b, 0, none⟩ v0).setCell ⟨b, 1, none⟩ v1).setCell ⟨b, 2, none⟩ v2).setCell ⟨b, 3, none⟩ v3).setCell ⟨b, 4, none⟩ v4).setCell ⟨b, 5, none⟩ v5).setCell ⟨b, 6, none⟩ v6).setCell ⟨b, 7, none⟩ v7) lo nb A n c l :=
  (((((((h.set b 0 v0 hb).set b 1 v1 hb).set b 2 v2 hb).set b 3 v3 hb).set b 4 v4 hb).set b 5 v5 hb).set b 6 v6 hb).set b 7 v7 hb
theorem own_blk {E : Enc Int} {t : TypeId} {base : Nat} {w : World} {v : Value} {l : List Int} (h : Own E t base w v l) {b : Nat} (hb : v.ownBlock = some b) : base ≤ b ∧ b < w.heap.size := by
  rcases h.2 with ⟨e, _⟩ | ⟨g, cap, cur, e, hg, hh, _⟩
  · rw [e] at hb; cases hb
  · rw [e] at hb
    have : g = b := Option.some.inj hb
    subst this
    exact ⟨hg, (Array.getElem?_eq_some_iff.1 hh).1⟩
/-- Where the row was made ahead of the object. -/
theorem Own.farA {E : Enc Int} {t : TypeId} {base n c lo nb : Nat} {w : World} {A : Option Addr} {l : List Int} (h : Own E t base w (.slice A n c) l) (hlo : lo ≤ base) (hn : w.heap.size = nb) : FarS E t w lo nb A n c l :=
  ⟨h.mono hlo, fun e => by have := own_blk h e; omega⟩
/-- Where it was made behind it. -/
theorem Own.farB {E : Enc Int} {t : TypeId} {base n c lo nb : Nat} {w : World} {A : Option Addr} {l : List Int} (h : Own E t base w (.slice A n c) l) (hlo : lo ≤ base) (hn : nb < base) : FarS E t w lo nb A n c l :=
  ⟨h.mono hlo, fun e => by have := own_blk h e; omega⟩
theorem recG_len (ps : List (List UInt8)) : (recG ps).length ≤ (Lib.join ps [32]).length + 1 := by
  unfold recG
  split
  · unfold readL
    split
    · simp
    · rw [List.length_map]; exact pcs_len_le 32 _
  · simp
/-- record.Read of the words behind, however it ends. -/
theorem readG_any (ps : List (List UInt8)) (w : World) (lo nb : Nat) (hlo : lo ≤ w.heap.size) (hnb : nb < w.heap.size) (hs : (Lib.join ps [32]).length ≤ 1000000) :
    Calls Tryz.prog 74 #[.string ⟨(Lib.join ps [32]).toArray⟩, .int .i64 65536] w fun e w' => ∃ A c ok, e = .returned (.tuple #[.slice A (recG ps).length c, .bool ok]) ∧ FarS (ints .u32) 38 w' lo nb A (recG ps).length c (recG ps) ∧ ((recG ps).length ≤ c ∧ c ≤ maxLen) ∧ Below w.heap.size w w' :=
  (read_any ⟨(Lib.join ps [32]).toArray⟩ 65536 w (by show (Lib.join ps [32]).toArray.size ≤ _; rw [List.size_toArray]; exact hs) (by omega) (by omega)).mono fun e w' ⟨v, he, h1, h2, hb⟩ => by
    rw [show (⟨(Lib.join ps [32]).toArray⟩ : ByteArray).data.toList = Lib.join ps [32] from rfl] at he h1 h2
    rcases hok : readB 65536 (Lib.join ps [32]) with _ | _
    · have hr : recG ps = [] := by unfold recG; rw [hok]; rfl
      rw [hr]
      rw [h2 hok] at he
      exact ⟨none, 0, _, he, ⟨Own.nil _ _, fun e => by cases e⟩, ⟨by simp, by simp [maxLen]⟩, hb⟩
    · have hr : recG ps = readL (Lib.join ps [32]) := by unfold recG; rw [hok]; rfl
      rw [hr]
      have ho := h1 hok
      obtain ⟨A, c, hv, hc, _⟩ := ho.ws
      subst hv
      exact ⟨A, c, _, he, Own.farB ho.1 hlo hnb, hc, hb⟩
theorem recG_wf (ps : List (List UInt8)) : ∀ z ∈ recG ps, (Lit.int .u32 z).wf = true := fun z hz => by
  have := recG_bd ps z hz
  exact u32_to this.1 this.2
theorem kidx_bd (x : List UInt8) : -1 ≤ kidx x ∧ kidx x ≤ 5 := by
  unfold kidx
  cases h : kindsT.findIdx? fun z => z == x with
  | none => simp
  | some k =>
    have := (List.findIdx?_eq_some_iff_getElem.1 h).1
    simp [kindsT] at this
    simp
    omega

end Go.Proofs.YtfgmebjbibbpdaaGreatDoor
