/- The statement ObjectSteps: the walk where it begins. -/
import Derived.Test.YtgjcniokgdicpaaGreatDoorZcOrT
import Derived.Test.YtgjcniokgdicpaaGreatDoorZcI
namespace Go.Proofs.YtgjcniokgdicpaaGreatDoor
open Go.RowKit
attribute [local go_sem] Oper.semAt_some
set_option maxHeartbeats 8000000
set_option maxRecDepth 100000
theorem cat_form2 {w : World} {base n : Nat} {e : TypeId} {v : Value} {xs : List Value} {a b : Nat} (h : w.ownsRow base e 1 v n xs) (hb : v.ownBlock = some a ∨ v.ownBlock = some b) : ∃ g cap, v = .slice (some ⟨g, 0, none⟩) n cap ∧ base ≤ g ∧ n ≤ cap := by
 rcases h.2 with ⟨rfl, _⟩ | ⟨g, cap, cur, rfl, hg, _, hc, _⟩
 ·rcases hb with q | q <;> cases q
 ·exact ⟨g, cap, rfl, hg, hc⟩
theorem stps_M (c : Cs) (r l : List Int) (ps : List Pk) (W : World) (h : CsOk c r l ps W) (hob : c.o.Ok) (hrl : r.length ≤ 1000000) (hlight : decide (lightB c) = true) (hcode : begE c.o c.a c.op c.rd r.length = 0) : Calls Tryz.prog 5 #[.agg (csA c)] W fun e w' => e = .returned (.bool true) ∧ Below W.heap.size W w' := by
 have hb0 := (Below.refl W.heap.size W).alloc (Nat.le_refl _) (.cells (csA c) 39)
 have hn0 := RowB.new W (csA c) 39
 have hl4 : c.ln ≤ 400 := (of_decide_eq_true hlight).2.2.2.1
 have hp1 : c.pn ≤ 100 := (of_decide_eq_true hlight).2.2.2.2
 have hli := light_g c
 rw [hlight] at hli
 have HLI := Lib.hid hli
 have HX := Lib.hid h
 obtain ⟨n, hn⟩ : ∃ n, W.heap.size = n := ⟨_, rfl⟩
 rw [hn] at hn0
 have HB0 := Lib.hid hb0
 have HN0 := Lib.hid hn0
 have HNN := Lib.hid hn
 clear hli hlight h hb0 hn0
 unfold csA at HLI HB0 HN0
 unfold csA
 go_enter Tryz.func5, Tryz.ntmps5
 go_wp2_with fail
 refine (HLI.out _).mono ?_
 rintro e w1 ⟨rfl, hb1⟩
 have hn1 := HN0.out.kept hb1
 have HB1 := Lib.hid (HB0.out.trans (hb1.mono HB0.out.size))
 have HN1 := Lib.hid (show RowB w1 n (csA c) 39 from hn1)
 clear hb1 hn1
 have c0 := HN1.out.at 0 (.int .i64 c.o.k)
 have c1 := HN1.out.at 1 (.int .i64 c.o.wd)
 have c2 := HN1.out.at 2 (.int .i64 c.o.s)
 have c3 := HN1.out.at 3 (.int .i64 c.o.c)
 have c4 := HN1.out.at 4 (.int .u32 c.o.st)
 have c5 := HN1.out.at 5 (.slice c.o.I c.o.ni c.o.ci)
 have c6 := HN1.out.at 6 (.int .i64 c.o.wr)
 have c7 := HN1.out.at 7 (.slice c.o.R c.o.nr c.o.cr)
 have c8 := HN1.out.at 8 (.int .i64 c.a)
 have c9 := HN1.out.at 9 (.int .i64 c.op)
 have c10 := HN1.out.at 10 (.int .i64 c.rd)
 have c11 := HN1.out.at 11 (.slice c.RA c.rn c.rc)
 have hbg := obegin_o c.o c.a c.op c.rd c.RA c.rc r hob w1 (by have := HX.out.rn; have := hrl; omega) (HX.out.r.below HB1.out HB1.out.size) HX.out.a1
 rw [← HX.out.rn] at hbg
 obtain ⟨code, hc0⟩ : ∃ x, begE c.o c.a c.op c.rd r.length = x := ⟨_, rfl⟩
 have HC0 := Lib.hid hc0
 have hc1 : begE c.o c.a c.op c.rd c.rn = code := by rw [HX.out.rn]; exact hc0
 rw [hc1] at hbg
 have HBG := Lib.hid hbg
 rw [hc0] at hcode
 have d0 : (code != 0) = false := by simpa using hcode
 have d00 : (code == 0) = true := by simpa using hcode
 have HC := Lib.hid hcode
 clear hbg hc0 hc1 hcode
 unfold obA at HBG
 go_wp2_with fail
 refine HBG.out.mono ?_
 rintro e w2 ⟨x, rfl, hbe⟩
 obtain ⟨hb2, hno, hyes⟩ := hbe
 have HN2 := Lib.hid (HN1.out.kept hb2)
 have HB2 := Lib.hid (HB1.out.trans (hb2.mono HB1.out.size))
 obtain ⟨xb, sb, ty, rv, rfl, hxb, hsb, hrv, hoj, hinv⟩ := hyes (by rw [HC0.out]; exact HC.out)
 have HOJ := Lib.hid hoj
 have HIV := Lib.hid hinv
 have HLT := Lib.hid (And.intro hxb (And.intro hsb hrv))
 clear hb2 hno hyes hoj hinv hxb hsb hrv
 clear c0 c1 c2 c3 c4 c5 c6 c7 c8 c9 c10 c11
 have c0 := HN2.out.at 0 (.int .i64 c.o.k)
 have c1 := HN2.out.at 1 (.int .i64 c.o.wd)
 have c2 := HN2.out.at 2 (.int .i64 c.o.s)
 have c3 := HN2.out.at 3 (.int .i64 c.o.c)
 have c4 := HN2.out.at 4 (.int .u32 c.o.st)
 have c5 := HN2.out.at 5 (.slice c.o.I c.o.ni c.o.ci)
 have c6 := HN2.out.at 6 (.int .i64 c.o.wr)
 have c7 := HN2.out.at 7 (.slice c.o.R c.o.nr c.o.cr)
 have c8 := HN2.out.at 8 (.int .i64 c.a)
 have c9 := HN2.out.at 9 (.int .i64 c.op)
 have c10 := HN2.out.at 10 (.int .i64 c.rd)
 have c11 := HN2.out.at 11 (.slice c.RA c.rn c.rc)
 have hbr := rbegin_o c.o c.a c.op c.rd c.RA c.rc r hob w2 (by have := HX.out.rn; have := hrl; omega) (HX.out.r.below HB2.out HB2.out.size)
 rw [← HX.out.rn] at hbr
 rw [show begE c.o c.a c.op c.rd c.rn = code by rw [HX.out.rn]; exact HC0.out] at hbr
 have HBR := Lib.hid hbr
 clear hbr
 unfold obA at HBR
 go_wp2_with fail
 refine HBR.out.mono ?_
 rintro e w3 ⟨y, rfl, hbe⟩
 obtain ⟨hb3, hno, hyes⟩ := hbe
 have HN3 := Lib.hid (HN2.out.kept hb3)
 have HB3 := Lib.hid (HB2.out.trans (hb3.mono HB2.out.size))
 obtain ⟨yb, ry, rfl, hyb, hrow, hown, hsep⟩ := hyes (by rw [HC0.out]; exact HC.out)
 have HY := Lib.hid (And.intro hyb (And.intro hrow (And.intro hown hsep)))
 have HJ3 := Lib.hid (HOJ.out.below hb3)
 clear hb3 hno hyes hyb hrow hown hsep
 clear c0 c1 c2 c3 c4 c5 c6 c7 c8 c9 c10 c11
 have c12 := HN3.out.at 12 (.slice c.LA c.ln c.lc)
 have hcc : (code != code) = false := by simp
 have HME := Lib.hid (memory_g c.LA c.lc l (by have := HX.out.ln; omega) w3 (HX.out.l.below HB3.out HB3.out.size))
 have hmln : c.ln = l.length := HX.out.ln
 have HME2 := HME
 rw [← hmln] at HME2
 have HMM := HME2
 clear hmln HME HME2
 go_wp2_with fail
 refine HMM.out.mono ?_
 rintro e w5 ⟨mb, lb, rfl, hlb, hmb, hm, hb5⟩
 have HOJ5 := Lib.hid (HJ3.out.below hb5)
 have HR5 := Lib.hid (HY.out.2.1.kept hb5)
 have HW5 := Lib.hid (HY.out.2.2.1.below hb5 (Nat.le_refl _) |>.mono (Nat.zero_le _))
 have HB5 := Lib.hid (HB3.out.trans (hb5.mono HB3.out.size))
 have HN5 := Lib.hid (HN3.out.kept hb5)
 have HM5 := Lib.hid hm
 have HLB := Lib.hid (And.intro hlb hmb)
 clear hlb hmb hm hb5 c12
 have c12 := HN5.out.at 12 (.slice c.LA c.ln c.lc)
 have hempty := World.ownsRow_lit (base := w5.heap.size) (e := 32) (size := 1) w5 #[] 0 (Nat.le_refl _) (by simp [maxLen]) rfl
 have HEM := Lib.hid hempty
 have hb6 := (Below.refl w5.heap.size w5).alloc (Nat.le_refl _) (.cells #[] 32)
 have HWS := Lib.hid (HX.out.l.below (HB5.out.trans (hb6.mono HB5.out.size)) (Nat.le_refl _))
 have HB6 := Lib.hid hb6
 have HLN := Lib.hid HX.out.ln
 clear hempty hb6
 have HN6 := Lib.hid (HN5.out.kept HB6.out)
 have c12a := HN6.out.at 12 (.slice c.LA c.ln c.lc)
 clear c12
 go_wp2_with (at_builtin; refine wpList_cat rfl _ _ rfl HEM.out rfl rfl HLN.out HWS.out (by have := HX.out.ln; omega) (by rw [World.size_alloc]; omega) ?_; intro v7 w7 hown7 hgr7 hob7; simp only [Nat.zero_add, List.nil_append] at hown7; obtain ⟨l2, cap, rfl, hl2, hcap⟩ := cat_form2 hown7 hob7; have HN7 := Lib.hid (HN5.out.below (HB6.out.trans (grown_below HEM.out hgr7 (Nat.le_refl _) (by rw [World.size_alloc]; omega))) HN5.out.lt); have HB7 := Lib.hid (HB6.out.trans (grown_below HEM.out hgr7 (Nat.le_refl _) (by rw [World.size_alloc]; omega))); have HO7 := Lib.hid hown7; clear hown7 hgr7 hob7)
 clear c12a
 have hbb := HB7.out
 have hW7 := HB5.out.trans (hbb.mono HB5.out.size)
 have hoj7 := (HOJ5.out.tch (T := fun _ => False) (Tch.of_below _ hbb) (fun h => h) (fun h => h) (fun _ _ h => h))
 have hm7 := HM5.out.tch (T := fun _ => False) (Tch.of_below _ hbb) (fun h => h) (fun h => h)
 have hl2lt : w5.heap.size ≤ l2 := hl2
 have hown8 : Own (ints .u32) 32 0 w7 (.slice (some ⟨l2, 0, none⟩) l.length cap) l := by
  have hall : (ints .u32).all l = l.map (Value.int .u32) := of1_all _ _ l
  have h1 : Own (ints .u32) 32 w5.heap.size w7 (.slice (some ⟨l2, 0, none⟩) l.length cap) l := by
   unfold Own
   rw [hall]
   exact HO7.out
  exact h1.mono (Nat.zero_le _)
 have hsb2 : sb < w2.heap.size := by
  obtain ⟨u, _, hr⟩ := HOJ.out.op.row
  exact hr.lt
 have hmlt5 : mb < w5.heap.size ∧ lb < w5.heap.size := by
  obtain ⟨kk, cc, hr, ho, _⟩ := HM5.out
  obtain ⟨cur, hc⟩ := own_row ho
  exact ⟨hr.lt, hc.lt⟩
 obtain ⟨hxb2, hsb1, hrv2⟩ := HLT.out
 obtain ⟨hlbx, hmbx⟩ := HLB.out
 obtain ⟨hyb, hyrow, hyown, hysep⟩ := HY.out
 have hn1lt := HN1.out.lt
 have hnn := HNN.out
 have h12 : w1.heap.size ≤ w2.heap.size := by have := HOJ.out.row.lt; omega
 have h23 : w2.heap.size ≤ w3.heap.size := by have := hyrow.lt; omega
 have h35 : w3.heap.size ≤ w5.heap.size := by omega
 have hn7 := HN7.out
 rw [← hnn] at hn7
 have hE0 := two_start (W := W) (c := c) (l := l) (cap := cap) (HC0.out.trans HC.out) hoj7 HIV.out hm7 hown8 (HR5.out.kept hbb) (HW5.out.below hbb (Nat.le_refl _)) hW7 hn7 (n1 := w1.heap.size) (n2 := w2.heap.size) (n3 := w3.heap.size) (n5 := w5.heap.size) (by omega) h12 h23 h35 ⟨hxb2, HOJ.out.row.lt⟩ ⟨hsb1, hsb2⟩ (fun b hb => ⟨hrv2 b hb, (World.ownsRow.lt HOJ.out.op.rc b hb).2⟩) ⟨hyb, hyrow.lt⟩ (fun b hb => ⟨(World.ownsRow.lt hyown b hb).1, (World.ownsRow.lt hyown b hb).2, fun e => hysep (by rw [hb, e])⟩) ⟨hmbx, hmlt5.1⟩ ⟨hlbx, hmlt5.2⟩ hl2lt
 have HE0 := Lib.hid hE0
 have HPN := Lib.hid HX.out.pn
 have HCAP := Lib.hid (show l.length ≤ cap from hcap)
 clear hbb hW7 hoj7 hm7 hl2lt hown8 hsb2 hmlt5 hxb2 hsb1 hrv2 hlbx hmbx hyb hyrow hyown hysep hn1lt hnn h12 h23 h35 hn7 hE0 hl2
 go_wp2_with fail
 go_loopw [11, 12, 13, 14, 15, 16] (fun v _ _ _ _ _ wr => ∃ k : Nat, k ≤ 130 ∧ v = .int .i64 k ∧ ∃ (sb : Nat) (ty : TypeId) (cx d : Kc) (rv mp ry : Value) (lm : List Int), Two W c xb yb mb lb l2 cap sb ty cx d rv mp ry lm wr ∧ lm.length = l.length) (fun v _ _ _ _ _ _ => 130 - (intOf v).toNat)
 case atStart => exact ⟨0, Nat.zero_le _, rfl, _, _, _, _, _, _, _, _, HE0.out, rfl⟩
 case round =>
  obtain ⟨k, hk, rfl, sbk, tyk, cx, d, rvk, mpk, ryk, lm, hT, hL⟩ := hrel
  by_cases hlt : k < 130
  ·have hkd : decide ((k : Int) < 130) = true := decide_eq_true (by omega)
   have hr' := hT.row
   rw [HNN.out] at hr'
   have hlen0 : (pokes (k : Int) ps lm).length = l.length := by rw [pokes_len, hL]
   have hpo := poked_g c (k : Int) ps mb lb l2 cap W.heap.size lm lm wr hT.bo HPN.out (by have := HPN.out; omega) (HX.out.p.below hT.bel (Nat.le_refl _)) hT.bel.size (Nat.le_of_lt hT.low.2.2.1) (Nat.le_of_lt hT.low.2.2.2.1) (Nat.le_of_lt hT.low.2.2.2.2.1)
   rw [hL] at hpo
   have HPO := Lib.hid hpo
   have HT := Lib.hid hT
   have HL0 := Lib.hid hlen0
   have HLL := Lib.hid hL
   unfold csA at HPO
   have k0 := hr'.at 0 (.int .i64 c.o.k)
   have k1 := hr'.at 1 (.int .i64 c.o.wd)
   have k2 := hr'.at 2 (.int .i64 c.o.s)
   have k3 := hr'.at 3 (.int .i64 c.o.c)
   have k4 := hr'.at 4 (.int .u32 c.o.st)
   have k5 := hr'.at 5 (.slice c.o.I c.o.ni c.o.ci)
   have k6 := hr'.at 6 (.int .i64 c.o.wr)
   have k7 := hr'.at 7 (.slice c.o.R c.o.nr c.o.cr)
   have k8 := hr'.at 8 (.int .i64 c.a)
   have k9 := hr'.at 9 (.int .i64 c.op)
   have k10 := hr'.at 10 (.int .i64 c.rd)
   have k11 := hr'.at 11 (.slice c.RA c.rn c.rc)
   have k12 := hr'.at 12 (.slice c.LA c.ln c.lc)
   have k13 := hr'.at 13 (.slice c.PA c.pn c.pc)
   clear hpo hT hr' hlen0 hL
   go_wp2_with fail
   refine HPO.out.mono ?_
   rintro e w9 ⟨rfl, hbo9, ht9⟩
   have hT9 := HT.out.poked hbo9 (by rw [pokes_len]) ht9
   have hcl := oclone_o xb sbk tyk c.o cx rvk mpk w9 hT9.oj hT9.inv
   have HT9 := Lib.hid hT9
   have HCL := Lib.hid hcl
   clear hbo9 ht9 hT9 hcl k0 k1 k2 k3 k4 k5 k6 k7 k8 k9 k10 k11 k12 k13
   go_wp2_with fail
   refine HCL.out.mono ?_
   rintro e w10 ⟨zx, rfl, hb10, zs, zt, zr, hz⟩
   have HT10 := Lib.hid (HT9.out.belo hb10)
   have HZ := Lib.hid hz
   clear hb10 hz
   go_wp2_with fail
   cases hcan : cx.can (pokes (k : Int) ps lm)
   ·have hno := ostep_no xb sbk mb lb tyk c.o cx rvk mpk (pokes (k : Int) ps lm) w10 HT10.out.oj HT10.out.bo.mem HT10.out.inv hcan
    have HNO := Lib.hid hno
    have HCN := Lib.hid hcan
    clear hno hcan
    refine HNO.out.mono ?_
    rintro e w11 ⟨rfl, hb11⟩
    have hT11 := HT10.out.belo hb11
    have hys := rstep_no yb l2 cap c.o cx d ryk (pokes (k : Int) ps lm) w11 hT11.sr hob hT11.rel hT11.size HCN.out
    rw [HL0.out] at hys
    have HYS := Lib.hid hys
    have HT11 := Lib.hid hT11
    clear hb11 hT11 hys
    go_wp2_with fail
    refine HYS.out.mono ?_
    rintro e w12 ⟨rfl, hsr, hmv⟩
    have hT12 := HT11.out.both HT11.out.oj HT11.out.bo.mem ⟨HT11.out.r1.1, HT11.out.r1.2.1⟩ (Mv.refl _ _) hsr hmv HT11.out.inv HT11.out.rel rfl
    have HT12 := Lib.hid hT12
    have han := oanswer_o xb sbk tyk c.o cx rvk mpk w12 hT12.oj hT12.inv
    have HAN := Lib.hid han
    clear hsr hmv hT12 han
    go_wp2_with fail
    refine HAN.out.mono ?_
    rintro e w13 ⟨v, rfl, hv, hb13⟩
    have HT13 := Lib.hid (HT12.out.belo hb13)
    obtain ⟨A5, c5, rfl, _, _⟩ := hv.ws
    have HV := Lib.hid hv
    clear hv hb13
    go_wp2_with fail
    have HRS := Lib.hid (Kc.rel_says HT13.out.rel)
    have HTd := Lib.hid (HT13.out.belo (Below.refl _ w13).drew)
    have HVd := Lib.hid (HV.out.below (Below.refl _ w13).drew (Nat.le_refl _))
    have hSd : (fun w' : World => w'.cell? ⟨yb, 39, none⟩ = some (.bool cx.over) ∧ w'.cell? ⟨yb, 15, none⟩ = some (.int .i64 (cx.steps : Int))) w13.drew := ⟨(HTd.out.sr.row.cell 39).trans (by show some (Value.bool d.over) = _; rw [HRS.out.1]), (HTd.out.sr.row.cell 15).trans (by show some (Value.int .i64 (d.steps : Int)) = _; rw [HRS.out.2.2.2])⟩
    refine wp_region_held_drew (S := (fun w' : World => w'.cell? ⟨yb, 39, none⟩ = some (.bool cx.over) ∧ w'.cell? ⟨yb, 15, none⟩ = some (.int .i64 (cx.steps : Int)))) (by kernel_rfl) hSd (fun hHeld => ?_)
    clear hSd
    generalize w13.drew = w14 at hHeld HTd HVd ⊢
    have hHeld : (fun w' : World => w'.cell? ⟨yb, 39, none⟩ = some (.bool cx.over) ∧ w'.cell? ⟨yb, 15, none⟩ = some (.int .i64 (cx.steps : Int))) w14 := hHeld
    refine tk4 0 1 2 3 ?_
    refine tk4 4 6 7 8 ?_
    refine tkH 9 ?_
    refine clH 5 (fun K hK => ?_)
    ·go_simp
     go_at_call 20
     refine (oover_o xb _ _ c.o cx rvk mpk w14 HTd.out.oj HTd.out.inv).mono ?_
     rintro ex wq ⟨rfl, hwq⟩
     rw [hwq]
     clear hwq
     have hSx : (fun w' : World => w'.cell? ⟨yb, 39, none⟩ = some (.bool cx.over) ∧ w'.cell? ⟨yb, 15, none⟩ = some (.int .i64 (cx.steps : Int))) w14 := hHeld
     refine kH hK hSx fun hHeld => ?_
     clear hK K
     refine tk4 10 11 12 13 ?_
     refine tk4 15 16 17 18 ?_
     refine clH 14 (fun K hK => ?_)
     ·go_simp
      go_at_call 22
      refine (osteps_o xb _ _ c.o cx rvk mpk w14 HTd.out.oj HTd.out.inv).mono ?_
      rintro ex w15 ⟨rfl, hb15⟩
      have HTe := Lib.hid (HTd.out.belo hb15)
      have HVe := Lib.hid (HVd.out.below hb15 (Nat.le_refl _))
      have hSx : (fun w' : World => w'.cell? ⟨yb, 39, none⟩ = some (.bool cx.over) ∧ w'.cell? ⟨yb, 15, none⟩ = some (.int .i64 (cx.steps : Int))) w15 := ⟨(HTe.out.sr.row.cell 39).trans (by show some (Value.bool d.over) = _; rw [HRS.out.1]), (HTe.out.sr.row.cell 15).trans (by show some (Value.int .i64 (d.steps : Int)) = _; rw [HRS.out.2.2.2])⟩
      clear hb15
      refine kH hK hSx fun hHeld => ?_
      clear hK K
      refine tk4 19 20 21 22 ?_
      refine tkH 24 ?_
      refine clH 23 (fun K hK => ?_)
      ·go_simp
       go_at_call 28
       refine (words_g mb lb _ w15 HTe.out.bo.mem).mono ?_
       rintro ex w16 ⟨vv, rfl, hvv, hb16⟩
       obtain ⟨A8, M8, c8, rfl⟩ := own_slice hvv.1
       have HTf := Lib.hid (HTe.out.belo hb16)
       have HVf := Lib.hid (HVe.out.below hb16 (Nat.le_refl _))
       have HVV := Lib.hid hvv
       have hSx : (fun w' : World => w'.cell? ⟨yb, 39, none⟩ = some (.bool cx.over) ∧ w'.cell? ⟨yb, 15, none⟩ = some (.int .i64 (cx.steps : Int))) w16 := ⟨(HTf.out.sr.row.cell 39).trans (by show some (Value.bool d.over) = _; rw [HRS.out.1]), (HTf.out.sr.row.cell 15).trans (by show some (Value.int .i64 (d.steps : Int)) = _; rw [HRS.out.2.2.2])⟩
       clear hb16 hvv
       refine kH hK hSx fun hHeld => ?_
       clear hK K
       refine clH 25 (fun K hK => ?_)
       ·go_simp
        go_at_call 27
        have hws := own_ws HVV.out.1 HTf.out.bo.mem.w32
        have hw2 := own_ws HTf.out.sr.mem HTf.out.sr.w32
        rw [HL0.out] at hws hw2
        obtain ⟨hm8, hws⟩ := hws
        subst hm8
        have hpw := pwords_any A8 (some ⟨l2, 0, none⟩) c8 cap (pokes (k : Int) ps lm) (pokes (k : Int) ps lm) w16 (by have := HTf.out.bo.mem.len; omega) (by have := HTf.out.bo.mem.len; omega) hws hw2.2
        rw [HL0.out] at hpw
        refine hpw.mono ?_
        rintro ex w17 ⟨rfl, hb17⟩
        rw [decide_eq_true rfl]
        have HTg := Lib.hid (HTf.out.belo hb17)
        have HVg := Lib.hid (HVf.out.below hb17 (Nat.le_refl _))
        have hSx : (fun w' : World => w'.cell? ⟨yb, 39, none⟩ = some (.bool cx.over) ∧ w'.cell? ⟨yb, 15, none⟩ = some (.int .i64 (cx.steps : Int))) w17 := ⟨(HTg.out.sr.row.cell 39).trans (by show some (Value.bool d.over) = _; rw [HRS.out.1]), (HTg.out.sr.row.cell 15).trans (by show some (Value.int .i64 (d.steps : Int)) = _; rw [HRS.out.2.2.2])⟩
        clear hb17 hpw hws hw2
        refine kH hK hSx fun hHeld => ?_
        clear hK K
        refine tk4 26 27 28 29 ?_
        refine tkH 30 ?_
        refine sk4 31 32 33 34 ?_
        refine sk4 35 36 37 38 ?_
        refine tk2 39 40 ?_
        refine wpAnyH_done (by kernel_rfl) ?_ _
        clear hHeld
        try clear ewr
        cases hov : cx.over
        ·have y39 : w17.cell? ⟨yb, 39, none⟩ = some (.bool false) := (HTg.out.sr.row.cell 39).trans (by show some (Value.bool d.over) = _; rw [HRS.out.1, hov])
         have f1 : decide (0 < cx.sr.length) = false := by unfold Kc.sr; rw [hov]; rfl
         have f2 : (cx.sc != 0) = false := by unfold Kc.sc; rw [hov]; rfl
         go_wp2_with fail
         have HBE := Lib.hid HTg.out.bel
         refine (awake_g _ (tab_low HX.out.tab HBE.out) (by have := HBE.out.size; have := HX.out.g; omega)).mono ?_
         rintro e wz ⟨rfl, hbz⟩
         have HBZ := Lib.hid (HBE.out.trans (hbz.mono HBE.out.size))
         clear hbz
         go_wp2_with fail
         go_ret
         exact ⟨rfl, by first | exact HBZ.out | (rw [← HNN.out]; exact HBZ.out)⟩
        ·have hsr : cx.sr = cx.rc := by unfold Kc.sr; rw [hov]; rfl
         have hsc : cx.sc = cx.code := by unfold Kc.sc; rw [hov]; rfl
         have hry := HTg.out.sr.rc
         have hw32 := HTg.out.sr.w32r
         rw [HRS.out.2.2.1, ← hsr] at hry hw32
         obtain ⟨A6, M6, c6, rfl⟩ := own_slice hry
         obtain ⟨hm6, hws6⟩ := own_ws hry hw32
         subst hm6
         have hws5 := (own_ws HVg.out.1 hw32).2
         have hrl : cx.sr.length ≤ 1000000 := by have h1 := HTg.out.inv.gen.rcl; have h2 := HTg.out.inv.st; rw [hsr]; omega
         have y39 := HTg.out.sr.row.at 39 (.bool true) (by show some (Value.bool d.over) = _; rw [HRS.out.1, hov])
         have y38 := HTg.out.sr.row.at 38 (.slice A6 cx.sr.length c6)
         have hpw := pwords_any A5 A6 c5 c6 cx.sr cx.sr w17 (by omega) (by omega) hws5 hws6
         rw [decide_eq_true rfl] at hpw
         have HPW := Lib.hid hpw
         have HSC := Lib.hid hsc
         clear hpw hws5 hws6 hrl hsr hsc hry hw32
         go_wp2_with fail
         refine HPW.out.mono ?_
         rintro ex w19 ⟨rfl, hb19⟩
         have HTk := Lib.hid (HTg.out.belo hb19)
         have z39 := HTk.out.sr.row.at 39 (.bool true) (by show some (Value.bool d.over) = _; rw [HRS.out.1, hov])
         have z14 := HTk.out.sr.row.at 14 (.int .i64 cx.sc) (by show some (Value.int .i64 d.code) = _; rw [HRS.out.2.1, HSC.out])
         have e0 : (cx.sc != cx.sc) = false := by simp
         clear hb19
         go_wp2_with fail
         have HBE := Lib.hid HTk.out.bel
         refine (awake_g _ (tab_low HX.out.tab HBE.out) (by have := HBE.out.size; have := HX.out.g; omega)).mono ?_
         rintro e wz ⟨rfl, hbz⟩
         have HBZ := Lib.hid (HBE.out.trans (hbz.mono HBE.out.size))
         clear hbz
         go_wp2_with fail
         go_ret
         exact ⟨rfl, by first | exact HBZ.out | (rw [← HNN.out]; exact HBZ.out)⟩
   ·have hlo := HT10.out.low
    have hfpN : ¬ fp sbk mb lb rvk 0 := by
     have hg := HX.out.g
     have hgd : (0 : Nat) = gt0 := rfl
     rintro (q | q | q | q)
     ·omega
     ·omega
     ·omega
     ·have := HT10.out.lowr _ q; omega
    have hye := ostep_yes xb sbk mb lb tyk c.o cx rvk mpk (pokes (k : Int) ps lm) w10 HT10.out.oj HT10.out.bo.mem HT10.out.inv hcan HT10.out.s1.1 HT10.out.s1.2.1 HT10.out.r1.1 HT10.out.r1.2.1 HT10.out.x1.1 HT10.out.x1.2.1 (tab_low HX.out.tab HT10.out.bel) hfpN
    have HYE := Lib.hid hye
    have HCN := Lib.hid hcan
    clear hye hcan hfpN hlo
    refine HYE.out.mono ?_
    rintro e w11 hwe
    obtain ⟨rfl, hys⟩ := HT10.out.ystep hob HCN.out (by rw [HL0.out]; exact HCAP.out) hwe
    rw [HL0.out] at hys
    have HYS := Lib.hid hys
    clear hwe hys
    go_wp2_with fail
    refine HYS.out.mono ?_
    rintro e w12 ⟨rfl, rv1, mp1, ry1, d1, hT12, htw⟩
    have hst1 : (cx.step (pokes (k : Int) ps lm)).1.steps = cx.steps + 1 := (Kc.left_step (l := pokes (k : Int) ps lm) (can_yes HCN.out).1 HT10.out.inv.sta.wd1 HT10.out.inv.sta.nr1 HT10.out.inv.sta.cap1).2.2.2.2.2.2.2.2.2.2
    have hln1 : (cx.step (pokes (k : Int) ps lm)).2.length = l.length := (step_len _ _).trans HL0.out
    have hz12 := HT9.out.clone HZ.out.1 HZ.out.2.1 HZ.out.2.2.1 HZ.out.2.2.2 htw
    generalize (cx.step (pokes (k : Int) ps lm)).1 = c1 at hT12 hst1
    generalize (cx.step (pokes (k : Int) ps lm)).2 = l1 at hT12 hln1
    have HT12 := Lib.hid hT12
    have HL1 := Lib.hid hln1
    have HZ2 := Lib.hid hz12
    have HCX := Lib.hid HT10.out.inv
    have hew : IntKind.i64.wrap ((c1.steps : Int) - 1) = (cx.steps : Int) := by
     have h2 := HT10.out.inv.st
     rw [hst1, sh_wrap (by omega) (by omega)]
     omega
    have HEW := Lib.hid hew
    have han := oanswer_o xb sbk tyk c.o c1 rv1 mp1 w12 hT12.oj hT12.inv
    have HAN := Lib.hid han
    clear hT12 han hew htw hz12 hst1 hln1
    go_wp2_with fail
    refine HAN.out.mono ?_
    rintro e w13 ⟨v, rfl, hv, hb13⟩
    have HT13 := Lib.hid (HT12.out.belo hb13)
    have HZ3 := Lib.hid (HZ2.out.below hb13)
    obtain ⟨A5, c5, rfl, _, _⟩ := hv.ws
    have HV := Lib.hid hv
    clear hv hb13
    go_wp2_with fail
    have HRS := Lib.hid (Kc.rel_says HT13.out.rel)
    have HTd := Lib.hid (HT13.out.belo (Below.refl _ w13).drew)
    have HVd := Lib.hid (HV.out.below (Below.refl _ w13).drew (Nat.le_refl _))
    have HZd := Lib.hid (HZ3.out.below (Below.refl _ w13).drew)
    have hSd : (fun w' : World => w'.cell? ⟨yb, 39, none⟩ = some (.bool c1.over) ∧ w'.cell? ⟨yb, 15, none⟩ = some (.int .i64 (c1.steps : Int))) w13.drew := ⟨(HTd.out.sr.row.cell 39).trans (by show some (Value.bool d1.over) = _; rw [HRS.out.1]), (HTd.out.sr.row.cell 15).trans (by show some (Value.int .i64 (d1.steps : Int)) = _; rw [HRS.out.2.2.2])⟩
    refine wp_region_held_drew (S := (fun w' : World => w'.cell? ⟨yb, 39, none⟩ = some (.bool c1.over) ∧ w'.cell? ⟨yb, 15, none⟩ = some (.int .i64 (c1.steps : Int)))) (by kernel_rfl) hSd (fun hHeld => ?_)
    clear hSd
    generalize w13.drew = w14 at hHeld HTd HVd HZd ⊢
    have hHeld : (fun w' : World => w'.cell? ⟨yb, 39, none⟩ = some (.bool c1.over) ∧ w'.cell? ⟨yb, 15, none⟩ = some (.int .i64 (c1.steps : Int))) w14 := hHeld
    refine tk4 0 1 2 3 ?_
    refine tk4 4 6 7 8 ?_
    refine tkH 9 ?_
    refine clH 5 (fun K hK => ?_)
    ·go_simp
     go_at_call 20
     refine (oover_o xb _ _ c.o c1 rv1 mp1 w14 HTd.out.oj HTd.out.inv).mono ?_
     rintro ex wq ⟨rfl, hwq⟩
     rw [hwq]
     clear hwq
     have hSx : (fun w' : World => w'.cell? ⟨yb, 39, none⟩ = some (.bool c1.over) ∧ w'.cell? ⟨yb, 15, none⟩ = some (.int .i64 (c1.steps : Int))) w14 := hHeld
     refine kH hK hSx fun hHeld => ?_
     clear hK K
     refine tk4 10 11 12 13 ?_
     refine tk4 15 16 17 18 ?_
     refine clH 14 (fun K hK => ?_)
     ·go_simp
      go_at_call 22
      refine (osteps_o xb _ _ c.o c1 rv1 mp1 w14 HTd.out.oj HTd.out.inv).mono ?_
      rintro ex w15 ⟨rfl, hb15⟩
      have HTe := Lib.hid (HTd.out.belo hb15)
      have HVe := Lib.hid (HVd.out.below hb15 (Nat.le_refl _))
      have HZe := Lib.hid (HZd.out.below hb15)
      have hSx : (fun w' : World => w'.cell? ⟨yb, 39, none⟩ = some (.bool c1.over) ∧ w'.cell? ⟨yb, 15, none⟩ = some (.int .i64 (c1.steps : Int))) w15 := ⟨(HTe.out.sr.row.cell 39).trans (by show some (Value.bool d1.over) = _; rw [HRS.out.1]), (HTe.out.sr.row.cell 15).trans (by show some (Value.int .i64 (d1.steps : Int)) = _; rw [HRS.out.2.2.2])⟩
      clear hb15
      refine kH hK hSx fun hHeld => ?_
      clear hK K
      refine tk4 19 20 21 22 ?_
      refine tkH 24 ?_
      refine clH 23 (fun K hK => ?_)
      ·go_simp
       go_at_call 28
       refine (words_g mb lb _ w15 HTe.out.bo.mem).mono ?_
       rintro ex w16 ⟨vv, rfl, hvv, hb16⟩
       obtain ⟨A8, M8, c8, rfl⟩ := own_slice hvv.1
       have HTf := Lib.hid (HTe.out.belo hb16)
       have HVf := Lib.hid (HVe.out.below hb16 (Nat.le_refl _))
       have HZf := Lib.hid (HZe.out.below hb16)
       have HVV := Lib.hid hvv
       have hSx : (fun w' : World => w'.cell? ⟨yb, 39, none⟩ = some (.bool c1.over) ∧ w'.cell? ⟨yb, 15, none⟩ = some (.int .i64 (c1.steps : Int))) w16 := ⟨(HTf.out.sr.row.cell 39).trans (by show some (Value.bool d1.over) = _; rw [HRS.out.1]), (HTf.out.sr.row.cell 15).trans (by show some (Value.int .i64 (d1.steps : Int)) = _; rw [HRS.out.2.2.2])⟩
       clear hb16 hvv
       refine kH hK hSx fun hHeld => ?_
       clear hK K
       refine clH 25 (fun K hK => ?_)
       ·go_simp
        go_at_call 27
        have hws := own_ws HVV.out.1 HTf.out.bo.mem.w32
        have hw2 := own_ws HTf.out.sr.mem HTf.out.sr.w32
        rw [HL1.out] at hws hw2
        obtain ⟨hm8, hws⟩ := hws
        subst hm8
        have hpw := pwords_any A8 (some ⟨l2, 0, none⟩) c8 cap l1 l1 w16 (by have := HTf.out.bo.mem.len; omega) (by have := HTf.out.bo.mem.len; omega) hws hw2.2
        rw [HL1.out] at hpw
        refine hpw.mono ?_
        rintro ex w17 ⟨rfl, hb17⟩
        rw [decide_eq_true rfl]
        have HTg := Lib.hid (HTf.out.belo hb17)
        have HVg := Lib.hid (HVf.out.below hb17 (Nat.le_refl _))
        have HZg := Lib.hid (HZf.out.below hb17)
        have hSx : (fun w' : World => w'.cell? ⟨yb, 39, none⟩ = some (.bool c1.over) ∧ w'.cell? ⟨yb, 15, none⟩ = some (.int .i64 (c1.steps : Int))) w17 := ⟨(HTg.out.sr.row.cell 39).trans (by show some (Value.bool d1.over) = _; rw [HRS.out.1]), (HTg.out.sr.row.cell 15).trans (by show some (Value.int .i64 (d1.steps : Int)) = _; rw [HRS.out.2.2.2])⟩
        clear hb17 hpw hws hw2
        refine kH hK hSx fun hHeld => ?_
        clear hK K
        refine tk4 26 27 28 29 ?_
        refine tk4 30 31 33 34 ?_
        refine tk2 35 36 ?_
        refine tkH 37 ?_
        refine clH 32 (fun K hK => ?_)
        ·go_simp
         go_at_call 22
         refine (osteps_o zx zs zt c.o cx zr mpk w17 HZg.out HCX.out).mono ?_
         rintro ex w18 ⟨rfl, hb18⟩
         have HTh := Lib.hid (HTg.out.belo hb18)
         have HVh := Lib.hid (HVg.out.below hb18 (Nat.le_refl _))
         have ewr := HEW.out
         have hSx : (fun w' : World => w'.cell? ⟨yb, 39, none⟩ = some (.bool c1.over) ∧ w'.cell? ⟨yb, 15, none⟩ = some (.int .i64 (c1.steps : Int))) w18 := ⟨(HTh.out.sr.row.cell 39).trans (by show some (Value.bool d1.over) = _; rw [HRS.out.1]), (HTh.out.sr.row.cell 15).trans (by show some (Value.int .i64 (d1.steps : Int)) = _; rw [HRS.out.2.2.2])⟩
         clear hb18
         refine kH hK hSx fun hHeld => ?_
         clear hK K
         refine tk2 38 39 ?_
         refine tkH 40 ?_
         refine wpAnyH_done (by kernel_rfl) ?_ _
         clear hHeld
         try clear ewr
         cases hov : c1.over
         ·have y39 : w18.cell? ⟨yb, 39, none⟩ = some (.bool false) := (HTh.out.sr.row.cell 39).trans (by show some (Value.bool d1.over) = _; rw [HRS.out.1, hov])
          have f1 : decide (0 < c1.sr.length) = false := by unfold Kc.sr; rw [hov]; rfl
          have f2 : (c1.sc != 0) = false := by unfold Kc.sc; rw [hov]; rfl
          go_wp2_with fail
          go_roundw
          case rel => exact ⟨k + 1, by omega, by go_num, _, _, _, _, _, _, _, _, HTh.out, HL1.out⟩
          case measure => simp [intOf]; omega
         ·have hsr : c1.sr = c1.rc := by unfold Kc.sr; rw [hov]; rfl
          have hsc : c1.sc = c1.code := by unfold Kc.sc; rw [hov]; rfl
          have hry := HTh.out.sr.rc
          have hw32 := HTh.out.sr.w32r
          rw [HRS.out.2.2.1, ← hsr] at hry hw32
          obtain ⟨A6, M6, c6, rfl⟩ := own_slice hry
          obtain ⟨hm6, hws6⟩ := own_ws hry hw32
          subst hm6
          have hws5 := (own_ws HVh.out.1 hw32).2
          have hrl : c1.sr.length ≤ 1000000 := by have h1 := HTh.out.inv.gen.rcl; have h2 := HTh.out.inv.st; rw [hsr]; omega
          have y39 := HTh.out.sr.row.at 39 (.bool true) (by show some (Value.bool d1.over) = _; rw [HRS.out.1, hov])
          have y38 := HTh.out.sr.row.at 38 (.slice A6 c1.sr.length c6)
          have hpw := pwords_any A5 A6 c5 c6 c1.sr c1.sr w18 (by omega) (by omega) hws5 hws6
          rw [decide_eq_true rfl] at hpw
          have HPW := Lib.hid hpw
          have HSC := Lib.hid hsc
          clear hpw hws5 hws6 hrl hsr hsc hry hw32
          go_wp2_with fail
          refine HPW.out.mono ?_
          rintro ex w19 ⟨rfl, hb19⟩
          have HTk := Lib.hid (HTh.out.belo hb19)
          have z39 := HTk.out.sr.row.at 39 (.bool true) (by show some (Value.bool d1.over) = _; rw [HRS.out.1, hov])
          have z14 := HTk.out.sr.row.at 14 (.int .i64 c1.sc) (by show some (Value.int .i64 d1.code) = _; rw [HRS.out.2.1, HSC.out])
          have e0 : (c1.sc != c1.sc) = false := by simp
          clear hb19
          go_wp2_with fail
          go_roundw
          case rel => exact ⟨k + 1, by omega, by go_num, _, _, _, _, _, _, _, _, HTk.out, HL1.out⟩
          case measure => simp [intOf]; omega
  ·have hkd : decide ((k : Int) < 130) = false := decide_eq_false (by omega)
   have HBE := Lib.hid hT.bel
   clear hT hL
   go_wp2_with fail
   refine (awake_g _ (tab_low HX.out.tab HBE.out) (by have := HBE.out.size; have := HX.out.g; omega)).mono ?_
   rintro e wz ⟨rfl, hbz⟩
   have HBZ := Lib.hid (HBE.out.trans (hbz.mono HBE.out.size))
   clear hbz
   go_wp2_with fail
   go_ret
   exact ⟨rfl, by first | exact HBZ.out | (rw [← HNN.out]; exact HBZ.out)⟩
end Go.Proofs.YtgjcniokgdicpaaGreatDoor
