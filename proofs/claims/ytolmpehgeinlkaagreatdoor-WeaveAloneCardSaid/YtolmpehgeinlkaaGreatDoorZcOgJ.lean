/- The kind ring: each step of a write, and of a read. -/
import Derived.Test.YtolmpehgeinlkaaGreatDoorZcOgI
namespace Go.Proofs.YtolmpehgeinlkaaGreatDoor
open Go.RowKit
open Go.Lib (hid)
attribute [local go_sem] Oper.semAt_some
set_option maxHeartbeats 1000000
set_option maxRecDepth 100000
abbrev QOgJ0 (a0:Nat) (a1:Ob) (w':World):Prop:=w'.cell? ⟨a0,0,none⟩=some (.int .i64 a1.k)∧w'.cell? ⟨a0,1,none⟩=some (.int .i64 a1.wd)∧w'.cell? ⟨a0,2,none⟩=some (.int .i64 a1.s)∧w'.cell? ⟨a0,3,none⟩=some (.int .i64 a1.c)∧w'.cell? ⟨a0,4,none⟩=some (.int .u32 a1.st)∧w'.cell? ⟨a0,5,none⟩=some (.slice a1.I a1.ni a1.ci)∧w'.cell? ⟨a0,6,none⟩=some (.int .i64 a1.wr)∧w'.cell? ⟨a0,7,none⟩=some (.slice a1.R a1.nr a1.cr)
abbrev QOgJ1 (a0:Nat) (a1:Ob) (a2:Kc) (w':World):Prop:=w'.cell? ⟨a0,0,none⟩=some (.int .i64 a1.k)∧w'.cell? ⟨a0,1,none⟩=some (.int .i64 a1.wd)∧w'.cell? ⟨a0,2,none⟩=some (.int .i64 a1.s)∧w'.cell? ⟨a0,3,none⟩=some (.int .i64 a1.c)∧w'.cell? ⟨a0,4,none⟩=some (.int .u32 a1.st)∧w'.cell? ⟨a0,5,none⟩=some (.slice a1.I a1.ni a1.ci)∧w'.cell? ⟨a0,6,none⟩=some (.int .i64 a1.wr)∧w'.cell? ⟨a0,7,none⟩=some (.slice a1.R a1.nr a1.cr)∧w'.cell? ⟨a0,13,none⟩=some (.int .u32 a2.A)
theorem ringFrom_g (o:Ob) (a:Int) (h1:1≤o.s) (h2:o.s≤16) (h3:0≤o.wd) (h4:o.wd≤8) (ha:0≤a) (_ha2:a<4294967296) (w:World):Calls Tryz.prog 119 #[.agg (obA o),.int .u32 a] w fun e w'=>e=.returned (.int .i64 (1+(a%o.s)*o.wd))∧Below w.heap.size w w':=by
 have hn:=ObX.new w o;have hb:=(Below.refl w.heap.size w).alloc (Nat.le_refl _) (.cells (obA o) 26);obtain⟨c0,c1,c2,-⟩:=hn.cells;clear c0 hn;have hB:=hid hb.drew;obtain⟨n,hn0⟩:∃ n,w.heap.size=n:=⟨_,rfl⟩;rw[hn0] at c1 c2 hB;clear hb;have hq0:=Int.emod_nonneg a (show o.s≠0 by omega);have hq1:=Int.emod_lt_of_pos a (show 0<o.s by omega);have t0:IntKind.u32.wrap o.s=o.s:=sh_wrap32 (by omega) (by omega);have t1:a.tmod o.s=a%o.s:=Int.tmod_eq_emod_of_nonneg ha;have t2:IntKind.u32.wrap (a%o.s)=a%o.s:=sh_wrap32 hq0 (by omega);have t3:IntKind.i64.wrap (a%o.s)=a%o.s:=sh_wrap (by omega) (by omega);have m1:=mul_bd4 (a:=a%o.s) (b:=o.wd) hq0 (by omega) h3 (by omega);have t4:IntKind.i64.wrap (a%o.s*o.wd)=a%o.s*o.wd:=sh_wrap (by omega) (by omega);have t5:IntKind.i64.wrap (1+a%o.s*o.wd)=1+a%o.s*o.wd:=sh_wrap (by omega) (by omega);have s0:(o.s==0)=false:=by simp;omega
 have s1:¬ o.s=0:=by omega
 clear m1 hq0 hq1 ha _ha2;rw[hn0];unfold obA at *;go_enter Tryz.func119,Tryz.ntmps119;go_wp2_with fail;obtain⟨W1,hW1⟩:∃ x,w.alloc (.cells #[.int .i64 o.k,.int .i64 o.wd,.int .i64 o.s,.int .i64 o.c,.int .u32 o.st,.slice o.I o.ni o.ci,.int .i64 o.wr,.slice o.R o.nr o.cr] 26)=x:=⟨_,rfl⟩;rw[hW1] at c1 c2 hB ⊢;clear hW1;refine rgn (S:=(fun w':World=>w'.cell? ⟨n,1,none⟩=some (.int .i64 o.wd)∧w'.cell? ⟨n,2,none⟩=some (.int .i64 o.s))) ⟨c1,c2⟩ fun wd hw9 hHeld=>?_
 rw[hw9] at hB;clear hw9;refine tk4 0 1 2 3 ?_;refine tk4 4 5 6 7 ?_;refine tk2 8 9 ?_;refine tkH 10 ?_;refine dnH ?_;clear hHeld;go_wp2_with fail;go_ret;exact⟨rfl,hB.out⟩
section
variable (sb mb lb:Nat) (ty:TypeId) (o:Ob) (c:Kc) (rv:Value) (l:List Int)
theorem ringCount_o (w:World) (h:St w sb mb lb ty o c rv l) (hs:2≤c.sl) (hj:c.base+0<l.length):Calls Tryz.prog 171 #[.pointer (some ⟨sb,0,none⟩)] w (DidK sb mb lb ty o w rv c l (.int .u32 (c.rdm l 0%((c.sl:Int)*1048576)))):=by
 obtain⟨HS0,HM0,hfit,HF,HWD,HSL,HCP,HNR⟩:=h.start;clear hfit h;have hz:=rdm_bd hj HS0.out.mem.w32;have HR:=hid fun W (h:St W sb mb lb ty o c rv l)=>read_o sb mb lb ty o c rv l 0 0 W h (by omega) hj
 obtain⟨z,hz'⟩:∃ x,c.rdm l 0=x:=⟨_,rfl⟩;rw[hz'] at HR hz;try rw[hz']
 have Hz':=hid hz';clear hz' hj;have hz0:=hz.1;have hz1:=hz.2;clear hz;have hsl:=HSL.out;have hs1:=HF.out.sl1;have hmo:=fun W=>ringMod_o o (by omega) (by omega) W
 rw[← hsl];obtain⟨M,hM⟩:∃ x,o.s*1048576=x:=⟨_,rfl⟩;rw[hM] at hmo ⊢;have HMO:=hid hmo;have hM0:0<M:=by omega
 have hM1:M<4294967296:=by omega
 have m0:(M==0)=false:=by simp;omega
 have m1:¬ M=0:=by omega
 have t1:z.tmod M=z%M:=Int.tmod_eq_emod_of_nonneg hz0;have hq0:=Int.emod_nonneg z m1;have hq1:=Int.emod_lt_of_pos z hM0;have t2:IntKind.u32.wrap (z%M)=z%M:=sh_wrap32 hq0 (by omega);clear hsl hs1 hmo hM hs hq0 hq1;unfold obA at HMO;go_enter Tryz.func171,Tryz.ntmps171;go_wp2_with fail;refine rgK (S:=(QOgJ0 sb o)) HS0 HM0 (fun HS1=>let ⟨_,_,hr0⟩:=HS1.out.op.row;(by and_intros <;> exact hr0.c rfl)) fun w1 HS1 HM1 hHeld=>?_
 refine tk4 0 1 2 4 ?_;refine tk4 5 6 7 8 ?_;refine clH 3 (fun K hK=>?_)
 ·go_simp;refine(HR.out _ HS1.out).mono (mvK HM1 fun w2 HS2 HM2=>?_);obtain⟨u2,hu2,hr2⟩:=HS2.out.op.row;have hSx2:(QOgJ0 sb o) w2:=(by and_intros <;> exact hr2.c rfl);clear hr2 hu2;refine kH hK hSx2 fun hHeld=>?_
  clear hK K;refine clH 9 (fun K hK=>?_)
  ·go_simp;refine(HMO.out _).mono ?_;rintro ex w3 ⟨rfl,hb⟩;have HS3:=hid (HS2.out.below hb);have HM3:=hid (HM2.out.trans (Mv.below hb _));clear hb;obtain⟨u3,hu3,hr3⟩:=HS3.out.op.row;have hSx3:(QOgJ0 sb o) w3:=(by and_intros <;> exact hr3.c rfl);clear hr3 hu3;refine kH hK hSx3 fun hHeld=>?_
   clear hK K;refine tk2 10 11 ?_;refine dnH ?_;clear hHeld hSx3;go_wp2_with fail;go_ret;exact⟨rfl,HS3.out,HM3.out⟩
theorem ring_w0 (w:World) (h:St w sb mb lb ty o c rv l) (hph:c.ph=0) (hs:2≤c.sl) (hj:c.base+0<l.length):Calls Tryz.prog 145 #[.pointer (some ⟨sb,0,none⟩)] w (Did sb mb lb ty o w rv (({ c with A:=Kc.inc (c.rdm l 0%((c.sl:Int)*1048576)) ((c.sl:Int)*1048576) }:Kc).go 1) l (.tuple #[])):=by
 obtain⟨HS0,HM0,hfit,HF,HWD,HSL,HCP,HNR⟩:=h.start;clear hfit h;have HPH:=hid hph;clear hph;obtain⟨u0,hu0,hr0⟩:=HS0.out.op.row;have c10_0:=hr0.ph 10 0 HPH;clear hr0 hu0;have hsl:=HSL.out;have hs1:=HF.out.sl1;have HMO:=hid fun W=>ringMod_o o (by omega) (by omega) W
 have HCO:=hid fun W (h:St W sb mb lb ty o c rv l)=>ringCount_o sb mb lb ty o c rv l W h hs hj
 have hM:o.s*1048576=(c.sl:Int)*1048576:=by rw[hsl]
 rw[hM] at HMO;obtain⟨M,hM'⟩:∃ x,(c.sl:Int)*1048576=x:=⟨_,rfl⟩;rw[hM'] at HMO HCO;try rw[hM']
 have hM0:2097152≤M:=by omega
 have hM1:M<4294967296:=by omega
 obtain⟨z,hz'⟩:∃ x,c.rdm l 0%M=x:=⟨_,rfl⟩;have hz0:0≤z:=by rw[← hz'];exact Int.emod_nonneg _ (by omega)
 have hz1:z<M:=by rw[← hz'];exact Int.emod_lt_of_pos _ (by omega)
 rw[hz'] at HCO;try rw[hz']
 have hz8:=hz';clear hM hsl hs1 hz' hj;unfold obA at HMO;have HNX:=hid fun W=>next_o z M W hz0 hz1 (by omega) hM1
 have hZ:0≤Kc.inc z M∧Kc.inc z M<4294967296:=by unfold Kc.inc;split <;> omega
 obtain⟨Z,hZ'⟩:∃ x,Kc.inc z M=x:=⟨_,rfl⟩;rw[hZ'] at HNX hZ ⊢;have HZ:=hid hZ;clear hZ hZ' hM' hs;go_enter Tryz.func145,Tryz.ntmps145;go_wp2_with fail;refine rgK (S:=(QOgJ0 sb o)) HS0 HM0 (fun HS1=>let ⟨_,_,hr0⟩:=HS1.out.op.row;(by and_intros <;> exact hr0.c rfl)) fun w1 HS1 HM1 hHeld=>?_
 refine tk4 0 1 3 4 ?_;refine tk2 5 6 ?_;refine tkH 7 ?_;refine clH 2 (fun K hK=>?_)
 ·go_simp;refine(HCO.out _ HS1.out).mono (mvK HM1 fun w2 HS2 HM2=>?_);obtain⟨u2,hu2,hr2⟩:=HS2.out.op.row;have hSx2:(QOgJ0 sb o) w2:=(by and_intros <;> exact hr2.c rfl);have c13_2:=hr2.at 13 (.int .u32 c.A);have f13_2:=hr2.frozen 13;clear hr2 hu2;refine kH hK hSx2 fun hHeld=>?_
  clear hK K;refine clH 8 (fun K hK=>?_)
  ·go_simp;refine(HMO.out _).mono ?_;rintro ex w3 ⟨rfl,hb⟩;have HS3:=hid (HS2.out.below hb);have HM3:=hid (HM2.out.trans (Mv.below hb _));clear hb;obtain⟨u3,hu3,hr3⟩:=HS3.out.op.row;have hSx3:(QOgJ0 sb o) w3:=(by and_intros <;> exact hr3.c rfl);have c13_3:=hr3.at 13 (.int .u32 c.A);have f13_3:=hr3.frozen 13;clear hr3 hu3;refine kH hK hSx3 fun hHeld=>?_
   clear hK K;refine clH 9 (fun K hK=>?_)
   ·go_simp;refine(HNX.out _).mono ?_;rintro ex w4 ⟨rfl,hb⟩;have HS4:=hid (HS3.out.below hb);have HM4:=hid (HM3.out.trans (Mv.below hb _));clear hb;obtain⟨u4,hu4,hr4⟩:=HS4.out.op.row;have hSx4:(QOgJ0 sb o) w4:=(by and_intros <;> exact hr4.c rfl);have c13_4:=hr4.at 13 (.int .u32 c.A);have f13_4:=hr4.frozen 13;clear hr4 hu4;refine kH hK hSx4 fun hHeld=>?_
    clear hK K;refine tk2 10 11 ?_;refine tkH 12 ?_;refine clH 13 (fun K hK=>?_)
    ·go_simp;obtain⟨HS5,HM5⟩:=nxx (HS4.out.setA (Z) HZ.out) HM4;obtain⟨u5,hu5,hr5⟩:=HS5.out.op.row;have hSx5:(QOgJ0 sb o) (w4.setCell ⟨sb,13,none⟩ (.int .u32 (Z))):=(by and_intros <;> exact hr5.c rfl);clear hr5 hu5;refine kH hK hSx5 fun hHeld=>?_
     clear hK K;refine dnH ?_;clear hHeld hSx5;go_wp2_with fail;refine(go_o sb mb lb ty o _ _ _ 1 1 _ HS5.out rfl).mono (mvK HM5 fun w6 HS6 HM6=>?_);go_wp2_with fail
     go_end0
     exact⟨_,rfl,HS6.out,HM6.out⟩
theorem ring_w1 (w:World) (h:St w sb mb lb ty o c rv l) (hph:c.ph=1) (hs:2≤c.sl) (hwr:c.wr=true→c.i<c.rc.length) (hrl:c.rc.length≤1000000) (hi2:c.i<1000) (hj:c.base+(1+(c.A%c.sl).toNat*c.wd+c.i)<l.length) (hf1:1+(c.A%c.sl).toNat*c.wd≤1000000):Calls Tryz.prog 145 #[.pointer (some ⟨sb,0,none⟩)] w (Did sb mb lb ty o w rv (c.word l (1+(c.A%c.sl).toNat*c.wd) (·.go 2)).1 (c.word l (1+(c.A%c.sl).toNat*c.wd) (·.go 2)).2 (.tuple #[])):=by
 obtain⟨HS0,HM0,hfit,HF,HWD,HSL,HCP,HNR⟩:=h.start;clear hfit h;have HPH:=hid hph;clear hph;obtain⟨u0,hu0,hr0⟩:=HS0.out.op.row;have c10_0:=hr0.ph 10 1 HPH;clear hr0 hu0;have hsl:=HSL.out;have hs1:=HF.out.sl1;have hw1:=HF.out.wd1;have hwd:=HWD.out;have HFR:=hid fun W=>ringFrom_g o c.A (by omega) (by omega) (by omega) (by omega) HF.out.A0 HF.out.A1 W
 have hq:1+(c.A%o.s)*o.wd=((1+(c.A%c.sl).toNat*c.wd:Nat):Int):=by
  have:=Int.emod_nonneg c.A (show(c.sl:Int)≠0 by omega);rw[Int.natCast_add,Int.natCast_mul,Int.toNat_of_nonneg this,hsl,hwd];rfl
 rw[hq] at HFR;clear hsl hs1 hw1 hwd hq hs;unfold obA at HFR;obtain⟨FR,hFR⟩:∃ x,1+(c.A%c.sl).toNat*c.wd=x:=⟨_,rfl⟩;rw[hFR] at HFR hj hf1 ⊢;clear hFR;have HWO:=hid fun W (rv:Value) (h:St W sb mb lb ty o c rv l)=>word_o sb mb lb ty o c rv l (FR) W h hwr hrl hi2 hj hf1
 clear hwr hrl hi2 hj hf1;rw[Kc.word_eq]
 by_cases hlast:c.wd≤c.i+1
 ·rw[if_pos hlast];have hd:decide ((c.wd:Int)≤(c.i:Int)+1)=true:=decide_eq_true (by omega);rw[hd] at HWO;clear hlast hd;go_enter Tryz.func145,Tryz.ntmps145;go_wp2_with fail;refine rgK (S:=(QOgJ1 sb o c)) HS0 HM0 (fun HS1=>let ⟨_,_,hr0⟩:=HS1.out.op.row;(by and_intros <;> exact hr0.c rfl)) fun w1 HS1 HM1 hHeld=>?_
  refine tk4 0 1 2 3 ?_;refine tk4 4 5 6 7 ?_;refine tk4 8 9 10 11 ?_;refine tkH 12 ?_;refine clH 13 (fun K hK=>?_)
  ·go_simp;refine(HFR.out _).mono ?_;rintro ex w2 ⟨rfl,hb⟩;have HS2:=hid (HS1.out.below hb);have HM2:=hid (HM1.out.trans (Mv.below hb _));clear hb;obtain⟨u2,hu2,hr2⟩:=HS2.out.op.row;have hSx2:(QOgJ1 sb o c) w2:=(by and_intros <;> exact hr2.c rfl);clear hr2 hu2;refine kH hK hSx2 fun hHeld=>?_
   clear hK K;refine clH 14 (fun K hK=>?_)
   ·go_simp;refine(HWO.out _ _ HS2.out).mono (mvD HM2 fun w3 rv3 HS3 HM3=>?_);obtain⟨u3,hu3,hr3⟩:=HS3.out.op.row;have hSx3:(QOgJ1 sb o c) w3:=(by and_intros <;> exact hr3.c rfl);clear hr3 hu3;refine kH hK hSx3 fun hHeld=>?_
    clear hK K;refine dnH ?_;clear hHeld hSx3;go_wp2_with fail;refine(go_o sb mb lb ty o _ _ _ 2 2 _ HS3.out rfl).mono (mvK HM3 fun w4 HS4 HM4=>?_);go_wp2_with fail
    go_end0
    exact⟨_,rfl,HS4.out,HM4.out⟩
 ·rw[if_neg hlast];have hd:decide ((c.wd:Int)≤(c.i:Int)+1)=false:=decide_eq_false (by omega);rw[hd] at HWO;clear hlast hd;go_enter Tryz.func145,Tryz.ntmps145;go_wp2_with fail;refine rgK (S:=(QOgJ1 sb o c)) HS0 HM0 (fun HS1=>let ⟨_,_,hr0⟩:=HS1.out.op.row;(by and_intros <;> exact hr0.c rfl)) fun w1 HS1 HM1 hHeld=>?_
  refine tk4 0 1 2 3 ?_;refine tk4 4 5 6 7 ?_;refine tk4 8 9 10 11 ?_;refine tkH 12 ?_;refine clH 13 (fun K hK=>?_)
  ·go_simp;refine(HFR.out _).mono ?_;rintro ex w2 ⟨rfl,hb⟩;have HS2:=hid (HS1.out.below hb);have HM2:=hid (HM1.out.trans (Mv.below hb _));clear hb;obtain⟨u2,hu2,hr2⟩:=HS2.out.op.row;have hSx2:(QOgJ1 sb o c) w2:=(by and_intros <;> exact hr2.c rfl);clear hr2 hu2;refine kH hK hSx2 fun hHeld=>?_
   clear hK K;refine clH 14 (fun K hK=>?_)
   ·go_simp;refine(HWO.out _ _ HS2.out).mono (mvD HM2 fun w3 rv3 HS3 HM3=>?_);obtain⟨u3,hu3,hr3⟩:=HS3.out.op.row;have hSx3:(QOgJ1 sb o c) w3:=(by and_intros <;> exact hr3.c rfl);clear hr3 hu3;refine kH hK hSx3 fun hHeld=>?_
    clear hK K;refine dnH ?_;clear hHeld hSx3;go_wp2_with fail
    go_end0
    exact⟨_,rfl,HS3.out,HM3.out⟩
theorem ring_w2 (w:World) (h:St w sb mb lb ty o c rv l) (hph:c.ph=2) (hj:c.base+0<l.length):Calls Tryz.prog 145 #[.pointer (some ⟨sb,0,none⟩)] w (Did sb mb lb ty o w rv (c.fin 0) (c.wrm l 0 c.A) (.tuple #[])):=by
 obtain⟨HS0,HM0,hfit,HF,HWD,HSL,HCP,HNR⟩:=h.start;clear hfit h;have HPH:=hid hph;clear hph;obtain⟨u0,hu0,hr0⟩:=HS0.out.op.row;have c10_0:=hr0.ph 10 2 HPH;clear hr0 hu0;have HW:=hid fun W (h:St W sb mb lb ty o c rv l)=>write_o sb mb lb ty o c rv l 0 0 c.A W h (by omega) hj ⟨HF.out.A0,HF.out.A1⟩
 clear hj;go_enter Tryz.func145,Tryz.ntmps145;go_wp2_with fail;refine rgK (S:=(fun w':World=>w'.cell? ⟨sb,13,none⟩=some (.int .u32 c.A))) HS0 HM0 (fun HS1=>let ⟨_,_,hr0⟩:=HS1.out.op.row;(hr0.cell 13).trans rfl) fun w1 HS1 HM1 hHeld=>?_
 refine tk4 0 1 2 3 ?_;refine tk4 4 5 6 7 ?_;refine clH 8 (fun K hK=>?_)
 ·go_simp;refine(HW.out _ HS1.out).mono (mvK HM1 fun w2 HS2 HM2=>?_);obtain⟨u2,hu2,hr2⟩:=HS2.out.op.row;have hSx2:(fun w':World=>w'.cell? ⟨sb,13,none⟩=some (.int .u32 c.A)) w2:=(hr2.cell 13).trans rfl;clear hr2 hu2;refine kH hK hSx2 fun hHeld=>?_
  clear hK K;refine dnH ?_;clear hHeld hSx2;go_wp2_with fail;refine(end_o sb mb lb ty o _ _ _ 0 _ HS2.out).mono (mvD HM2 fun w3 rv3 HS3 HM3=>?_);go_wp2_with fail
  go_end0
  exact⟨_,rfl,HS3.out,HM3.out⟩
theorem ring_r0 (w:World) (h:St w sb mb lb ty o c rv l) (hph:c.ph=0) (hs:2≤c.sl) (hj:c.base+0<l.length):Calls Tryz.prog 146 #[.pointer (some ⟨sb,0,none⟩)] w (Did sb mb lb ty o w rv (({ c with A:=c.rdm l 0%((c.sl:Int)*1048576) }:Kc).go 1) l (.tuple #[])):=by
 obtain⟨HS0,HM0,hfit,HF,HWD,HSL,HCP,HNR⟩:=h.start;clear hfit h;have HPH:=hid hph;clear hph;obtain⟨u0,hu0,hr0⟩:=HS0.out.op.row;have c10_0:=hr0.ph 10 0 HPH;clear hr0 hu0;have hsl:=HSL.out;have hs1:=HF.out.sl1;have HMO:=hid fun W=>ringMod_o o (by omega) (by omega) W
 have HCO:=hid fun W (h:St W sb mb lb ty o c rv l)=>ringCount_o sb mb lb ty o c rv l W h hs hj
 have hM:o.s*1048576=(c.sl:Int)*1048576:=by rw[hsl]
 rw[hM] at HMO;obtain⟨M,hM'⟩:∃ x,(c.sl:Int)*1048576=x:=⟨_,rfl⟩;rw[hM'] at HMO HCO;try rw[hM']
 have hM0:2097152≤M:=by omega
 have hM1:M<4294967296:=by omega
 obtain⟨z,hz'⟩:∃ x,c.rdm l 0%M=x:=⟨_,rfl⟩;have hz0:0≤z:=by rw[← hz'];exact Int.emod_nonneg _ (by omega)
 have hz1:z<M:=by rw[← hz'];exact Int.emod_lt_of_pos _ (by omega)
 rw[hz'] at HCO;try rw[hz']
 have hz8:=hz';clear hM hsl hs1 hz' hj;unfold obA at HMO;clear hM' hs;go_enter Tryz.func146,Tryz.ntmps146;go_wp2_with fail;refine(HCO.out _ HS0.out).mono (mvK HM0 fun w1 HS1 HM1=>?_);obtain⟨u1,hu1,hr1⟩:=HS1.out.op.row;have c13_1:=hr1.at 13 (.int .u32 c.A);have f13_1:=hr1.frozen 13;clear hr1 hu1;go_wp2_with fail;obtain⟨HS2,HM2⟩:=nxx (HS1.out.setA (z) ⟨hz0,by omega⟩) HM1;go_wp2_with fail;refine(go_o sb mb lb ty o _ _ _ 1 1 _ HS2.out rfl).mono (mvK HM2 fun w3 HS3 HM3=>?_);go_wp2_with fail
 go_end0
 exact⟨_,rfl,HS3.out,HM3.out⟩
theorem ring_r1 (w:World) (h:St w sb mb lb ty o c rv l) (hph:c.ph=1) (hs:2≤c.sl) (hwr:c.wr=true→c.i<c.rc.length) (hrl:c.rc.length≤1000000) (hi2:c.i<1000) (hj:c.base+(1+(c.A%c.sl).toNat*c.wd+c.i)<l.length) (hf1:1+(c.A%c.sl).toNat*c.wd≤1000000):Calls Tryz.prog 146 #[.pointer (some ⟨sb,0,none⟩)] w (Did sb mb lb ty o w rv (c.word l (1+(c.A%c.sl).toNat*c.wd) (·.go 2)).1 (c.word l (1+(c.A%c.sl).toNat*c.wd) (·.go 2)).2 (.tuple #[])):=by
 obtain⟨HS0,HM0,hfit,HF,HWD,HSL,HCP,HNR⟩:=h.start;clear hfit h;have HPH:=hid hph;clear hph;obtain⟨u0,hu0,hr0⟩:=HS0.out.op.row;have c10_0:=hr0.ph 10 1 HPH;clear hr0 hu0;have hsl:=HSL.out;have hs1:=HF.out.sl1;have hw1:=HF.out.wd1;have hwd:=HWD.out;have HFR:=hid fun W=>ringFrom_g o c.A (by omega) (by omega) (by omega) (by omega) HF.out.A0 HF.out.A1 W
 have hq:1+(c.A%o.s)*o.wd=((1+(c.A%c.sl).toNat*c.wd:Nat):Int):=by
  have:=Int.emod_nonneg c.A (show(c.sl:Int)≠0 by omega);rw[Int.natCast_add,Int.natCast_mul,Int.toNat_of_nonneg this,hsl,hwd];rfl
 rw[hq] at HFR;clear hsl hs1 hw1 hwd hq hs;unfold obA at HFR;obtain⟨FR,hFR⟩:∃ x,1+(c.A%c.sl).toNat*c.wd=x:=⟨_,rfl⟩;rw[hFR] at HFR hj hf1 ⊢;clear hFR;have HWO:=hid fun W (rv:Value) (h:St W sb mb lb ty o c rv l)=>word_o sb mb lb ty o c rv l (FR) W h hwr hrl hi2 hj hf1
 clear hwr hrl hi2 hj hf1;rw[Kc.word_eq]
 by_cases hlast:c.wd≤c.i+1
 ·rw[if_pos hlast];have hd:decide ((c.wd:Int)≤(c.i:Int)+1)=true:=decide_eq_true (by omega);rw[hd] at HWO;clear hlast hd;go_enter Tryz.func146,Tryz.ntmps146;go_wp2_with fail;refine rgK (S:=(QOgJ1 sb o c)) HS0 HM0 (fun HS1=>let ⟨_,_,hr0⟩:=HS1.out.op.row;(by and_intros <;> exact hr0.c rfl)) fun w1 HS1 HM1 hHeld=>?_
  refine tk4 0 1 2 3 ?_;refine tk4 4 5 6 7 ?_;refine tk4 8 9 10 11 ?_;refine tkH 12 ?_;refine clH 13 (fun K hK=>?_)
  ·go_simp;refine(HFR.out _).mono ?_;rintro ex w2 ⟨rfl,hb⟩;have HS2:=hid (HS1.out.below hb);have HM2:=hid (HM1.out.trans (Mv.below hb _));clear hb;obtain⟨u2,hu2,hr2⟩:=HS2.out.op.row;have hSx2:(QOgJ1 sb o c) w2:=(by and_intros <;> exact hr2.c rfl);clear hr2 hu2;refine kH hK hSx2 fun hHeld=>?_
   clear hK K;refine clH 14 (fun K hK=>?_)
   ·go_simp;refine(HWO.out _ _ HS2.out).mono (mvD HM2 fun w3 rv3 HS3 HM3=>?_);obtain⟨u3,hu3,hr3⟩:=HS3.out.op.row;have hSx3:(QOgJ1 sb o c) w3:=(by and_intros <;> exact hr3.c rfl);clear hr3 hu3;refine kH hK hSx3 fun hHeld=>?_
    clear hK K;refine dnH ?_;clear hHeld hSx3;go_wp2_with fail;refine(go_o sb mb lb ty o _ _ _ 2 2 _ HS3.out rfl).mono (mvK HM3 fun w4 HS4 HM4=>?_);go_wp2_with fail
    go_end0
    exact⟨_,rfl,HS4.out,HM4.out⟩
 ·rw[if_neg hlast];have hd:decide ((c.wd:Int)≤(c.i:Int)+1)=false:=decide_eq_false (by omega);rw[hd] at HWO;clear hlast hd;go_enter Tryz.func146,Tryz.ntmps146;go_wp2_with fail;refine rgK (S:=(QOgJ1 sb o c)) HS0 HM0 (fun HS1=>let ⟨_,_,hr0⟩:=HS1.out.op.row;(by and_intros <;> exact hr0.c rfl)) fun w1 HS1 HM1 hHeld=>?_
  refine tk4 0 1 2 3 ?_;refine tk4 4 5 6 7 ?_;refine tk4 8 9 10 11 ?_;refine tkH 12 ?_;refine clH 13 (fun K hK=>?_)
  ·go_simp;refine(HFR.out _).mono ?_;rintro ex w2 ⟨rfl,hb⟩;have HS2:=hid (HS1.out.below hb);have HM2:=hid (HM1.out.trans (Mv.below hb _));clear hb;obtain⟨u2,hu2,hr2⟩:=HS2.out.op.row;have hSx2:(QOgJ1 sb o c) w2:=(by and_intros <;> exact hr2.c rfl);clear hr2 hu2;refine kH hK hSx2 fun hHeld=>?_
   clear hK K;refine clH 14 (fun K hK=>?_)
   ·go_simp;refine(HWO.out _ _ HS2.out).mono (mvD HM2 fun w3 rv3 HS3 HM3=>?_);obtain⟨u3,hu3,hr3⟩:=HS3.out.op.row;have hSx3:(QOgJ1 sb o c) w3:=(by and_intros <;> exact hr3.c rfl);clear hr3 hu3;refine kH hK hSx3 fun hHeld=>?_
    clear hK K;refine dnH ?_;clear hHeld hSx3;go_wp2_with fail
    go_end0
    exact⟨_,rfl,HS3.out,HM3.out⟩
theorem ring_r2_ok (w:World) (h:St w sb mb lb ty o c rv l) (hph:c.ph=2) (hs:2≤c.sl) (hA:c.A<(c.sl:Int)*1048576) (_ht:c.tr<1000) (hj:c.base+0<l.length) (hg:Kc.gap c.A (c.rdm l 0%((c.sl:Int)*1048576)) ((c.sl:Int)*1048576)<(c.sl:Int) - 1):Calls Tryz.prog 146 #[.pointer (some ⟨sb,0,none⟩)] w (Did sb mb lb ty o w rv (c.fin 0) l (.tuple #[])):=by
 obtain⟨HS0,HM0,hfit,HF,HWD,HSL,HCP,HNR⟩:=h.start;clear hfit h;have HPH:=hid hph;clear hph;obtain⟨u0,hu0,hr0⟩:=HS0.out.op.row;have c10_0:=hr0.ph 10 2 HPH;clear hr0 hu0;have hsl8:o.s=(c.sl:Int):=HSL.out;have hs18:=HF.out.sl1;have hsl:=HSL.out;have hs1:=HF.out.sl1;have HMO:=hid fun W=>ringMod_o o (by omega) (by omega) W
 have HCO:=hid fun W (h:St W sb mb lb ty o c rv l)=>ringCount_o sb mb lb ty o c rv l W h hs hj
 have hM:o.s*1048576=(c.sl:Int)*1048576:=by rw[hsl]
 rw[hM] at HMO;obtain⟨M,hM'⟩:∃ x,(c.sl:Int)*1048576=x:=⟨_,rfl⟩;rw[hM'] at HMO HCO;try rw[hM']
 have hM0:2097152≤M:=by omega
 have hM1:M<4294967296:=by omega
 obtain⟨z,hz'⟩:∃ x,c.rdm l 0%M=x:=⟨_,rfl⟩;have hz0:0≤z:=by rw[← hz'];exact Int.emod_nonneg _ (by omega)
 have hz1:z<M:=by rw[← hz'];exact Int.emod_lt_of_pos _ (by omega)
 rw[hz'] at HCO;try rw[hz']
 have hz8:=hz';clear hM hsl hs1 hz' hj;unfold obA at HMO;rw[hM',hz8] at hg;rw[hM'] at hA;have HGA:=hid fun W=>gap_o c.A z M W HF.out.A0 hA hz0 hz1 hM1
 have hG:0≤Kc.gap c.A z M∧Kc.gap c.A z M<4294967296:=by have:=HF.out.A0;unfold Kc.gap;split <;> omega
 obtain⟨G,hG'⟩:∃ x,Kc.gap c.A z M=x:=⟨_,rfl⟩;rw[hG'] at HGA hG hg;have hG0:=hG.1;have hG1:=hG.2;have hS0:2≤(c.sl:Int):=by omega
 have hS1:(c.sl:Int)≤16:=by omega
 have e1:IntKind.i64.wrap ((c.sl:Int) - 1)=(c.sl:Int) - 1:=sh_wrap (by omega) (by omega);have e2:IntKind.u32.wrap ((c.sl:Int) - 1)=(c.sl:Int) - 1:=sh_wrap32 (by omega) (by omega);have d1:decide (G<(c.sl:Int) - 1)=true:=decide_eq_true (by omega);clear hG hG' hM' hz8 hs hs18 hsl8 hA;clear _ht;go_enter Tryz.func146,Tryz.ntmps146;go_wp2_with fail;refine rgK (S:=(QOgJ1 sb o c)) HS0 HM0 (fun HS1=>let ⟨_,_,hr0⟩:=HS1.out.op.row;(by and_intros <;> exact hr0.c rfl)) fun w1 HS1 HM1 hHeld=>?_
 refine tk4 0 1 2 3 ?_;refine tk4 4 5 7 8 ?_;refine tk2 9 10 ?_;refine tkH 11 ?_;refine clH 6 (fun K hK=>?_)
 ·go_simp;refine(HCO.out _ HS1.out).mono (mvK HM1 fun w2 HS2 HM2=>?_);obtain⟨u2,hu2,hr2⟩:=HS2.out.op.row;have hSx2:(QOgJ1 sb o c) w2:=(by and_intros <;> exact hr2.c rfl);clear hr2 hu2;refine kH hK hSx2 fun hHeld=>?_
  clear hK K;refine clH 12 (fun K hK=>?_)
  ·go_simp;refine(HMO.out _).mono ?_;rintro ex w3 ⟨rfl,hb⟩;have HS3:=hid (HS2.out.below hb);have HM3:=hid (HM2.out.trans (Mv.below hb _));clear hb;obtain⟨u3,hu3,hr3⟩:=HS3.out.op.row;have hSx3:(QOgJ1 sb o c) w3:=(by and_intros <;> exact hr3.c rfl);clear hr3 hu3;refine kH hK hSx3 fun hHeld=>?_
   clear hK K;refine clH 13 (fun K hK=>?_)
   ·go_simp;refine(HGA.out _).mono ?_;rintro ex w4 ⟨rfl,hb⟩;have HS4:=hid (HS3.out.below hb);have HM4:=hid (HM3.out.trans (Mv.below hb _));clear hb;obtain⟨u4,hu4,hr4⟩:=HS4.out.op.row;have hSx4:(QOgJ1 sb o c) w4:=(by and_intros <;> exact hr4.c rfl);clear hr4 hu4;refine kH hK hSx4 fun hHeld=>?_
    clear hK K;refine tkH 14 ?_;refine dnH ?_;clear hHeld hSx4;obtain⟨u4,hu4,hr4⟩:=HS4.out.op.row;have c2_4:=hr4.at 2 (.int .i64 (c.sl:Int)) (by rw[← HSL.out];rfl);clear hr4 hu4;go_wp2_with fail;refine(end_o sb mb lb ty o _ _ _ 0 _ HS4.out).mono (mvD HM4 fun w5 rv5 HS5 HM5=>?_);go_wp2_with fail
    go_end0
    exact⟨_,rfl,HS5.out,HM5.out⟩
theorem ring_r2_again (w:World) (h:St w sb mb lb ty o c rv l) (hph:c.ph=2) (hs:2≤c.sl) (hA:c.A<(c.sl:Int)*1048576) (ht:c.tr<1000) (hj:c.base+0<l.length) (hg:¬ (Kc.gap c.A (c.rdm l 0%((c.sl:Int)*1048576)) ((c.sl:Int)*1048576)<(c.sl:Int) - 1)) (hlast:¬ (c.cap≤c.tr+1)):Calls Tryz.prog 146 #[.pointer (some ⟨sb,0,none⟩)] w (Did sb mb lb ty o w rv (c.fail (·.fin 1)) l (.tuple #[])):=by
 obtain⟨HS0,HM0,hfit,HF,HWD,HSL,HCP,HNR⟩:=h.start;clear hfit h;have HPH:=hid hph;clear hph;obtain⟨u0,hu0,hr0⟩:=HS0.out.op.row;have c10_0:=hr0.ph 10 2 HPH;clear hr0 hu0;have hsl8:o.s=(c.sl:Int):=HSL.out;have hs18:=HF.out.sl1;have hsl:=HSL.out;have hs1:=HF.out.sl1;have HMO:=hid fun W=>ringMod_o o (by omega) (by omega) W
 have HCO:=hid fun W (h:St W sb mb lb ty o c rv l)=>ringCount_o sb mb lb ty o c rv l W h hs hj
 have hM:o.s*1048576=(c.sl:Int)*1048576:=by rw[hsl]
 rw[hM] at HMO;obtain⟨M,hM'⟩:∃ x,(c.sl:Int)*1048576=x:=⟨_,rfl⟩;rw[hM'] at HMO HCO;try rw[hM']
 have hM0:2097152≤M:=by omega
 have hM1:M<4294967296:=by omega
 obtain⟨z,hz'⟩:∃ x,c.rdm l 0%M=x:=⟨_,rfl⟩;have hz0:0≤z:=by rw[← hz'];exact Int.emod_nonneg _ (by omega)
 have hz1:z<M:=by rw[← hz'];exact Int.emod_lt_of_pos _ (by omega)
 rw[hz'] at HCO;try rw[hz']
 have hz8:=hz';clear hM hsl hs1 hz' hj;unfold obA at HMO;rw[hM',hz8] at hg;rw[hM'] at hA;have HGA:=hid fun W=>gap_o c.A z M W HF.out.A0 hA hz0 hz1 hM1
 have hG:0≤Kc.gap c.A z M∧Kc.gap c.A z M<4294967296:=by have:=HF.out.A0;unfold Kc.gap;split <;> omega
 obtain⟨G,hG'⟩:∃ x,Kc.gap c.A z M=x:=⟨_,rfl⟩;rw[hG'] at HGA hG hg;have hG0:=hG.1;have hG1:=hG.2;have hS0:2≤(c.sl:Int):=by omega
 have hS1:(c.sl:Int)≤16:=by omega
 have e1:IntKind.i64.wrap ((c.sl:Int) - 1)=(c.sl:Int) - 1:=sh_wrap (by omega) (by omega);have e2:IntKind.u32.wrap ((c.sl:Int) - 1)=(c.sl:Int) - 1:=sh_wrap32 (by omega) (by omega);have d1:decide (G<(c.sl:Int) - 1)=false:=decide_eq_false (by omega);clear hG hG' hM' hz8 hs hs18 hsl8 hA;have hfl:=fun W (h:St W sb mb lb ty o c rv l)=>fail_o sb mb lb ty o c rv l W h ht
 have hd:decide ((c.cap:Int)≤(c.tr:Int)+1)=false:=decide_eq_false (by omega);rw[hd] at hfl;have HFL:=hid hfl;clear hfl hd;unfold Kc.fail;simp only[ge_iff_le];rw[if_neg hlast];clear hlast ht;go_enter Tryz.func146,Tryz.ntmps146;go_wp2_with fail;refine rgK (S:=(QOgJ1 sb o c)) HS0 HM0 (fun HS1=>let ⟨_,_,hr0⟩:=HS1.out.op.row;(by and_intros <;> exact hr0.c rfl)) fun w1 HS1 HM1 hHeld=>?_
 refine tk4 0 1 2 3 ?_;refine tk4 4 5 7 8 ?_;refine tk2 9 10 ?_;refine tkH 11 ?_;refine clH 6 (fun K hK=>?_)
 ·go_simp;refine(HCO.out _ HS1.out).mono (mvK HM1 fun w2 HS2 HM2=>?_);obtain⟨u2,hu2,hr2⟩:=HS2.out.op.row;have hSx2:(QOgJ1 sb o c) w2:=(by and_intros <;> exact hr2.c rfl);clear hr2 hu2;refine kH hK hSx2 fun hHeld=>?_
  clear hK K;refine clH 12 (fun K hK=>?_)
  ·go_simp;refine(HMO.out _).mono ?_;rintro ex w3 ⟨rfl,hb⟩;have HS3:=hid (HS2.out.below hb);have HM3:=hid (HM2.out.trans (Mv.below hb _));clear hb;obtain⟨u3,hu3,hr3⟩:=HS3.out.op.row;have hSx3:(QOgJ1 sb o c) w3:=(by and_intros <;> exact hr3.c rfl);clear hr3 hu3;refine kH hK hSx3 fun hHeld=>?_
   clear hK K;refine clH 13 (fun K hK=>?_)
   ·go_simp;refine(HGA.out _).mono ?_;rintro ex w4 ⟨rfl,hb⟩;have HS4:=hid (HS3.out.below hb);have HM4:=hid (HM3.out.trans (Mv.below hb _));clear hb;obtain⟨u4,hu4,hr4⟩:=HS4.out.op.row;have hSx4:(QOgJ1 sb o c) w4:=(by and_intros <;> exact hr4.c rfl);clear hr4 hu4;refine kH hK hSx4 fun hHeld=>?_
    clear hK K;refine tkH 14 ?_;refine dnH ?_;clear hHeld hSx4;obtain⟨u4,hu4,hr4⟩:=HS4.out.op.row;have c2_4:=hr4.at 2 (.int .i64 (c.sl:Int)) (by rw[← HSL.out];rfl);clear hr4 hu4;go_wp2_with fail;refine(HFL.out _ HS4.out).mono (mvD HM4 fun w5 rv5 HS5 HM5=>?_);go_wp2_with fail
    go_end0
    exact⟨_,rfl,HS5.out,HM5.out⟩
theorem ring_r2_last (w:World) (h:St w sb mb lb ty o c rv l) (hph:c.ph=2) (hs:2≤c.sl) (hA:c.A<(c.sl:Int)*1048576) (ht:c.tr<1000) (hj:c.base+0<l.length) (hg:¬ (Kc.gap c.A (c.rdm l 0%((c.sl:Int)*1048576)) ((c.sl:Int)*1048576)<(c.sl:Int) - 1)) (hlast:c.cap≤c.tr+1):Calls Tryz.prog 146 #[.pointer (some ⟨sb,0,none⟩)] w (Did sb mb lb ty o w rv (c.fail (·.fin 1)) l (.tuple #[])):=by
 obtain⟨HS0,HM0,hfit,HF,HWD,HSL,HCP,HNR⟩:=h.start;clear hfit h;have HPH:=hid hph;clear hph;obtain⟨u0,hu0,hr0⟩:=HS0.out.op.row;have c10_0:=hr0.ph 10 2 HPH;clear hr0 hu0;have hsl8:o.s=(c.sl:Int):=HSL.out;have hs18:=HF.out.sl1;have hsl:=HSL.out;have hs1:=HF.out.sl1;have HMO:=hid fun W=>ringMod_o o (by omega) (by omega) W
 have HCO:=hid fun W (h:St W sb mb lb ty o c rv l)=>ringCount_o sb mb lb ty o c rv l W h hs hj
 have hM:o.s*1048576=(c.sl:Int)*1048576:=by rw[hsl]
 rw[hM] at HMO;obtain⟨M,hM'⟩:∃ x,(c.sl:Int)*1048576=x:=⟨_,rfl⟩;rw[hM'] at HMO HCO;try rw[hM']
 have hM0:2097152≤M:=by omega
 have hM1:M<4294967296:=by omega
 obtain⟨z,hz'⟩:∃ x,c.rdm l 0%M=x:=⟨_,rfl⟩;have hz0:0≤z:=by rw[← hz'];exact Int.emod_nonneg _ (by omega)
 have hz1:z<M:=by rw[← hz'];exact Int.emod_lt_of_pos _ (by omega)
 rw[hz'] at HCO;try rw[hz']
 have hz8:=hz';clear hM hsl hs1 hz' hj;unfold obA at HMO;rw[hM',hz8] at hg;rw[hM'] at hA;have HGA:=hid fun W=>gap_o c.A z M W HF.out.A0 hA hz0 hz1 hM1
 have hG:0≤Kc.gap c.A z M∧Kc.gap c.A z M<4294967296:=by have:=HF.out.A0;unfold Kc.gap;split <;> omega
 obtain⟨G,hG'⟩:∃ x,Kc.gap c.A z M=x:=⟨_,rfl⟩;rw[hG'] at HGA hG hg;have hG0:=hG.1;have hG1:=hG.2;have hS0:2≤(c.sl:Int):=by omega
 have hS1:(c.sl:Int)≤16:=by omega
 have e1:IntKind.i64.wrap ((c.sl:Int) - 1)=(c.sl:Int) - 1:=sh_wrap (by omega) (by omega);have e2:IntKind.u32.wrap ((c.sl:Int) - 1)=(c.sl:Int) - 1:=sh_wrap32 (by omega) (by omega);have d1:decide (G<(c.sl:Int) - 1)=false:=decide_eq_false (by omega);clear hG hG' hM' hz8 hs hs18 hsl8 hA;have hfl:=fun W (h:St W sb mb lb ty o c rv l)=>fail_o sb mb lb ty o c rv l W h ht
 have hd:decide ((c.cap:Int)≤(c.tr:Int)+1)=true:=decide_eq_true (by omega);rw[hd] at hfl;have HFL:=hid hfl;clear hfl hd;unfold Kc.fail;simp only[ge_iff_le];rw[if_pos hlast];clear hlast ht;go_enter Tryz.func146,Tryz.ntmps146;go_wp2_with fail;refine rgK (S:=(QOgJ1 sb o c)) HS0 HM0 (fun HS1=>let ⟨_,_,hr0⟩:=HS1.out.op.row;(by and_intros <;> exact hr0.c rfl)) fun w1 HS1 HM1 hHeld=>?_
 refine tk4 0 1 2 3 ?_;refine tk4 4 5 7 8 ?_;refine tk2 9 10 ?_;refine tkH 11 ?_;refine clH 6 (fun K hK=>?_)
 ·go_simp;refine(HCO.out _ HS1.out).mono (mvK HM1 fun w2 HS2 HM2=>?_);obtain⟨u2,hu2,hr2⟩:=HS2.out.op.row;have hSx2:(QOgJ1 sb o c) w2:=(by and_intros <;> exact hr2.c rfl);clear hr2 hu2;refine kH hK hSx2 fun hHeld=>?_
  clear hK K;refine clH 12 (fun K hK=>?_)
  ·go_simp;refine(HMO.out _).mono ?_;rintro ex w3 ⟨rfl,hb⟩;have HS3:=hid (HS2.out.below hb);have HM3:=hid (HM2.out.trans (Mv.below hb _));clear hb;obtain⟨u3,hu3,hr3⟩:=HS3.out.op.row;have hSx3:(QOgJ1 sb o c) w3:=(by and_intros <;> exact hr3.c rfl);clear hr3 hu3;refine kH hK hSx3 fun hHeld=>?_
   clear hK K;refine clH 13 (fun K hK=>?_)
   ·go_simp;refine(HGA.out _).mono ?_;rintro ex w4 ⟨rfl,hb⟩;have HS4:=hid (HS3.out.below hb);have HM4:=hid (HM3.out.trans (Mv.below hb _));clear hb;obtain⟨u4,hu4,hr4⟩:=HS4.out.op.row;have hSx4:(QOgJ1 sb o c) w4:=(by and_intros <;> exact hr4.c rfl);clear hr4 hu4;refine kH hK hSx4 fun hHeld=>?_
    clear hK K;refine tkH 14 ?_;refine dnH ?_;clear hHeld hSx4;obtain⟨u4,hu4,hr4⟩:=HS4.out.op.row;have c2_4:=hr4.at 2 (.int .i64 (c.sl:Int)) (by rw[← HSL.out];rfl);clear hr4 hu4;go_wp2_with fail;refine(HFL.out _ HS4.out).mono (mvD HM4 fun w5 rv5 HS5 HM5=>?_);go_wp2_with fail;refine(end_o sb mb lb ty o _ _ _ 1 _ HS5.out).mono (mvD HM5 fun w6 rv6 HS6 HM6=>?_);go_wp2_with fail
    go_end0
    exact⟨_,rfl,HS6.out,HM6.out⟩
end
end Go.Proofs.YtolmpehgeinlkaaGreatDoor
