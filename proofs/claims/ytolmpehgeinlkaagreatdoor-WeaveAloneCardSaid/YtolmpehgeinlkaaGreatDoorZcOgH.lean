/- The kind chen: each step of a write, and of a read. -/
import Derived.Test.YtolmpehgeinlkaaGreatDoorZcG
import Derived.Test.YtolmpehgeinlkaaGreatDoorZcShF
namespace Go.Proofs.YtolmpehgeinlkaaGreatDoor
open Go.RowKit
open Go.Lib (hid)
attribute [local go_sem] Oper.semAt_some
set_option maxHeartbeats 1000000
set_option maxRecDepth 100000
abbrev QOgH0 (a0:Nat) (a1:Ob) (a2:Kc) (w':World):Prop:=w'.cell? ⟨a0,0,none⟩=some (.int .i64 a1.k)∧w'.cell? ⟨a0,1,none⟩=some (.int .i64 a1.wd)∧w'.cell? ⟨a0,2,none⟩=some (.int .i64 a1.s)∧w'.cell? ⟨a0,3,none⟩=some (.int .i64 a1.c)∧w'.cell? ⟨a0,4,none⟩=some (.int .u32 a1.st)∧w'.cell? ⟨a0,5,none⟩=some (.slice a1.I a1.ni a1.ci)∧w'.cell? ⟨a0,6,none⟩=some (.int .i64 a1.wr)∧w'.cell? ⟨a0,7,none⟩=some (.slice a1.R a1.nr a1.cr)∧w'.cell? ⟨a0,14,none⟩=some (.int .u32 a2.B)
abbrev QOgH1 (a0:Nat) (a1:Kc) (w':World):Prop:=w'.cell? ⟨a0,11,none⟩=some (.int .i64 (a1.i:Int))∧w'.cell? ⟨a0,14,none⟩=some (.int .u32 a1.B)
theorem Tab64.mv {sb mb lb:Nat} {w w':World} {rv rv':Value} (h:Tab64 w) (hm:Mv sb mb lb w w' rv rv') (hn:¬ fp sb mb lb rv 0):Tab64 w':=h.tch hm.tch hn
section
variable (sb mb lb:Nat) (ty:TypeId) (o:Ob) (c:Kc) (rv:Value) (l:List Int)
theorem chenNone_o (w:World) (h:St w sb mb lb ty o c rv l):Calls Tryz.prog 167 #[.pointer (some ⟨sb,0,none⟩)] w fun e w'=>e=.returned (.int .u32 ((c.nr:Int)+2))∧Below w.heap.size w w':=by
 obtain⟨HS0,HM0,hfit,HF,HWD,HSL,HCP,HNR⟩:=h.start;clear hfit h;have HB0:=hid (Below.refl w.heap.size w);have hnr:=HF.out.nr1;have hsl:=hid fun W=>chenSlots_o o (by have:=HNR.out;omega) W
 have hv:=HNR.out;rw[← hv];have hn4:(o.nr:Int)≤4:=by omega
 have hn0:(0:Int)≤(o.nr:Int):=by omega
 clear hv hnr;unfold obA at hsl;obtain⟨u0,hu0,hr0⟩:=HS0.out.op.row;have c0_0:=hr0.at 0 (.int .i64 o.k);have c1_0:=hr0.at 1 (.int .i64 o.wd);have c2_0:=hr0.at 2 (.int .i64 o.s);have c3_0:=hr0.at 3 (.int .i64 o.c);have c4_0:=hr0.at 4 (.int .u32 o.st);have c5_0:=hr0.at 5 (.slice o.I o.ni o.ci);have c6_0:=hr0.at 6 (.int .i64 o.wr);have c7_0:=hr0.at 7 (.slice o.R o.nr o.cr);clear hr0 hu0;go_enter Tryz.func167,Tryz.ntmps167;go_wp2_with fail;refine(hsl.out _).mono ?_;rintro ex w1 ⟨rfl,hb⟩;have HS1:=hid (HS0.out.below hb);have HM1:=hid (HM0.out.trans (Mv.below hb _));have HB1:=hid (HB0.out.trans (hb.mono HB0.out.size));clear hb;go_wp2_with fail;go_ret;exact⟨rfl,HB1.out⟩
theorem chenFrom_o (w:World) (h:St w sb mb lb ty o c rv l) (hB:0≤c.B∧c.B≤20):Calls Tryz.prog 165 #[.pointer (some ⟨sb,0,none⟩)] w fun e w'=>e=.returned (.int .i64 ((1+c.nr+c.B.toNat*c.wd:Nat):Int))∧Below w.heap.size w w':=by
 obtain⟨HS0,HM0,hfit,HF,HWD,HSL,HCP,HNR⟩:=h.start;clear hfit h;have HB0:=hid (Below.refl w.heap.size w);have hnr:=HF.out.nr1;have hwd:=HF.out.wd1;have hsl:=hid fun W=>chenData_o o (by have:=HNR.out;omega) W
 have hv:=HNR.out
 have hq:((1+c.nr+c.B.toNat*c.wd:Nat):Int)=1+(o.nr:Int)+c.B*o.wd:=by
  rw[Int.natCast_add,Int.natCast_mul,Int.toNat_of_nonneg (by omega),HWD.out,hv];rfl
 rw[hq];have hw0:0≤o.wd:=by have:=HWD.out;omega
 have hw8:o.wd≤8:=by have:=HWD.out;omega
 have m1:=mul_bd4 (a:=c.B) (b:=o.wd) (by omega) (by omega) (by omega) (by omega);have e3:IntKind.i64.wrap (c.B*o.wd)=c.B*o.wd:=sh_wrap (by omega) (by omega);have e5:IntKind.i64.wrap c.B=c.B:=sh_wrap (by omega) (by omega);have e4:IntKind.i64.wrap (1+(o.nr:Int)+c.B*o.wd)=1+(o.nr:Int)+c.B*o.wd:=sh_wrap (by omega) (by omega);clear hv hnr hwd hq hB;unfold obA at hsl;go_enter Tryz.func165,Tryz.ntmps165;go_wp2_with fail;obtain⟨u0,hu0,hr0⟩:=HS0.out.drew.op.row;have hSd:(QOgH0 sb o c) w.drew:=(by and_intros <;> exact hr0.c rfl);have HS1:=hid HS0.out.drew;have HM1:=hid (HM0.out.trans (Mv.drew w _));clear hr0 hu0;have HB1:=hid HB0.out.drew;refine rgn hSd fun w1 hw9 hHeld=>?_
 rw[hw9] at HS1 HM1 HB1;clear hw9 hSd;refine tk4 0 1 2 3 ?_;refine tk4 4 6 7 8 ?_;refine tk4 9 10 11 12 ?_;refine tk4 13 14 15 16 ?_;refine tk2 17 18 ?_;refine clH 5 (fun K hK=>?_)
 ·go_simp;refine(hsl.out _).mono ?_;rintro ex w2 ⟨rfl,hb⟩;have HS2:=hid (HS1.out.below hb);have HM2:=hid (HM1.out.trans (Mv.below hb _));have HB2:=hid (HB1.out.trans (hb.mono HB1.out.size));clear hb;obtain⟨u2,hu2,hr2⟩:=HS2.out.op.row;have hSx2:(QOgH0 sb o c) w2:=(by and_intros <;> exact hr2.c rfl);clear hr2 hu2;refine kH hK hSx2 fun hHeld=>?_
  clear hK K;refine tk2 19 20 ?_;refine dnH ?_;clear hHeld hSx2;go_wp2_with fail;go_ret;exact⟨rfl,HB2.out⟩
theorem chenScan_last (w:World) (h:St w sb mb lb ty o c rv l) (hi:c.i<100) (hT:Tab64 w) (hn:¬ fp sb mb lb rv 0) (hlast:c.nr≤c.i+1) (hj:c.base+(1+c.i)<l.length):Calls Tryz.prog 164 #[.pointer (some ⟨sb,0,none⟩)] w (Did sb mb lb ty o w rv (({ ({ c.mark (c.rdm l (1+c.i)) with i:=c.i+1 }:Kc).mark c.A with B:=(({ c.mark (c.rdm l (1+c.i)) with i:=c.i+1 }:Kc).mark c.A).free }:Kc).go 2) l (.tuple #[])):=by
 obtain⟨HS0,HM0,hfit,HF,HWD,HSL,HCP,HNR⟩:=h.start;clear hfit h;have hz:=rdm_bd hj HS0.out.mem.w32;have HR:=hid fun W (h:St W sb mb lb ty o c rv l)=>read_o sb mb lb ty o c rv l (1+(c.i:Int)) (1+c.i) W h (by omega) hj
 obtain⟨z,hz'⟩:∃ x,c.rdm l (1+c.i)=x:=⟨_,rfl⟩;rw[hz'] at HR hz;try rw[hz']
 have Hz':=hid hz';clear hz' hj;have hz0:=hz.1;have hz1:=hz.2;clear hz;have hN:=HNR.out;have hi0:(0:Int)≤(c.i:Int):=by omega
 have hi1:(c.i:Int)≤100:=by omega
 have hs:IntKind.i64.wrap (1+(c.i:Int))=1+(c.i:Int):=sh_wrap (by omega) (by omega);have hd:decide ((o.nr:Int)≤(c.i:Int)+1)=true:=decide_eq_true (by omega);have HMK:=hid fun W (h:St W sb mb lb ty o c rv l)=>mark_o sb mb lb ty o c rv l z W h ⟨hz0,hz1⟩
 have hea:=fun W (h:St W sb mb lb ty o (c.mark z) rv l)=>each_o sb mb lb ty o (c.mark z) rv l (o.nr:Int) W h (show c.i<1000 by omega)
 have hdm:decide ((o.nr:Int)≤(((c.mark z).i:Nat):Int)+1)=true:=hd;rw[hdm] at hea;have HEA:=hid hea;clear hd hea hN hlast hdm hi;have HMA:=hid fun W (h:St W sb mb lb ty o { c.mark z with i:=(c.mark z).i+1 } rv l)=>mark_o sb mb lb ty o { c.mark z with i:=(c.mark z).i+1 } rv l c.A W h ⟨HF.out.A0,HF.out.A1⟩
 have HFE:=hid fun W (h:St W sb mb lb ty o (({ c.mark z with i:=(c.mark z).i+1 }:Kc).mark c.A) rv l) (hT:Tab64 W)=>free_o sb mb lb ty o (({ c.mark z with i:=(c.mark z).i+1 }:Kc).mark c.A) rv l W h hT
 have HTT:=hid (And.intro hT hn);have hb:=free_bd (({ c.mark z with i:=(c.mark z).i+1 }:Kc).mark c.A);obtain⟨Z,hZ⟩:∃ x,(({ c.mark z with i:=(c.mark z).i+1 }:Kc).mark c.A).free=x:=⟨_,rfl⟩;have hZ':(({ c.mark z with i:=c.i+1 }:Kc).mark c.A).free=Z:=hZ;rw[hZ'] at ⊢;rw[hZ] at HFE hb;clear hZ hZ';clear hT hn;go_enter Tryz.func164,Tryz.ntmps164;go_wp2_with fail;refine rgK (S:=(fun w':World=>w'.cell? ⟨sb,11,none⟩=some (.int .i64 (c.i:Int)))) HS0 HM0 (fun HS1=>let ⟨_,_,hr0⟩:=HS1.out.op.row;(hr0.cell 11).trans rfl) fun w1 HS1 HM1 hHeld=>?_
 refine tk4 0 1 2 3 ?_;refine tk4 4 5 6 7 ?_;refine tk4 8 9 10 11 ?_;refine clH 12 (fun K hK=>?_)
 ·go_simp;refine(HR.out _ HS1.out).mono (mvK HM1 fun w2 HS2 HM2=>?_);obtain⟨u2,hu2,hr2⟩:=HS2.out.op.row;have hSx2:(fun w':World=>w'.cell? ⟨sb,11,none⟩=some (.int .i64 (c.i:Int))) w2:=(hr2.cell 11).trans rfl;clear hr2 hu2;refine kH hK hSx2 fun hHeld=>?_
  clear hK K;refine clH 13 (fun K hK=>?_)
  ·go_simp;refine(HMK.out _ HS2.out).mono (mvK HM2 fun w3 HS3 HM3=>?_);obtain⟨u3,hu3,hr3⟩:=HS3.out.op.row;have hSx3:(fun w':World=>w'.cell? ⟨sb,11,none⟩=some (.int .i64 (c.i:Int))) w3:=(hr3.cell 11).trans rfl;clear hr3 hu3;refine kH hK hSx3 fun hHeld=>?_
   clear hK K;refine dnH ?_;clear hHeld hSx3;go_wp2_with fail;refine rgK (S:=(fun w':World=>w'.cell? ⟨sb,7,none⟩=some (.slice o.R o.nr o.cr))) HS3 HM3 (fun HS4=>let ⟨_,_,hr3⟩:=HS4.out.op.row;(hr3.cell 7).trans rfl) fun w4 HS4 HM4 hHeld=>?_
   refine tk4 0 1 2 3 ?_;refine tk4 4 5 6 7 ?_;refine tk2 8 9 ?_;refine clH 10 (fun K hK=>?_)
   ·go_simp;refine(HEA.out _ HS4.out).mono (mvK HM4 fun w5 HS5 HM5=>?_);obtain⟨u5,hu5,hr5⟩:=HS5.out.op.row;have hSx5:(fun w':World=>w'.cell? ⟨sb,7,none⟩=some (.slice o.R o.nr o.cr)) w5:=(hr5.cell 7).trans rfl;clear hr5 hu5;refine kH hK hSx5 fun hHeld=>?_
    clear hK K;refine tkH 11 ?_;refine dnH ?_;clear hHeld hSx5;go_wp2_with fail;refine rgK (S:=(fun w':World=>w'.cell? ⟨sb,13,none⟩=some (.int .u32 c.A))) HS5 HM5 (fun HS6=>let ⟨_,_,hr5⟩:=HS6.out.op.row;(hr5.cell 13).trans rfl) fun w6 HS6 HM6 hHeld=>?_
    refine tk4 0 1 2 3 ?_;refine tk4 4 5 6 7 ?_;refine clH 8 (fun K hK=>?_)
    ·go_simp;refine(HMA.out _ HS6.out).mono (mvK HM6 fun w7 HS7 HM7=>?_);obtain⟨u7,hu7,hr7⟩:=HS7.out.op.row;have hSx7:(fun w':World=>w'.cell? ⟨sb,13,none⟩=some (.int .u32 c.A)) w7:=(hr7.cell 13).trans rfl;clear hr7 hu7;refine kH hK hSx7 fun hHeld=>?_
     clear hK K;refine dnH ?_;clear hHeld hSx7;go_wp2_with fail;have htab:=HTT.out.1.mv HM7.out HTT.out.2;have HTB:=hid htab;clear htab;refine(HFE.out _ HS7.out HTB.out).mono ?_;rintro ex w8 ⟨rfl,rfl⟩;have HS8:=HS7;have HM8:=HM7;obtain⟨u8,hu8,hr8⟩:=HS8.out.op.row;have c14_8:=hr8.at 14 (.int .u32 c.B);have f14_8:=hr8.frozen 14;clear hr8 hu8;go_wp2_with fail;obtain⟨HS9,HM9⟩:=nxx (HS8.out.setB (Z) (by omega)) HM8;refine(go_o sb mb lb ty o _ _ _ 2 2 _ HS9.out rfl).mono (mvK HM9 fun w10 HS10 HM10=>?_);go_wp2_with fail
     go_end0
     exact⟨_,rfl,HS10.out,HM10.out⟩
theorem chenScan_next (w:World) (h:St w sb mb lb ty o c rv l) (hi:c.i<100) (_hT:Tab64 w) (_hn:¬ fp sb mb lb rv 0) (hlast:¬ (c.nr≤c.i+1)) (hj:c.base+(1+c.i)<l.length):Calls Tryz.prog 164 #[.pointer (some ⟨sb,0,none⟩)] w (Did sb mb lb ty o w rv { c.mark (c.rdm l (1+c.i)) with i:=c.i+1 } l (.tuple #[])):=by
 obtain⟨HS0,HM0,hfit,HF,HWD,HSL,HCP,HNR⟩:=h.start;clear hfit h;have hz:=rdm_bd hj HS0.out.mem.w32;have HR:=hid fun W (h:St W sb mb lb ty o c rv l)=>read_o sb mb lb ty o c rv l (1+(c.i:Int)) (1+c.i) W h (by omega) hj
 obtain⟨z,hz'⟩:∃ x,c.rdm l (1+c.i)=x:=⟨_,rfl⟩;rw[hz'] at HR hz;try rw[hz']
 have Hz':=hid hz';clear hz' hj;have hz0:=hz.1;have hz1:=hz.2;clear hz;have hN:=HNR.out;have hi0:(0:Int)≤(c.i:Int):=by omega
 have hi1:(c.i:Int)≤100:=by omega
 have hs:IntKind.i64.wrap (1+(c.i:Int))=1+(c.i:Int):=sh_wrap (by omega) (by omega);have hd:decide ((o.nr:Int)≤(c.i:Int)+1)=false:=decide_eq_false (by omega);have HMK:=hid fun W (h:St W sb mb lb ty o c rv l)=>mark_o sb mb lb ty o c rv l z W h ⟨hz0,hz1⟩
 have hea:=fun W (h:St W sb mb lb ty o (c.mark z) rv l)=>each_o sb mb lb ty o (c.mark z) rv l (o.nr:Int) W h (show c.i<1000 by omega)
 have hdm:decide ((o.nr:Int)≤(((c.mark z).i:Nat):Int)+1)=false:=hd;rw[hdm] at hea;have HEA:=hid hea;clear hd hea hN hlast hdm hi;clear _hT _hn;go_enter Tryz.func164,Tryz.ntmps164;go_wp2_with fail;refine rgK (S:=(fun w':World=>w'.cell? ⟨sb,11,none⟩=some (.int .i64 (c.i:Int)))) HS0 HM0 (fun HS1=>let ⟨_,_,hr0⟩:=HS1.out.op.row;(hr0.cell 11).trans rfl) fun w1 HS1 HM1 hHeld=>?_
 refine tk4 0 1 2 3 ?_;refine tk4 4 5 6 7 ?_;refine tk4 8 9 10 11 ?_;refine clH 12 (fun K hK=>?_)
 ·go_simp;refine(HR.out _ HS1.out).mono (mvK HM1 fun w2 HS2 HM2=>?_);obtain⟨u2,hu2,hr2⟩:=HS2.out.op.row;have hSx2:(fun w':World=>w'.cell? ⟨sb,11,none⟩=some (.int .i64 (c.i:Int))) w2:=(hr2.cell 11).trans rfl;clear hr2 hu2;refine kH hK hSx2 fun hHeld=>?_
  clear hK K;refine clH 13 (fun K hK=>?_)
  ·go_simp;refine(HMK.out _ HS2.out).mono (mvK HM2 fun w3 HS3 HM3=>?_);obtain⟨u3,hu3,hr3⟩:=HS3.out.op.row;have hSx3:(fun w':World=>w'.cell? ⟨sb,11,none⟩=some (.int .i64 (c.i:Int))) w3:=(hr3.cell 11).trans rfl;clear hr3 hu3;refine kH hK hSx3 fun hHeld=>?_
   clear hK K;refine dnH ?_;clear hHeld hSx3;go_wp2_with fail;refine rgK (S:=(fun w':World=>w'.cell? ⟨sb,7,none⟩=some (.slice o.R o.nr o.cr))) HS3 HM3 (fun HS4=>let ⟨_,_,hr3⟩:=HS4.out.op.row;(hr3.cell 7).trans rfl) fun w4 HS4 HM4 hHeld=>?_
   refine tk4 0 1 2 3 ?_;refine tk4 4 5 6 7 ?_;refine tk2 8 9 ?_;refine clH 10 (fun K hK=>?_)
   ·go_simp;refine(HEA.out _ HS4.out).mono (mvK HM4 fun w5 HS5 HM5=>?_);obtain⟨u5,hu5,hr5⟩:=HS5.out.op.row;have hSx5:(fun w':World=>w'.cell? ⟨sb,7,none⟩=some (.slice o.R o.nr o.cr)) w5:=(hr5.cell 7).trans rfl;clear hr5 hu5;refine kH hK hSx5 fun hHeld=>?_
    clear hK K;refine tkH 11 ?_;refine dnH ?_;clear hHeld hSx5;go_wp2_with fail
    go_end0
    exact⟨_,rfl,HS5.out,HM5.out⟩
theorem chen_w0 (w:World) (h:St w sb mb lb ty o c rv l) (hph:c.ph=0) (hj:c.base+0<l.length):Calls Tryz.prog 141 #[.pointer (some ⟨sb,0,none⟩)] w (Did sb mb lb ty o w rv (({ c with A:=c.rdm l 0 }:Kc).go 1) l (.tuple #[])):=by
 obtain⟨HS0,HM0,hfit,HF,HWD,HSL,HCP,HNR⟩:=h.start;clear hfit h;have HPH:=hid hph;clear hph;obtain⟨u0,hu0,hr0⟩:=HS0.out.op.row;have c10_0:=hr0.ph 10 0 HPH;clear hr0 hu0;have hz:=rdm_bd hj HS0.out.mem.w32;have HR:=hid fun W (h:St W sb mb lb ty o c rv l)=>read_o sb mb lb ty o c rv l 0 0 W h (by omega) hj
 obtain⟨z,hz'⟩:∃ x,c.rdm l 0=x:=⟨_,rfl⟩;rw[hz'] at HR hz;try rw[hz']
 have Hz':=hid hz';clear hz' hj;have hz0:=hz.1;have hz1:=hz.2;clear hz;go_enter Tryz.func141,Tryz.ntmps141;go_wp2_with fail;refine(HR.out _ HS0.out).mono (mvK HM0 fun w1 HS1 HM1=>?_);obtain⟨u1,hu1,hr1⟩:=HS1.out.op.row;have c13_1:=hr1.at 13 (.int .u32 c.A);have f13_1:=hr1.frozen 13;clear hr1 hu1;go_wp2_with fail;obtain⟨HS2,HM2⟩:=nxx (HS1.out.setA (z) ⟨hz0,hz1⟩) HM1;go_wp2_with fail;refine(go_o sb mb lb ty o _ _ _ 1 1 _ HS2.out rfl).mono (mvK HM2 fun w3 HS3 HM3=>?_);go_wp2_with fail
 go_end0
 exact⟨_,rfl,HS3.out,HM3.out⟩
theorem chen_w1_last (w:World) (h:St w sb mb lb ty o c rv l) (hph:c.ph=1) (hi:c.i<100) (hT:Tab64 w) (hn:¬ fp sb mb lb rv 0) (hlast:c.nr≤c.i+1) (hj:c.base+(1+c.i)<l.length):Calls Tryz.prog 141 #[.pointer (some ⟨sb,0,none⟩)] w (Did sb mb lb ty o w rv (({ ({ c.mark (c.rdm l (1+c.i)) with i:=c.i+1 }:Kc).mark c.A with B:=(({ c.mark (c.rdm l (1+c.i)) with i:=c.i+1 }:Kc).mark c.A).free }:Kc).go 2) l (.tuple #[])):=by
 obtain⟨HS0,HM0,hfit,HF,HWD,HSL,HCP,HNR⟩:=h.start;clear hfit h;have HPH:=hid hph;clear hph;obtain⟨u0,hu0,hr0⟩:=HS0.out.op.row;have c10_0:=hr0.ph 10 1 HPH;clear hr0 hu0;have HSC:=hid (chenScan_last sb mb lb ty o c rv l w HS0.out hi hT hn hlast hj);clear hi hT hn hlast hj;go_enter Tryz.func141,Tryz.ntmps141;go_wp2_with fail;refine(HSC.out).mono (mvD HM0 fun w1 rv1 HS1 HM1=>?_);go_wp2_with fail
 go_end0
 exact⟨_,rfl,HS1.out,HM1.out⟩
theorem chen_w1_next (w:World) (h:St w sb mb lb ty o c rv l) (hph:c.ph=1) (hi:c.i<100) (hT:Tab64 w) (hn:¬ fp sb mb lb rv 0) (hlast:¬ (c.nr≤c.i+1)) (hj:c.base+(1+c.i)<l.length):Calls Tryz.prog 141 #[.pointer (some ⟨sb,0,none⟩)] w (Did sb mb lb ty o w rv { c.mark (c.rdm l (1+c.i)) with i:=c.i+1 } l (.tuple #[])):=by
 obtain⟨HS0,HM0,hfit,HF,HWD,HSL,HCP,HNR⟩:=h.start;clear hfit h;have HPH:=hid hph;clear hph;obtain⟨u0,hu0,hr0⟩:=HS0.out.op.row;have c10_0:=hr0.ph 10 1 HPH;clear hr0 hu0;have HSC:=hid (chenScan_next sb mb lb ty o c rv l w HS0.out hi hT hn hlast hj);clear hi hT hn hlast hj;go_enter Tryz.func141,Tryz.ntmps141;go_wp2_with fail;refine(HSC.out).mono (mvD HM0 fun w1 rv1 HS1 HM1=>?_);go_wp2_with fail
 go_end0
 exact⟨_,rfl,HS1.out,HM1.out⟩
theorem chen_w2 (w:World) (h:St w sb mb lb ty o c rv l) (hph:c.ph=2) (hB:0≤c.B∧c.B≤20) (hwr:c.wr=true→c.i<c.rc.length) (hrl:c.rc.length≤1000000) (hi2:c.i<1000) (hj:c.base+(1+c.nr+c.B.toNat*c.wd+c.i)<l.length) (hf1:1+c.nr+c.B.toNat*c.wd≤1000000):Calls Tryz.prog 141 #[.pointer (some ⟨sb,0,none⟩)] w (Did sb mb lb ty o w rv (c.word l (1+c.nr+c.B.toNat*c.wd) (·.go 3)).1 (c.word l (1+c.nr+c.B.toNat*c.wd) (·.go 3)).2 (.tuple #[])):=by
 obtain⟨HS0,HM0,hfit,HF,HWD,HSL,HCP,HNR⟩:=h.start;clear hfit h;have HPH:=hid hph;clear hph;obtain⟨u0,hu0,hr0⟩:=HS0.out.op.row;have c10_0:=hr0.ph 10 2 HPH;clear hr0 hu0;have HFR:=hid fun W (h:St W sb mb lb ty o c rv l)=>chenFrom_o sb mb lb ty o c rv l W h hB
 clear hB;obtain⟨FR,hFR⟩:∃ x,1+c.nr+c.B.toNat*c.wd=x:=⟨_,rfl⟩;rw[hFR] at HFR hj hf1 ⊢;clear hFR;have HWO:=hid fun W (rv:Value) (h:St W sb mb lb ty o c rv l)=>word_o sb mb lb ty o c rv l (FR) W h hwr hrl hi2 hj hf1
 clear hwr hrl hi2 hj hf1;rw[Kc.word_eq]
 by_cases hlast:c.wd≤c.i+1
 ·rw[if_pos hlast];have hd:decide ((c.wd:Int)≤(c.i:Int)+1)=true:=decide_eq_true (by omega);rw[hd] at HWO;clear hlast hd;go_enter Tryz.func141,Tryz.ntmps141;go_wp2_with fail;refine rgK (S:=(fun _:World=>True)) HS0 HM0 (fun HS1=>let ⟨_,_,hr0⟩:=HS1.out.op.row;trivial) fun w1 HS1 HM1 hHeld=>?_
  refine tk4 0 1 2 3 ?_;refine clH 4 (fun K hK=>?_)
  ·go_simp;refine(HFR.out _ HS1.out).mono ?_;rintro ex w2 ⟨rfl,hb⟩;have HS2:=hid (HS1.out.below hb);have HM2:=hid (HM1.out.trans (Mv.below hb _));clear hb;have hSx2:(fun _:World=>True) w2:=trivial;refine kH hK hSx2 fun hHeld=>?_
   clear hK K;refine clH 5 (fun K hK=>?_)
   ·go_simp;refine(HWO.out _ _ HS2.out).mono (mvD HM2 fun w3 rv3 HS3 HM3=>?_);have hSx3:(fun _:World=>True) w3:=trivial;refine kH hK hSx3 fun hHeld=>?_
    clear hK K;refine dnH ?_;clear hHeld hSx3;go_wp2_with fail;refine(go_o sb mb lb ty o _ _ _ 3 3 _ HS3.out rfl).mono (mvK HM3 fun w4 HS4 HM4=>?_);go_wp2_with fail
    go_end0
    exact⟨_,rfl,HS4.out,HM4.out⟩
 ·rw[if_neg hlast];have hd:decide ((c.wd:Int)≤(c.i:Int)+1)=false:=decide_eq_false (by omega);rw[hd] at HWO;clear hlast hd;go_enter Tryz.func141,Tryz.ntmps141;go_wp2_with fail;refine rgK (S:=(fun _:World=>True)) HS0 HM0 (fun HS1=>let ⟨_,_,hr0⟩:=HS1.out.op.row;trivial) fun w1 HS1 HM1 hHeld=>?_
  refine tk4 0 1 2 3 ?_;refine clH 4 (fun K hK=>?_)
  ·go_simp;refine(HFR.out _ HS1.out).mono ?_;rintro ex w2 ⟨rfl,hb⟩;have HS2:=hid (HS1.out.below hb);have HM2:=hid (HM1.out.trans (Mv.below hb _));clear hb;have hSx2:(fun _:World=>True) w2:=trivial;refine kH hK hSx2 fun hHeld=>?_
   clear hK K;refine clH 5 (fun K hK=>?_)
   ·go_simp;refine(HWO.out _ _ HS2.out).mono (mvD HM2 fun w3 rv3 HS3 HM3=>?_);have hSx3:(fun _:World=>True) w3:=trivial;refine kH hK hSx3 fun hHeld=>?_
    clear hK K;refine dnH ?_;clear hHeld hSx3;go_wp2_with fail
    go_end0
    exact⟨_,rfl,HS3.out,HM3.out⟩
theorem chen_w3 (w:World) (h:St w sb mb lb ty o c rv l) (hph:c.ph=3) (hj:c.base+0<l.length):Calls Tryz.prog 141 #[.pointer (some ⟨sb,0,none⟩)] w (Did sb mb lb ty o w rv (c.go 4) (c.wrm l 0 c.B) (.tuple #[])):=by
 obtain⟨HS0,HM0,hfit,HF,HWD,HSL,HCP,HNR⟩:=h.start;clear hfit h;have HPH:=hid hph;clear hph;obtain⟨u0,hu0,hr0⟩:=HS0.out.op.row;have c10_0:=hr0.ph 10 3 HPH;clear hr0 hu0;have HW:=hid fun W (h:St W sb mb lb ty o c rv l)=>write_o sb mb lb ty o c rv l 0 0 c.B W h (by omega) hj ⟨HF.out.B0,HF.out.B1⟩
 clear hj;go_enter Tryz.func141,Tryz.ntmps141;go_wp2_with fail;refine rgK (S:=(fun w':World=>w'.cell? ⟨sb,14,none⟩=some (.int .u32 c.B))) HS0 HM0 (fun HS1=>let ⟨_,_,hr0⟩:=HS1.out.op.row;(hr0.cell 14).trans rfl) fun w1 HS1 HM1 hHeld=>?_
 refine tk4 0 1 2 3 ?_;refine tk4 4 5 6 7 ?_;refine clH 8 (fun K hK=>?_)
 ·go_simp;refine(HW.out _ HS1.out).mono (mvK HM1 fun w2 HS2 HM2=>?_);obtain⟨u2,hu2,hr2⟩:=HS2.out.op.row;have hSx2:(fun w':World=>w'.cell? ⟨sb,14,none⟩=some (.int .u32 c.B)) w2:=(hr2.cell 14).trans rfl;clear hr2 hu2;refine kH hK hSx2 fun hHeld=>?_
  clear hK K;refine dnH ?_;clear hHeld hSx2;go_wp2_with fail;refine(go_o sb mb lb ty o _ _ _ 4 4 _ HS2.out rfl).mono (mvK HM2 fun w3 HS3 HM3=>?_);go_wp2_with fail
  go_end0
  exact⟨_,rfl,HS3.out,HM3.out⟩
theorem chen_w4_last (w:World) (h:St w sb mb lb ty o c rv l) (hph:c.ph=4) (hi:c.i<100) (hlast:c.nr≤c.i+1) (hj:c.base+(1+c.i)<l.length):Calls Tryz.prog 141 #[.pointer (some ⟨sb,0,none⟩)] w (Did sb mb lb ty o w rv (({ c with i:=c.i+1 }:Kc).fin 0) (if c.rdm l (1+c.i)=(c.nr:Int)+2 then c.wrm l (1+c.i) c.B else l) (.tuple #[])):=by
 obtain⟨HS0,HM0,hfit,HF,HWD,HSL,HCP,HNR⟩:=h.start;clear hfit h;have HPH:=hid hph;clear hph;obtain⟨u0,hu0,hr0⟩:=HS0.out.op.row;have c10_0:=hr0.ph 10 4 HPH;clear hr0 hu0;have HSW:=hid fun W (h:St W sb mb lb ty o c rv l)=>swap_o sb mb lb ty o c rv l (1+(c.i:Int)) (1+c.i) ((c.nr:Int)+2) c.B W h (by omega) hj ⟨HF.out.B0,HF.out.B1⟩
 obtain⟨L1,hL1⟩:∃ x,(if c.rdm l (1+c.i)=(c.nr:Int)+2 then c.wrm l (1+c.i) c.B else l)=x:=⟨_,rfl⟩;rw[hL1] at HSW ⊢;clear hL1 hj;have hN:=HNR.out;have hi0:(0:Int)≤(c.i:Int):=by omega
 have hi1:(c.i:Int)≤100:=by omega
 have hs:IntKind.i64.wrap (1+(c.i:Int))=1+(c.i:Int):=sh_wrap (by omega) (by omega);have hd:decide ((o.nr:Int)≤(c.i:Int)+1)=true:=decide_eq_true (by omega);have hea:=fun W (h:St W sb mb lb ty o c rv L1)=>each_o sb mb lb ty o c rv L1 (o.nr:Int) W h (show c.i<1000 by omega)
 rw[hd] at hea;have HEA:=hid hea;clear hd hea hN hlast hi;have HNO:=hid fun W (h:St W sb mb lb ty o c rv l)=>chenNone_o sb mb lb ty o c rv l W h
 go_enter Tryz.func141,Tryz.ntmps141;go_wp2_with fail;refine rgK (S:=(QOgH1 sb c)) HS0 HM0 (fun HS1=>let ⟨_,_,hr0⟩:=HS1.out.op.row;⟨(hr0.cell 11).trans rfl,(hr0.cell 14).trans rfl⟩) fun w1 HS1 HM1 hHeld=>?_
 refine tk4 0 1 2 3 ?_;refine tk4 4 5 6 7 ?_;refine tk4 8 9 11 12 ?_;refine tk2 13 14 ?_;refine tkH 15 ?_;refine clH 10 (fun K hK=>?_)
 ·go_simp;refine(HNO.out _ HS1.out).mono ?_;rintro ex w2 ⟨rfl,hb⟩;have HS2:=hid (HS1.out.below hb);have HM2:=hid (HM1.out.trans (Mv.below hb _));clear hb;obtain⟨u2,hu2,hr2⟩:=HS2.out.op.row;have hSx2:(QOgH1 sb c) w2:=⟨(hr2.cell 11).trans rfl,(hr2.cell 14).trans rfl⟩;clear hr2 hu2;refine kH hK hSx2 fun hHeld=>?_
  clear hK K;refine clH 16 (fun K hK=>?_)
  ·go_simp;refine(HSW.out _ HS2.out).mono (mvK HM2 fun w3 HS3 HM3=>?_);obtain⟨u3,hu3,hr3⟩:=HS3.out.op.row;have hSx3:(QOgH1 sb c) w3:=⟨(hr3.cell 11).trans rfl,(hr3.cell 14).trans rfl⟩;clear hr3 hu3;refine kH hK hSx3 fun hHeld=>?_
   clear hK K;refine dnH ?_;clear hHeld hSx3;go_wp2_with fail;refine rgK (S:=(fun w':World=>w'.cell? ⟨sb,7,none⟩=some (.slice o.R o.nr o.cr))) HS3 HM3 (fun HS4=>let ⟨_,_,hr3⟩:=HS4.out.op.row;(hr3.cell 7).trans rfl) fun w4 HS4 HM4 hHeld=>?_
   refine tk4 0 1 2 3 ?_;refine tk4 4 5 6 7 ?_;refine tk2 8 9 ?_;refine clH 10 (fun K hK=>?_)
   ·go_simp;refine(HEA.out _ HS4.out).mono (mvK HM4 fun w5 HS5 HM5=>?_);obtain⟨u5,hu5,hr5⟩:=HS5.out.op.row;have hSx5:(fun w':World=>w'.cell? ⟨sb,7,none⟩=some (.slice o.R o.nr o.cr)) w5:=(hr5.cell 7).trans rfl;clear hr5 hu5;refine kH hK hSx5 fun hHeld=>?_
    clear hK K;refine dnH ?_;clear hHeld hSx5;go_wp2_with fail;refine(end_o sb mb lb ty o _ _ _ 0 _ HS5.out).mono (mvD HM5 fun w6 rv6 HS6 HM6=>?_);go_wp2_with fail
    go_end0
    exact⟨_,rfl,HS6.out,HM6.out⟩
theorem chen_w4_next (w:World) (h:St w sb mb lb ty o c rv l) (hph:c.ph=4) (hi:c.i<100) (hlast:¬ (c.nr≤c.i+1)) (hj:c.base+(1+c.i)<l.length):Calls Tryz.prog 141 #[.pointer (some ⟨sb,0,none⟩)] w (Did sb mb lb ty o w rv { c with i:=c.i+1 } (if c.rdm l (1+c.i)=(c.nr:Int)+2 then c.wrm l (1+c.i) c.B else l) (.tuple #[])):=by
 obtain⟨HS0,HM0,hfit,HF,HWD,HSL,HCP,HNR⟩:=h.start;clear hfit h;have HPH:=hid hph;clear hph;obtain⟨u0,hu0,hr0⟩:=HS0.out.op.row;have c10_0:=hr0.ph 10 4 HPH;clear hr0 hu0;have HSW:=hid fun W (h:St W sb mb lb ty o c rv l)=>swap_o sb mb lb ty o c rv l (1+(c.i:Int)) (1+c.i) ((c.nr:Int)+2) c.B W h (by omega) hj ⟨HF.out.B0,HF.out.B1⟩
 obtain⟨L1,hL1⟩:∃ x,(if c.rdm l (1+c.i)=(c.nr:Int)+2 then c.wrm l (1+c.i) c.B else l)=x:=⟨_,rfl⟩;rw[hL1] at HSW ⊢;clear hL1 hj;have hN:=HNR.out;have hi0:(0:Int)≤(c.i:Int):=by omega
 have hi1:(c.i:Int)≤100:=by omega
 have hs:IntKind.i64.wrap (1+(c.i:Int))=1+(c.i:Int):=sh_wrap (by omega) (by omega);have hd:decide ((o.nr:Int)≤(c.i:Int)+1)=false:=decide_eq_false (by omega);have hea:=fun W (h:St W sb mb lb ty o c rv L1)=>each_o sb mb lb ty o c rv L1 (o.nr:Int) W h (show c.i<1000 by omega)
 rw[hd] at hea;have HEA:=hid hea;clear hd hea hN hlast hi;have HNO:=hid fun W (h:St W sb mb lb ty o c rv l)=>chenNone_o sb mb lb ty o c rv l W h
 go_enter Tryz.func141,Tryz.ntmps141;go_wp2_with fail;refine rgK (S:=(QOgH1 sb c)) HS0 HM0 (fun HS1=>let ⟨_,_,hr0⟩:=HS1.out.op.row;⟨(hr0.cell 11).trans rfl,(hr0.cell 14).trans rfl⟩) fun w1 HS1 HM1 hHeld=>?_
 refine tk4 0 1 2 3 ?_;refine tk4 4 5 6 7 ?_;refine tk4 8 9 11 12 ?_;refine tk2 13 14 ?_;refine tkH 15 ?_;refine clH 10 (fun K hK=>?_)
 ·go_simp;refine(HNO.out _ HS1.out).mono ?_;rintro ex w2 ⟨rfl,hb⟩;have HS2:=hid (HS1.out.below hb);have HM2:=hid (HM1.out.trans (Mv.below hb _));clear hb;obtain⟨u2,hu2,hr2⟩:=HS2.out.op.row;have hSx2:(QOgH1 sb c) w2:=⟨(hr2.cell 11).trans rfl,(hr2.cell 14).trans rfl⟩;clear hr2 hu2;refine kH hK hSx2 fun hHeld=>?_
  clear hK K;refine clH 16 (fun K hK=>?_)
  ·go_simp;refine(HSW.out _ HS2.out).mono (mvK HM2 fun w3 HS3 HM3=>?_);obtain⟨u3,hu3,hr3⟩:=HS3.out.op.row;have hSx3:(QOgH1 sb c) w3:=⟨(hr3.cell 11).trans rfl,(hr3.cell 14).trans rfl⟩;clear hr3 hu3;refine kH hK hSx3 fun hHeld=>?_
   clear hK K;refine dnH ?_;clear hHeld hSx3;go_wp2_with fail;refine rgK (S:=(fun w':World=>w'.cell? ⟨sb,7,none⟩=some (.slice o.R o.nr o.cr))) HS3 HM3 (fun HS4=>let ⟨_,_,hr3⟩:=HS4.out.op.row;(hr3.cell 7).trans rfl) fun w4 HS4 HM4 hHeld=>?_
   refine tk4 0 1 2 3 ?_;refine tk4 4 5 6 7 ?_;refine tk2 8 9 ?_;refine clH 10 (fun K hK=>?_)
   ·go_simp;refine(HEA.out _ HS4.out).mono (mvK HM4 fun w5 HS5 HM5=>?_);obtain⟨u5,hu5,hr5⟩:=HS5.out.op.row;have hSx5:(fun w':World=>w'.cell? ⟨sb,7,none⟩=some (.slice o.R o.nr o.cr)) w5:=(hr5.cell 7).trans rfl;clear hr5 hu5;refine kH hK hSx5 fun hHeld=>?_
    clear hK K;refine dnH ?_;clear hHeld hSx5;go_wp2_with fail
    go_end0
    exact⟨_,rfl,HS5.out,HM5.out⟩
theorem chen_r0 (w:World) (h:St w sb mb lb ty o c rv l) (hph:c.ph=0) (hj:c.base+(1+c.rd)<l.length):Calls Tryz.prog 142 #[.pointer (some ⟨sb,0,none⟩)] w (Did sb mb lb ty o w rv (c.go 1) (c.wrm l (1+c.rd) ((c.nr:Int)+2)) (.tuple #[])):=by
 obtain⟨HS0,HM0,hfit,HF,HWD,HSL,HCP,HNR⟩:=h.start;clear hfit h;have HPH:=hid hph;clear hph;obtain⟨u0,hu0,hr0⟩:=HS0.out.op.row;have c10_0:=hr0.ph 10 0 HPH;have c9_0:=hr0.at 9 (.int .i64 (c.rd:Int));clear hr0 hu0;have hrd9:=HF.out.rd1;have hrd0:(0:Int)≤(c.rd:Int):=by omega
 have hrd1:(c.rd:Int)≤4:=by omega
 have hown:IntKind.i64.wrap (1+(c.rd:Int))=1+(c.rd:Int):=sh_wrap (by omega) (by omega);clear hrd9;have HW:=hid fun W (h:St W sb mb lb ty o c rv l)=>write_o sb mb lb ty o c rv l (1+(c.rd:Int)) (1+c.rd) ((c.nr:Int)+2) W h (by omega) hj ⟨by omega,by have:=HF.out.nr1;omega⟩
 clear hj;have HNO:=hid fun W (h:St W sb mb lb ty o c rv l)=>chenNone_o sb mb lb ty o c rv l W h
 go_enter Tryz.func142,Tryz.ntmps142;go_wp2_with fail;refine rgK (S:=(fun _:World=>True)) HS0 HM0 (fun HS1=>let ⟨_,_,hr0⟩:=HS1.out.op.row;trivial) fun w1 HS1 HM1 hHeld=>?_
 refine tk4 0 1 2 3 ?_;refine tkH 4 ?_;refine clH 5 (fun K hK=>?_)
 ·go_simp;refine(HNO.out _ HS1.out).mono ?_;rintro ex w2 ⟨rfl,hb⟩;have HS2:=hid (HS1.out.below hb);have HM2:=hid (HM1.out.trans (Mv.below hb _));clear hb;have hSx2:(fun _:World=>True) w2:=trivial;refine kH hK hSx2 fun hHeld=>?_
  clear hK K;refine clH 6 (fun K hK=>?_)
  ·go_simp;refine(HW.out _ HS2.out).mono (mvK HM2 fun w3 HS3 HM3=>?_);have hSx3:(fun _:World=>True) w3:=trivial;refine kH hK hSx3 fun hHeld=>?_
   clear hK K;refine dnH ?_;clear hHeld hSx3;go_wp2_with fail;refine(go_o sb mb lb ty o _ _ _ 1 1 _ HS3.out rfl).mono (mvK HM3 fun w4 HS4 HM4=>?_);go_wp2_with fail
   go_end0
   exact⟨_,rfl,HS4.out,HM4.out⟩
theorem chen_r1 (w:World) (h:St w sb mb lb ty o c rv l) (hph:c.ph=1) (hj:c.base+0<l.length):Calls Tryz.prog 142 #[.pointer (some ⟨sb,0,none⟩)] w (Did sb mb lb ty o w rv (({ c with A:=c.rdm l 0 }:Kc).go 2) l (.tuple #[])):=by
 obtain⟨HS0,HM0,hfit,HF,HWD,HSL,HCP,HNR⟩:=h.start;clear hfit h;have HPH:=hid hph;clear hph;obtain⟨u0,hu0,hr0⟩:=HS0.out.op.row;have c10_0:=hr0.ph 10 1 HPH;have c9_0:=hr0.at 9 (.int .i64 (c.rd:Int));clear hr0 hu0;have hrd9:=HF.out.rd1;have hrd0:(0:Int)≤(c.rd:Int):=by omega
 have hrd1:(c.rd:Int)≤4:=by omega
 have hown:IntKind.i64.wrap (1+(c.rd:Int))=1+(c.rd:Int):=sh_wrap (by omega) (by omega);clear hrd9;have hz:=rdm_bd hj HS0.out.mem.w32;have HR:=hid fun W (h:St W sb mb lb ty o c rv l)=>read_o sb mb lb ty o c rv l 0 0 W h (by omega) hj
 obtain⟨z,hz'⟩:∃ x,c.rdm l 0=x:=⟨_,rfl⟩;rw[hz'] at HR hz;try rw[hz']
 have Hz':=hid hz';clear hz' hj;have hz0:=hz.1;have hz1:=hz.2;clear hz;go_enter Tryz.func142,Tryz.ntmps142;go_wp2_with fail;refine(HR.out _ HS0.out).mono (mvK HM0 fun w1 HS1 HM1=>?_);obtain⟨u1,hu1,hr1⟩:=HS1.out.op.row;have c13_1:=hr1.at 13 (.int .u32 c.A);have f13_1:=hr1.frozen 13;clear hr1 hu1;go_wp2_with fail;obtain⟨HS2,HM2⟩:=nxx (HS1.out.setA (z) ⟨hz0,hz1⟩) HM1;go_wp2_with fail;refine(go_o sb mb lb ty o _ _ _ 2 2 _ HS2.out rfl).mono (mvK HM2 fun w3 HS3 HM3=>?_);go_wp2_with fail
 go_end0
 exact⟨_,rfl,HS3.out,HM3.out⟩
theorem chen_r2 (w:World) (h:St w sb mb lb ty o c rv l) (hph:c.ph=2) (hj:c.base+(1+c.rd)<l.length):Calls Tryz.prog 142 #[.pointer (some ⟨sb,0,none⟩)] w (Did sb mb lb ty o w rv (c.go 3) (if c.rdm l (1+c.rd)=(c.nr:Int)+2 then c.wrm l (1+c.rd) c.A else l) (.tuple #[])):=by
 obtain⟨HS0,HM0,hfit,HF,HWD,HSL,HCP,HNR⟩:=h.start;clear hfit h;have HPH:=hid hph;clear hph;obtain⟨u0,hu0,hr0⟩:=HS0.out.op.row;have c10_0:=hr0.ph 10 2 HPH;have c9_0:=hr0.at 9 (.int .i64 (c.rd:Int));clear hr0 hu0;have hrd9:=HF.out.rd1;have hrd0:(0:Int)≤(c.rd:Int):=by omega
 have hrd1:(c.rd:Int)≤4:=by omega
 have hown:IntKind.i64.wrap (1+(c.rd:Int))=1+(c.rd:Int):=sh_wrap (by omega) (by omega);clear hrd9;have HSW:=hid fun W (h:St W sb mb lb ty o c rv l)=>swap_o sb mb lb ty o c rv l (1+(c.rd:Int)) (1+c.rd) ((c.nr:Int)+2) c.A W h (by omega) hj ⟨HF.out.A0,HF.out.A1⟩
 obtain⟨L1,hL1⟩:∃ x,(if c.rdm l (1+c.rd)=(c.nr:Int)+2 then c.wrm l (1+c.rd) c.A else l)=x:=⟨_,rfl⟩;rw[hL1] at HSW ⊢;clear hL1 hj;have HNO:=hid fun W (h:St W sb mb lb ty o c rv l)=>chenNone_o sb mb lb ty o c rv l W h
 go_enter Tryz.func142,Tryz.ntmps142;go_wp2_with fail;refine rgK (S:=(fun w':World=>w'.cell? ⟨sb,13,none⟩=some (.int .u32 c.A))) HS0 HM0 (fun HS1=>let ⟨_,_,hr0⟩:=HS1.out.op.row;(hr0.cell 13).trans rfl) fun w1 HS1 HM1 hHeld=>?_
 refine tk4 0 1 2 3 ?_;refine tk4 4 6 7 8 ?_;refine tk2 9 10 ?_;refine clH 5 (fun K hK=>?_)
 ·go_simp;refine(HNO.out _ HS1.out).mono ?_;rintro ex w2 ⟨rfl,hb⟩;have HS2:=hid (HS1.out.below hb);have HM2:=hid (HM1.out.trans (Mv.below hb _));clear hb;obtain⟨u2,hu2,hr2⟩:=HS2.out.op.row;have hSx2:(fun w':World=>w'.cell? ⟨sb,13,none⟩=some (.int .u32 c.A)) w2:=(hr2.cell 13).trans rfl;clear hr2 hu2;refine kH hK hSx2 fun hHeld=>?_
  clear hK K;refine clH 11 (fun K hK=>?_)
  ·go_simp;refine(HSW.out _ HS2.out).mono (mvK HM2 fun w3 HS3 HM3=>?_);obtain⟨u3,hu3,hr3⟩:=HS3.out.op.row;have hSx3:(fun w':World=>w'.cell? ⟨sb,13,none⟩=some (.int .u32 c.A)) w3:=(hr3.cell 13).trans rfl;clear hr3 hu3;refine kH hK hSx3 fun hHeld=>?_
   clear hK K;refine dnH ?_;clear hHeld hSx3;go_wp2_with fail;refine(go_o sb mb lb ty o _ _ _ 3 3 _ HS3.out rfl).mono (mvK HM3 fun w4 HS4 HM4=>?_);go_wp2_with fail
   go_end0
   exact⟨_,rfl,HS4.out,HM4.out⟩
theorem chen_r3 (w:World) (h:St w sb mb lb ty o c rv l) (hph:c.ph=3) (hj:c.base+(1+c.rd)<l.length):Calls Tryz.prog 142 #[.pointer (some ⟨sb,0,none⟩)] w (Did sb mb lb ty o w rv (({ c with B:=c.rdm l (1+c.rd)%((c.nr:Int)+2) }:Kc).go 4) l (.tuple #[])):=by
 obtain⟨HS0,HM0,hfit,HF,HWD,HSL,HCP,HNR⟩:=h.start;clear hfit h;have HPH:=hid hph;clear hph;obtain⟨u0,hu0,hr0⟩:=HS0.out.op.row;have c10_0:=hr0.ph 10 3 HPH;have c9_0:=hr0.at 9 (.int .i64 (c.rd:Int));clear hr0 hu0;have hrd9:=HF.out.rd1;have hrd0:(0:Int)≤(c.rd:Int):=by omega
 have hrd1:(c.rd:Int)≤4:=by omega
 have hown:IntKind.i64.wrap (1+(c.rd:Int))=1+(c.rd:Int):=sh_wrap (by omega) (by omega);clear hrd9;have hz:=rdm_bd hj HS0.out.mem.w32;have HR:=hid fun W (h:St W sb mb lb ty o c rv l)=>read_o sb mb lb ty o c rv l (1+(c.rd:Int)) (1+c.rd) W h (by omega) hj
 obtain⟨z,hz'⟩:∃ x,c.rdm l (1+c.rd)=x:=⟨_,rfl⟩;rw[hz'] at HR hz;try rw[hz']
 have Hz':=hid hz';clear hz' hj;have hz0:=hz.1;have hz1:=hz.2;clear hz;have HNO:=hid fun W (h:St W sb mb lb ty o c rv l)=>chenNone_o sb mb lb ty o c rv l W h
 have hnr:=HF.out.nr1;have hn0:(0:Int)≤(c.nr:Int):=by omega
 have hn1:(c.nr:Int)≤4:=by omega
 have hb0:=Int.emod_nonneg z (show(c.nr:Int)+2≠0 by omega);have hb1:=Int.emod_lt_of_pos z (show(0:Int)<(c.nr:Int)+2 by omega);have hZB:0≤z%((c.nr:Int)+2)∧z%((c.nr:Int)+2)<4294967296:=⟨hb0,by omega⟩;have HZB:=hid hZB;clear hZB hb0 hb1 hnr;go_enter Tryz.func142,Tryz.ntmps142;go_wp2_with fail;refine(HR.out _ HS0.out).mono (mvK HM0 fun w1 HS1 HM1=>?_);go_wp2_with fail;refine(HNO.out _ HS1.out).mono ?_;rintro ex w2 ⟨rfl,hb⟩;have HS2:=hid (HS1.out.below hb);have HM2:=hid (HM1.out.trans (Mv.below hb _));clear hb;obtain⟨u2,hu2,hr2⟩:=HS2.out.op.row;have c14_2:=hr2.at 14 (.int .u32 c.B);have f14_2:=hr2.frozen 14;clear hr2 hu2;go_wp2_with fail;obtain⟨HS3,HM3⟩:=nxx (HS2.out.setB (z%((c.nr:Int)+2)) HZB.out) HM2;go_wp2_with fail;refine(go_o sb mb lb ty o _ _ _ 4 4 _ HS3.out rfl).mono (mvK HM3 fun w4 HS4 HM4=>?_);go_wp2_with fail
 go_end0
 exact⟨_,rfl,HS4.out,HM4.out⟩
theorem chen_r4 (w:World) (h:St w sb mb lb ty o c rv l) (hph:c.ph=4) (hB:0≤c.B∧c.B≤20) (hwr:c.wr=true→c.i<c.rc.length) (hrl:c.rc.length≤1000000) (hi2:c.i<1000) (hj:c.base+(1+c.nr+c.B.toNat*c.wd+c.i)<l.length) (hf1:1+c.nr+c.B.toNat*c.wd≤1000000):Calls Tryz.prog 142 #[.pointer (some ⟨sb,0,none⟩)] w (Did sb mb lb ty o w rv (c.word l (1+c.nr+c.B.toNat*c.wd) (·.fin 0)).1 (c.word l (1+c.nr+c.B.toNat*c.wd) (·.fin 0)).2 (.tuple #[])):=by
 obtain⟨HS0,HM0,hfit,HF,HWD,HSL,HCP,HNR⟩:=h.start;clear hfit h;have HPH:=hid hph;clear hph;obtain⟨u0,hu0,hr0⟩:=HS0.out.op.row;have c10_0:=hr0.ph 10 4 HPH;have c9_0:=hr0.at 9 (.int .i64 (c.rd:Int));clear hr0 hu0;have hrd9:=HF.out.rd1;have hrd0:(0:Int)≤(c.rd:Int):=by omega
 have hrd1:(c.rd:Int)≤4:=by omega
 have hown:IntKind.i64.wrap (1+(c.rd:Int))=1+(c.rd:Int):=sh_wrap (by omega) (by omega);clear hrd9;have HFR:=hid fun W (h:St W sb mb lb ty o c rv l)=>chenFrom_o sb mb lb ty o c rv l W h hB
 clear hB;obtain⟨FR,hFR⟩:∃ x,1+c.nr+c.B.toNat*c.wd=x:=⟨_,rfl⟩;rw[hFR] at HFR hj hf1 ⊢;clear hFR;have HWO:=hid fun W (rv:Value) (h:St W sb mb lb ty o c rv l)=>word_o sb mb lb ty o c rv l (FR) W h hwr hrl hi2 hj hf1
 clear hwr hrl hi2 hj hf1;rw[Kc.word_eq]
 by_cases hlast:c.wd≤c.i+1
 ·rw[if_pos hlast];have hd:decide ((c.wd:Int)≤(c.i:Int)+1)=true:=decide_eq_true (by omega);rw[hd] at HWO;clear hlast hd;go_enter Tryz.func142,Tryz.ntmps142;go_wp2_with fail;refine rgK (S:=(fun _:World=>True)) HS0 HM0 (fun HS1=>let ⟨_,_,hr0⟩:=HS1.out.op.row;trivial) fun w1 HS1 HM1 hHeld=>?_
  refine tk4 0 1 2 3 ?_;refine clH 4 (fun K hK=>?_)
  ·go_simp;refine(HFR.out _ HS1.out).mono ?_;rintro ex w2 ⟨rfl,hb⟩;have HS2:=hid (HS1.out.below hb);have HM2:=hid (HM1.out.trans (Mv.below hb _));clear hb;have hSx2:(fun _:World=>True) w2:=trivial;refine kH hK hSx2 fun hHeld=>?_
   clear hK K;refine clH 5 (fun K hK=>?_)
   ·go_simp;refine(HWO.out _ _ HS2.out).mono (mvD HM2 fun w3 rv3 HS3 HM3=>?_);have hSx3:(fun _:World=>True) w3:=trivial;refine kH hK hSx3 fun hHeld=>?_
    clear hK K;refine dnH ?_;clear hHeld hSx3;go_wp2_with fail;refine(end_o sb mb lb ty o _ _ _ 0 _ HS3.out).mono (mvD HM3 fun w4 rv4 HS4 HM4=>?_);go_wp2_with fail
    go_end0
    exact⟨_,rfl,HS4.out,HM4.out⟩
 ·rw[if_neg hlast];have hd:decide ((c.wd:Int)≤(c.i:Int)+1)=false:=decide_eq_false (by omega);rw[hd] at HWO;clear hlast hd;go_enter Tryz.func142,Tryz.ntmps142;go_wp2_with fail;refine rgK (S:=(fun _:World=>True)) HS0 HM0 (fun HS1=>let ⟨_,_,hr0⟩:=HS1.out.op.row;trivial) fun w1 HS1 HM1 hHeld=>?_
  refine tk4 0 1 2 3 ?_;refine clH 4 (fun K hK=>?_)
  ·go_simp;refine(HFR.out _ HS1.out).mono ?_;rintro ex w2 ⟨rfl,hb⟩;have HS2:=hid (HS1.out.below hb);have HM2:=hid (HM1.out.trans (Mv.below hb _));clear hb;have hSx2:(fun _:World=>True) w2:=trivial;refine kH hK hSx2 fun hHeld=>?_
   clear hK K;refine clH 5 (fun K hK=>?_)
   ·go_simp;refine(HWO.out _ _ HS2.out).mono (mvD HM2 fun w3 rv3 HS3 HM3=>?_);have hSx3:(fun _:World=>True) w3:=trivial;refine kH hK hSx3 fun hHeld=>?_
    clear hK K;refine dnH ?_;clear hHeld hSx3;go_wp2_with fail
    go_end0
    exact⟨_,rfl,HS3.out,HM3.out⟩
end
end Go.Proofs.YtolmpehgeinlkaaGreatDoor
