/- The kind cab: each step of a write, and of a read. -/
import Derived.Test.YtolmpehgeinlkaaGreatDoorZcOgJ
namespace Go.Proofs.YtolmpehgeinlkaaGreatDoor
open Go.RowKit
open Go.Lib (hid)
attribute [local go_sem] Oper.semAt_some
set_option maxHeartbeats 1000000
set_option maxRecDepth 100000
abbrev QOgK0 (a0:Nat) (a1:Ob) (w':World):Prop:=w'.cell? ⟨a0,0,none⟩=some (.int .i64 a1.k)∧w'.cell? ⟨a0,1,none⟩=some (.int .i64 a1.wd)∧w'.cell? ⟨a0,2,none⟩=some (.int .i64 a1.s)∧w'.cell? ⟨a0,3,none⟩=some (.int .i64 a1.c)∧w'.cell? ⟨a0,4,none⟩=some (.int .u32 a1.st)∧w'.cell? ⟨a0,5,none⟩=some (.slice a1.I a1.ni a1.ci)∧w'.cell? ⟨a0,6,none⟩=some (.int .i64 a1.wr)∧w'.cell? ⟨a0,7,none⟩=some (.slice a1.R a1.nr a1.cr)
section
variable (sb mb lb:Nat) (ty:TypeId) (o:Ob) (c:Kc) (rv:Value) (l:List Int)
theorem cabNewest_o (w:World) (h:St w sb mb lb ty o c rv l) (hs:1≤c.sl) (hj:c.base+0<l.length):Calls Tryz.prog 174 #[.pointer (some ⟨sb,0,none⟩)] w (DidK sb mb lb ty o w rv c l (.int .u32 (c.rdm l 0%(c.sl:Int)))):=by
 obtain⟨HS0,HM0,hfit,HF,HWD,HSL,HCP,HNR⟩:=h.start;clear hfit h;have hz:=rdm_bd hj HS0.out.mem.w32;have HR:=hid fun W (h:St W sb mb lb ty o c rv l)=>read_o sb mb lb ty o c rv l 0 0 W h (by omega) hj
 obtain⟨z,hz'⟩:∃ x,c.rdm l 0=x:=⟨_,rfl⟩;rw[hz'] at HR hz;try rw[hz']
 have Hz':=hid hz';clear hz' hj;have hz0:=hz.1;have hz1:=hz.2;clear hz;have hs1:=HF.out.sl1;have hM0:(1:Int)≤(c.sl:Int):=by omega
 have hM1:(c.sl:Int)≤16:=by omega
 have m0:((c.sl:Int)==0)=false:=by simp;omega
 have m1:¬ (c.sl:Int)=0:=by omega
 have m2:¬ c.sl=0:=by omega
 have e1:IntKind.u32.wrap (c.sl:Int)=(c.sl:Int):=sh_wrap32 (by omega) (by omega);have t1:z.tmod (c.sl:Int)=z%(c.sl:Int):=Int.tmod_eq_emod_of_nonneg hz0;have hq0:=Int.emod_nonneg z m1;have hq1:=Int.emod_lt_of_pos z (show(0:Int)<(c.sl:Int) by omega);have t2:IntKind.u32.wrap (z%(c.sl:Int))=z%(c.sl:Int):=sh_wrap32 hq0 (by omega);clear hs1 hs hq0 hq1;go_enter Tryz.func174,Tryz.ntmps174;go_wp2_with fail;refine rgK (S:=(fun w':World=>w'.cell? ⟨sb,2,none⟩=some (.int .i64 (c.sl:Int)))) HS0 HM0 (fun HS1=>let ⟨_,_,hr0⟩:=HS1.out.op.row;(hr0.cell 2).trans (by rw[← HSL.out];rfl)) fun w1 HS1 HM1 hHeld=>?_
 refine tk4 0 1 2 4 ?_;refine tk4 5 6 7 8 ?_;refine tk2 9 10 ?_;refine clH 3 (fun K hK=>?_)
 ·go_simp;refine(HR.out _ HS1.out).mono (mvK HM1 fun w2 HS2 HM2=>?_);obtain⟨u2,hu2,hr2⟩:=HS2.out.op.row;have hSx2:(fun w':World=>w'.cell? ⟨sb,2,none⟩=some (.int .i64 (c.sl:Int))) w2:=(hr2.cell 2).trans (by rw[← HSL.out];rfl);clear hr2 hu2;refine kH hK hSx2 fun hHeld=>?_
  clear hK K;refine tk2 11 12 ?_;refine dnH ?_;clear hHeld hSx2;go_wp2_with fail;go_ret;exact⟨rfl,HS2.out,HM2.out⟩
theorem cabFrom_o (a:Int) (w:World) (h:St w sb mb lb ty o c rv l) (hB:0≤a∧a≤20):Calls Tryz.prog 176 #[.pointer (some ⟨sb,0,none⟩),.int .u32 a] w fun e w'=>e=.returned (.int .i64 ((1+c.nr+a.toNat*c.wd:Nat):Int))∧Below w.heap.size w w':=by
 obtain⟨HS0,HM0,hfit,HF,HWD,HSL,HCP,HNR⟩:=h.start;clear hfit h;have HB0:=hid (Below.refl w.heap.size w);have hnr:=HF.out.nr1;have hwd:=HF.out.wd1;have hsl:=hid fun W=>cabData_o o (by have:=HNR.out;omega) W
 have hv:=HNR.out
 have hq:((1+c.nr+a.toNat*c.wd:Nat):Int)=1+(o.nr:Int)+a*o.wd:=by
  rw[Int.natCast_add,Int.natCast_mul,Int.toNat_of_nonneg (by omega),HWD.out,hv];rfl
 rw[hq];have hw0:0≤o.wd:=by have:=HWD.out;omega
 have hw8:o.wd≤8:=by have:=HWD.out;omega
 have m1:=mul_bd4 (a:=a) (b:=o.wd) (by omega) (by omega) (by omega) (by omega);have e3:IntKind.i64.wrap (a*o.wd)=a*o.wd:=sh_wrap (by omega) (by omega);have e5:IntKind.i64.wrap a=a:=sh_wrap (by omega) (by omega);have e4:IntKind.i64.wrap (1+(o.nr:Int)+a*o.wd)=1+(o.nr:Int)+a*o.wd:=sh_wrap (by omega) (by omega);clear hv hnr hwd hq hB;unfold obA at hsl;go_enter Tryz.func176,Tryz.ntmps176;go_wp2_with fail;obtain⟨u0,hu0,hr0⟩:=HS0.out.drew.op.row;have hSd:(QOgK0 sb o) w.drew:=(by and_intros <;> exact hr0.c rfl);have HS1:=hid HS0.out.drew;have HM1:=hid (HM0.out.trans (Mv.drew w _));clear hr0 hu0;have HB1:=hid HB0.out.drew;refine rgn hSd fun w1 hw9 hHeld=>?_
 rw[hw9] at HS1 HM1 HB1;clear hw9 hSd;refine tk4 0 1 2 3 ?_;refine tk4 4 6 7 8 ?_;refine tk4 9 10 11 12 ?_;refine tk2 13 14 ?_;refine clH 5 (fun K hK=>?_)
 ·go_simp;refine(hsl.out _).mono ?_;rintro ex w2 ⟨rfl,hb⟩;have HS2:=hid (HS1.out.below hb);have HM2:=hid (HM1.out.trans (Mv.below hb _));have HB2:=hid (HB1.out.trans (hb.mono HB1.out.size));clear hb;obtain⟨u2,hu2,hr2⟩:=HS2.out.op.row;have hSx2:(QOgK0 sb o) w2:=(by and_intros <;> exact hr2.c rfl);clear hr2 hu2;refine kH hK hSx2 fun hHeld=>?_
  clear hK K;refine tk2 15 16 ?_;refine dnH ?_;clear hHeld hSx2;go_wp2_with fail;go_ret;exact⟨rfl,HB2.out⟩
theorem cabScan_poslast (w:World) (h:St w sb mb lb ty o c rv l) (hi:c.i<100) (hT:Tab64 w) (hn:¬ fp sb mb lb rv 0) (hlast:c.nr≤c.i+1) (hpos:0<c.rdm l (1+c.i)) (hj:c.base+(1+c.i)<l.length):Calls Tryz.prog 175 #[.pointer (some ⟨sb,0,none⟩)] w (Did sb mb lb ty o w rv (({ ({ (c.mark (c.rdm l (1+c.i) - 1)) with i:=c.i+1 }:Kc).mark c.A with B:=(({ (c.mark (c.rdm l (1+c.i) - 1)) with i:=c.i+1 }:Kc).mark c.A).free }:Kc).go 2) l (.tuple #[])):=by
 obtain⟨HS0,HM0,hfit,HF,HWD,HSL,HCP,HNR⟩:=h.start;clear hfit h;have hz:=rdm_bd hj HS0.out.mem.w32;have HR:=hid fun W (h:St W sb mb lb ty o c rv l)=>read_o sb mb lb ty o c rv l (1+(c.i:Int)) (1+c.i) W h (by omega) hj
 obtain⟨z,hz'⟩:∃ x,c.rdm l (1+c.i)=x:=⟨_,rfl⟩;rw[hz'] at HR hz;try rw[hz']
 have Hz':=hid hz';clear hz' hj;have hz0:=hz.1;have hz1:=hz.2;clear hz;rw[Hz'.out] at hpos;have hN:=HNR.out;have hi0:(0:Int)≤(c.i:Int):=by omega
 have hi1:(c.i:Int)≤100:=by omega
 have hs:IntKind.i64.wrap (1+(c.i:Int))=1+(c.i:Int):=sh_wrap (by omega) (by omega);have hd:decide ((o.nr:Int)≤(c.i:Int)+1)=true:=decide_eq_true (by omega);have hp1:decide (0<z)=true:=decide_eq_true (by omega);have HMK:=hid fun W (h:St W sb mb lb ty o c rv l)=>mark_o sb mb lb ty o c rv l (z - 1) W h ⟨by omega,by omega⟩
 have hw1:IntKind.u32.wrap (z - 1)=z - 1:=sh_wrap32 (by omega) (by omega);have hw2:1≤z:=by omega
 have hea:=fun W (h:St W sb mb lb ty o (c.mark (z - 1)) rv l)=>each_o sb mb lb ty o (c.mark (z - 1)) rv l (o.nr:Int) W h (show c.i<1000 by omega)
 have hdm:decide ((o.nr:Int)≤(((c.mark (z - 1)).i:Nat):Int)+1)=true:=hd;rw[hdm] at hea;have HEA:=hid hea;clear hd hea hN hlast hdm hi;have HMA:=hid fun W (h:St W sb mb lb ty o { (c.mark (z - 1)) with i:=(c.mark (z - 1)).i+1 } rv l)=>mark_o sb mb lb ty o { (c.mark (z - 1)) with i:=(c.mark (z - 1)).i+1 } rv l c.A W h ⟨HF.out.A0,HF.out.A1⟩
 have HFE:=hid fun W (h:St W sb mb lb ty o (({ (c.mark (z - 1)) with i:=(c.mark (z - 1)).i+1 }:Kc).mark c.A) rv l) (hT:Tab64 W)=>free_o sb mb lb ty o (({ (c.mark (z - 1)) with i:=(c.mark (z - 1)).i+1 }:Kc).mark c.A) rv l W h hT
 have HTT:=hid (And.intro hT hn);have hb:=free_bd (({ (c.mark (z - 1)) with i:=(c.mark (z - 1)).i+1 }:Kc).mark c.A);obtain⟨Z,hZ⟩:∃ x,(({ (c.mark (z - 1)) with i:=(c.mark (z - 1)).i+1 }:Kc).mark c.A).free=x:=⟨_,rfl⟩;have hZ':(({ (c.mark (z - 1)) with i:=c.i+1 }:Kc).mark c.A).free=Z:=hZ;rw[hZ'] at ⊢;rw[hZ] at HFE hb;clear hZ hZ';clear hT hn;go_enter Tryz.func175,Tryz.ntmps175;go_wp2_with fail;refine rgK (S:=(fun w':World=>w'.cell? ⟨sb,11,none⟩=some (.int .i64 (c.i:Int)))) HS0 HM0 (fun HS1=>let ⟨_,_,hr0⟩:=HS1.out.op.row;(hr0.cell 11).trans rfl) fun w1 HS1 HM1 hHeld=>?_
 refine tk4 0 1 2 3 ?_;refine tk4 4 5 6 7 ?_;refine tkH 8 ?_;refine clH 9 (fun K hK=>?_)
 ·go_simp;refine(HR.out _ HS1.out).mono (mvK HM1 fun w2 HS2 HM2=>?_);obtain⟨u2,hu2,hr2⟩:=HS2.out.op.row;have hSx2:(fun w':World=>w'.cell? ⟨sb,11,none⟩=some (.int .i64 (c.i:Int))) w2:=(hr2.cell 11).trans rfl;clear hr2 hu2;refine kH hK hSx2 fun hHeld=>?_
  clear hK K;refine tkH 10 ?_;refine dnH ?_;clear hHeld hSx2;go_wp2_with fail;refine(HMK.out _ HS2.out).mono (mvK HM2 fun w3 HS3 HM3=>?_);go_wp2_with fail;refine rgK (S:=(fun w':World=>w'.cell? ⟨sb,7,none⟩=some (.slice o.R o.nr o.cr))) HS3 HM3 (fun HS4=>let ⟨_,_,hr3⟩:=HS4.out.op.row;(hr3.cell 7).trans rfl) fun w4 HS4 HM4 hHeld=>?_
  refine tk4 0 1 2 3 ?_;refine tk4 4 5 6 7 ?_;refine tk2 8 9 ?_;refine clH 10 (fun K hK=>?_)
  ·go_simp;refine(HEA.out _ HS4.out).mono (mvK HM4 fun w5 HS5 HM5=>?_);obtain⟨u5,hu5,hr5⟩:=HS5.out.op.row;have hSx5:(fun w':World=>w'.cell? ⟨sb,7,none⟩=some (.slice o.R o.nr o.cr)) w5:=(hr5.cell 7).trans rfl;clear hr5 hu5;refine kH hK hSx5 fun hHeld=>?_
   clear hK K;refine tkH 11 ?_;refine dnH ?_;clear hHeld hSx5;go_wp2_with fail;refine rgK (S:=(fun w':World=>w'.cell? ⟨sb,13,none⟩=some (.int .u32 c.A))) HS5 HM5 (fun HS6=>let ⟨_,_,hr5⟩:=HS6.out.op.row;(hr5.cell 13).trans rfl) fun w6 HS6 HM6 hHeld=>?_
   refine tk4 0 1 2 3 ?_;refine tk4 4 5 6 7 ?_;refine clH 8 (fun K hK=>?_)
   ·go_simp;refine(HMA.out _ HS6.out).mono (mvK HM6 fun w7 HS7 HM7=>?_);obtain⟨u7,hu7,hr7⟩:=HS7.out.op.row;have hSx7:(fun w':World=>w'.cell? ⟨sb,13,none⟩=some (.int .u32 c.A)) w7:=(hr7.cell 13).trans rfl;clear hr7 hu7;refine kH hK hSx7 fun hHeld=>?_
    clear hK K;refine dnH ?_;clear hHeld hSx7;go_wp2_with fail;have htab:=HTT.out.1.mv HM7.out HTT.out.2;have HTB:=hid htab;clear htab;refine(HFE.out _ HS7.out HTB.out).mono ?_;rintro ex w8 ⟨rfl,rfl⟩;have HS8:=HS7;have HM8:=HM7;obtain⟨u8,hu8,hr8⟩:=HS8.out.op.row;have c14_8:=hr8.at 14 (.int .u32 c.B);have f14_8:=hr8.frozen 14;clear hr8 hu8;go_wp2_with fail;obtain⟨HS9,HM9⟩:=nxx (HS8.out.setB (Z) (by omega)) HM8;refine(go_o sb mb lb ty o _ _ _ 2 2 _ HS9.out rfl).mono (mvK HM9 fun w10 HS10 HM10=>?_);go_wp2_with fail
    go_end0
    exact⟨_,rfl,HS10.out,HM10.out⟩
theorem cabScan_posnext (w:World) (h:St w sb mb lb ty o c rv l) (hi:c.i<100) (_hT:Tab64 w) (_hn:¬ fp sb mb lb rv 0) (hlast:¬ (c.nr≤c.i+1)) (hpos:0<c.rdm l (1+c.i)) (hj:c.base+(1+c.i)<l.length):Calls Tryz.prog 175 #[.pointer (some ⟨sb,0,none⟩)] w (Did sb mb lb ty o w rv { (c.mark (c.rdm l (1+c.i) - 1)) with i:=c.i+1 } l (.tuple #[])):=by
 obtain⟨HS0,HM0,hfit,HF,HWD,HSL,HCP,HNR⟩:=h.start;clear hfit h;have hz:=rdm_bd hj HS0.out.mem.w32;have HR:=hid fun W (h:St W sb mb lb ty o c rv l)=>read_o sb mb lb ty o c rv l (1+(c.i:Int)) (1+c.i) W h (by omega) hj
 obtain⟨z,hz'⟩:∃ x,c.rdm l (1+c.i)=x:=⟨_,rfl⟩;rw[hz'] at HR hz;try rw[hz']
 have Hz':=hid hz';clear hz' hj;have hz0:=hz.1;have hz1:=hz.2;clear hz;rw[Hz'.out] at hpos;have hN:=HNR.out;have hi0:(0:Int)≤(c.i:Int):=by omega
 have hi1:(c.i:Int)≤100:=by omega
 have hs:IntKind.i64.wrap (1+(c.i:Int))=1+(c.i:Int):=sh_wrap (by omega) (by omega);have hd:decide ((o.nr:Int)≤(c.i:Int)+1)=false:=decide_eq_false (by omega);have hp1:decide (0<z)=true:=decide_eq_true (by omega);have HMK:=hid fun W (h:St W sb mb lb ty o c rv l)=>mark_o sb mb lb ty o c rv l (z - 1) W h ⟨by omega,by omega⟩
 have hw1:IntKind.u32.wrap (z - 1)=z - 1:=sh_wrap32 (by omega) (by omega);have hw2:1≤z:=by omega
 have hea:=fun W (h:St W sb mb lb ty o (c.mark (z - 1)) rv l)=>each_o sb mb lb ty o (c.mark (z - 1)) rv l (o.nr:Int) W h (show c.i<1000 by omega)
 have hdm:decide ((o.nr:Int)≤(((c.mark (z - 1)).i:Nat):Int)+1)=false:=hd;rw[hdm] at hea;have HEA:=hid hea;clear hd hea hN hlast hdm hi;clear _hT _hn;go_enter Tryz.func175,Tryz.ntmps175;go_wp2_with fail;refine rgK (S:=(fun w':World=>w'.cell? ⟨sb,11,none⟩=some (.int .i64 (c.i:Int)))) HS0 HM0 (fun HS1=>let ⟨_,_,hr0⟩:=HS1.out.op.row;(hr0.cell 11).trans rfl) fun w1 HS1 HM1 hHeld=>?_
 refine tk4 0 1 2 3 ?_;refine tk4 4 5 6 7 ?_;refine tkH 8 ?_;refine clH 9 (fun K hK=>?_)
 ·go_simp;refine(HR.out _ HS1.out).mono (mvK HM1 fun w2 HS2 HM2=>?_);obtain⟨u2,hu2,hr2⟩:=HS2.out.op.row;have hSx2:(fun w':World=>w'.cell? ⟨sb,11,none⟩=some (.int .i64 (c.i:Int))) w2:=(hr2.cell 11).trans rfl;clear hr2 hu2;refine kH hK hSx2 fun hHeld=>?_
  clear hK K;refine tkH 10 ?_;refine dnH ?_;clear hHeld hSx2;go_wp2_with fail;refine(HMK.out _ HS2.out).mono (mvK HM2 fun w3 HS3 HM3=>?_);go_wp2_with fail;refine rgK (S:=(fun w':World=>w'.cell? ⟨sb,7,none⟩=some (.slice o.R o.nr o.cr))) HS3 HM3 (fun HS4=>let ⟨_,_,hr3⟩:=HS4.out.op.row;(hr3.cell 7).trans rfl) fun w4 HS4 HM4 hHeld=>?_
  refine tk4 0 1 2 3 ?_;refine tk4 4 5 6 7 ?_;refine tk2 8 9 ?_;refine clH 10 (fun K hK=>?_)
  ·go_simp;refine(HEA.out _ HS4.out).mono (mvK HM4 fun w5 HS5 HM5=>?_);obtain⟨u5,hu5,hr5⟩:=HS5.out.op.row;have hSx5:(fun w':World=>w'.cell? ⟨sb,7,none⟩=some (.slice o.R o.nr o.cr)) w5:=(hr5.cell 7).trans rfl;clear hr5 hu5;refine kH hK hSx5 fun hHeld=>?_
   clear hK K;refine tkH 11 ?_;refine dnH ?_;clear hHeld hSx5;go_wp2_with fail
   go_end0
   exact⟨_,rfl,HS5.out,HM5.out⟩
theorem cabScan_nillast (w:World) (h:St w sb mb lb ty o c rv l) (hi:c.i<100) (hT:Tab64 w) (hn:¬ fp sb mb lb rv 0) (hlast:c.nr≤c.i+1) (hpos:¬ (0<c.rdm l (1+c.i))) (hj:c.base+(1+c.i)<l.length):Calls Tryz.prog 175 #[.pointer (some ⟨sb,0,none⟩)] w (Did sb mb lb ty o w rv (({ ({ c with i:=c.i+1 }:Kc).mark c.A with B:=(({ c with i:=c.i+1 }:Kc).mark c.A).free }:Kc).go 2) l (.tuple #[])):=by
 obtain⟨HS0,HM0,hfit,HF,HWD,HSL,HCP,HNR⟩:=h.start;clear hfit h;have hz:=rdm_bd hj HS0.out.mem.w32;have HR:=hid fun W (h:St W sb mb lb ty o c rv l)=>read_o sb mb lb ty o c rv l (1+(c.i:Int)) (1+c.i) W h (by omega) hj
 obtain⟨z,hz'⟩:∃ x,c.rdm l (1+c.i)=x:=⟨_,rfl⟩;rw[hz'] at HR hz;try rw[hz']
 have Hz':=hid hz';clear hz' hj;have hz0:=hz.1;have hz1:=hz.2;clear hz;rw[Hz'.out] at hpos;have hN:=HNR.out;have hi0:(0:Int)≤(c.i:Int):=by omega
 have hi1:(c.i:Int)≤100:=by omega
 have hs:IntKind.i64.wrap (1+(c.i:Int))=1+(c.i:Int):=sh_wrap (by omega) (by omega);have hd:decide ((o.nr:Int)≤(c.i:Int)+1)=true:=decide_eq_true (by omega);have hp1:decide (0<z)=false:=decide_eq_false (by omega);have hea:=fun W (h:St W sb mb lb ty o c rv l)=>each_o sb mb lb ty o c rv l (o.nr:Int) W h (show c.i<1000 by omega)
 have hdm:decide ((o.nr:Int)≤((c.i:Nat):Int)+1)=true:=hd;rw[hdm] at hea;have HEA:=hid hea;clear hd hea hN hlast hdm hi;have HMA:=hid fun W (h:St W sb mb lb ty o { c with i:=c.i+1 } rv l)=>mark_o sb mb lb ty o { c with i:=c.i+1 } rv l c.A W h ⟨HF.out.A0,HF.out.A1⟩
 have HFE:=hid fun W (h:St W sb mb lb ty o (({ c with i:=c.i+1 }:Kc).mark c.A) rv l) (hT:Tab64 W)=>free_o sb mb lb ty o (({ c with i:=c.i+1 }:Kc).mark c.A) rv l W h hT
 have HTT:=hid (And.intro hT hn);have hb:=free_bd (({ c with i:=c.i+1 }:Kc).mark c.A);obtain⟨Z,hZ⟩:∃ x,(({ c with i:=c.i+1 }:Kc).mark c.A).free=x:=⟨_,rfl⟩;have hZ':(({ c with i:=c.i+1 }:Kc).mark c.A).free=Z:=hZ;rw[hZ'] at ⊢;rw[hZ] at HFE hb;clear hZ hZ';clear hT hn;go_enter Tryz.func175,Tryz.ntmps175;go_wp2_with fail;refine rgK (S:=(fun w':World=>w'.cell? ⟨sb,11,none⟩=some (.int .i64 (c.i:Int)))) HS0 HM0 (fun HS1=>let ⟨_,_,hr0⟩:=HS1.out.op.row;(hr0.cell 11).trans rfl) fun w1 HS1 HM1 hHeld=>?_
 refine tk4 0 1 2 3 ?_;refine tk4 4 5 6 7 ?_;refine tkH 8 ?_;refine clH 9 (fun K hK=>?_)
 ·go_simp;refine(HR.out _ HS1.out).mono (mvK HM1 fun w2 HS2 HM2=>?_);obtain⟨u2,hu2,hr2⟩:=HS2.out.op.row;have hSx2:(fun w':World=>w'.cell? ⟨sb,11,none⟩=some (.int .i64 (c.i:Int))) w2:=(hr2.cell 11).trans rfl;clear hr2 hu2;refine kH hK hSx2 fun hHeld=>?_
  clear hK K;refine tkH 10 ?_;refine dnH ?_;clear hHeld hSx2;go_wp2_with fail;refine rgK (S:=(fun w':World=>w'.cell? ⟨sb,7,none⟩=some (.slice o.R o.nr o.cr))) HS2 HM2 (fun HS3=>let ⟨_,_,hr2⟩:=HS3.out.op.row;(hr2.cell 7).trans rfl) fun w3 HS3 HM3 hHeld=>?_
  refine tk4 0 1 2 3 ?_;refine tk4 4 5 6 7 ?_;refine tk2 8 9 ?_;refine clH 10 (fun K hK=>?_)
  ·go_simp;refine(HEA.out _ HS3.out).mono (mvK HM3 fun w4 HS4 HM4=>?_);obtain⟨u4,hu4,hr4⟩:=HS4.out.op.row;have hSx4:(fun w':World=>w'.cell? ⟨sb,7,none⟩=some (.slice o.R o.nr o.cr)) w4:=(hr4.cell 7).trans rfl;clear hr4 hu4;refine kH hK hSx4 fun hHeld=>?_
   clear hK K;refine tkH 11 ?_;refine dnH ?_;clear hHeld hSx4;go_wp2_with fail;refine rgK (S:=(fun w':World=>w'.cell? ⟨sb,13,none⟩=some (.int .u32 c.A))) HS4 HM4 (fun HS5=>let ⟨_,_,hr4⟩:=HS5.out.op.row;(hr4.cell 13).trans rfl) fun w5 HS5 HM5 hHeld=>?_
   refine tk4 0 1 2 3 ?_;refine tk4 4 5 6 7 ?_;refine clH 8 (fun K hK=>?_)
   ·go_simp;refine(HMA.out _ HS5.out).mono (mvK HM5 fun w6 HS6 HM6=>?_);obtain⟨u6,hu6,hr6⟩:=HS6.out.op.row;have hSx6:(fun w':World=>w'.cell? ⟨sb,13,none⟩=some (.int .u32 c.A)) w6:=(hr6.cell 13).trans rfl;clear hr6 hu6;refine kH hK hSx6 fun hHeld=>?_
    clear hK K;refine dnH ?_;clear hHeld hSx6;go_wp2_with fail;have htab:=HTT.out.1.mv HM6.out HTT.out.2;have HTB:=hid htab;clear htab;refine(HFE.out _ HS6.out HTB.out).mono ?_;rintro ex w7 ⟨rfl,rfl⟩;have HS7:=HS6;have HM7:=HM6;obtain⟨u7,hu7,hr7⟩:=HS7.out.op.row;have c14_7:=hr7.at 14 (.int .u32 c.B);have f14_7:=hr7.frozen 14;clear hr7 hu7;go_wp2_with fail;obtain⟨HS8,HM8⟩:=nxx (HS7.out.setB (Z) (by omega)) HM7;refine(go_o sb mb lb ty o _ _ _ 2 2 _ HS8.out rfl).mono (mvK HM8 fun w9 HS9 HM9=>?_);go_wp2_with fail
    go_end0
    exact⟨_,rfl,HS9.out,HM9.out⟩
theorem cabScan_nilnext (w:World) (h:St w sb mb lb ty o c rv l) (hi:c.i<100) (_hT:Tab64 w) (_hn:¬ fp sb mb lb rv 0) (hlast:¬ (c.nr≤c.i+1)) (hpos:¬ (0<c.rdm l (1+c.i))) (hj:c.base+(1+c.i)<l.length):Calls Tryz.prog 175 #[.pointer (some ⟨sb,0,none⟩)] w (Did sb mb lb ty o w rv { c with i:=c.i+1 } l (.tuple #[])):=by
 obtain⟨HS0,HM0,hfit,HF,HWD,HSL,HCP,HNR⟩:=h.start;clear hfit h;have hz:=rdm_bd hj HS0.out.mem.w32;have HR:=hid fun W (h:St W sb mb lb ty o c rv l)=>read_o sb mb lb ty o c rv l (1+(c.i:Int)) (1+c.i) W h (by omega) hj
 obtain⟨z,hz'⟩:∃ x,c.rdm l (1+c.i)=x:=⟨_,rfl⟩;rw[hz'] at HR hz;try rw[hz']
 have Hz':=hid hz';clear hz' hj;have hz0:=hz.1;have hz1:=hz.2;clear hz;rw[Hz'.out] at hpos;have hN:=HNR.out;have hi0:(0:Int)≤(c.i:Int):=by omega
 have hi1:(c.i:Int)≤100:=by omega
 have hs:IntKind.i64.wrap (1+(c.i:Int))=1+(c.i:Int):=sh_wrap (by omega) (by omega);have hd:decide ((o.nr:Int)≤(c.i:Int)+1)=false:=decide_eq_false (by omega);have hp1:decide (0<z)=false:=decide_eq_false (by omega);have hea:=fun W (h:St W sb mb lb ty o c rv l)=>each_o sb mb lb ty o c rv l (o.nr:Int) W h (show c.i<1000 by omega)
 have hdm:decide ((o.nr:Int)≤((c.i:Nat):Int)+1)=false:=hd;rw[hdm] at hea;have HEA:=hid hea;clear hd hea hN hlast hdm hi;clear _hT _hn;go_enter Tryz.func175,Tryz.ntmps175;go_wp2_with fail;refine rgK (S:=(fun w':World=>w'.cell? ⟨sb,11,none⟩=some (.int .i64 (c.i:Int)))) HS0 HM0 (fun HS1=>let ⟨_,_,hr0⟩:=HS1.out.op.row;(hr0.cell 11).trans rfl) fun w1 HS1 HM1 hHeld=>?_
 refine tk4 0 1 2 3 ?_;refine tk4 4 5 6 7 ?_;refine tkH 8 ?_;refine clH 9 (fun K hK=>?_)
 ·go_simp;refine(HR.out _ HS1.out).mono (mvK HM1 fun w2 HS2 HM2=>?_);obtain⟨u2,hu2,hr2⟩:=HS2.out.op.row;have hSx2:(fun w':World=>w'.cell? ⟨sb,11,none⟩=some (.int .i64 (c.i:Int))) w2:=(hr2.cell 11).trans rfl;clear hr2 hu2;refine kH hK hSx2 fun hHeld=>?_
  clear hK K;refine tkH 10 ?_;refine dnH ?_;clear hHeld hSx2;go_wp2_with fail;refine rgK (S:=(fun w':World=>w'.cell? ⟨sb,7,none⟩=some (.slice o.R o.nr o.cr))) HS2 HM2 (fun HS3=>let ⟨_,_,hr2⟩:=HS3.out.op.row;(hr2.cell 7).trans rfl) fun w3 HS3 HM3 hHeld=>?_
  refine tk4 0 1 2 3 ?_;refine tk4 4 5 6 7 ?_;refine tk2 8 9 ?_;refine clH 10 (fun K hK=>?_)
  ·go_simp;refine(HEA.out _ HS3.out).mono (mvK HM3 fun w4 HS4 HM4=>?_);obtain⟨u4,hu4,hr4⟩:=HS4.out.op.row;have hSx4:(fun w':World=>w'.cell? ⟨sb,7,none⟩=some (.slice o.R o.nr o.cr)) w4:=(hr4.cell 7).trans rfl;clear hr4 hu4;refine kH hK hSx4 fun hHeld=>?_
   clear hK K;refine tkH 11 ?_;refine dnH ?_;clear hHeld hSx4;go_wp2_with fail
   go_end0
   exact⟨_,rfl,HS4.out,HM4.out⟩
theorem cab_w0 (w:World) (h:St w sb mb lb ty o c rv l) (hph:c.ph=0) (hs:1≤c.sl) (hj:c.base+0<l.length):Calls Tryz.prog 147 #[.pointer (some ⟨sb,0,none⟩)] w (Did sb mb lb ty o w rv (({ c with A:=c.rdm l 0%(c.sl:Int) }:Kc).go 1) l (.tuple #[])):=by
 obtain⟨HS0,HM0,hfit,HF,HWD,HSL,HCP,HNR⟩:=h.start;clear hfit h;have HPH:=hid hph;clear hph;obtain⟨u0,hu0,hr0⟩:=HS0.out.op.row;have c10_0:=hr0.ph 10 0 HPH;clear hr0 hu0;have HNW:=hid fun W (h:St W sb mb lb ty o c rv l)=>cabNewest_o sb mb lb ty o c rv l W h hs hj
 have hs1:=HF.out.sl1;obtain⟨z,hz'⟩:∃ x,c.rdm l 0%(c.sl:Int)=x:=⟨_,rfl⟩;have hz0:0≤z:=by rw[← hz'];exact Int.emod_nonneg _ (by omega)
 have hz1:z<16:=by have:=Int.emod_lt_of_pos (c.rdm l 0) (show(0:Int)<(c.sl:Int) by omega);omega
 rw[hz'] at HNW;try rw[hz']
 have hz8:=hid hz';clear hz' hj hs hs1;go_enter Tryz.func147,Tryz.ntmps147;go_wp2_with fail;refine(HNW.out _ HS0.out).mono (mvK HM0 fun w1 HS1 HM1=>?_);obtain⟨u1,hu1,hr1⟩:=HS1.out.op.row;have c13_1:=hr1.at 13 (.int .u32 c.A);have f13_1:=hr1.frozen 13;clear hr1 hu1;go_wp2_with fail;obtain⟨HS2,HM2⟩:=nxx (HS1.out.setA (z) ⟨hz0,by omega⟩) HM1;go_wp2_with fail;refine(go_o sb mb lb ty o _ _ _ 1 1 _ HS2.out rfl).mono (mvK HM2 fun w3 HS3 HM3=>?_);go_wp2_with fail
 go_end0
 exact⟨_,rfl,HS3.out,HM3.out⟩
theorem cab_w1_poslast (w:World) (h:St w sb mb lb ty o c rv l) (hph:c.ph=1) (hi:c.i<100) (hT:Tab64 w) (hn:¬ fp sb mb lb rv 0) (hlast:c.nr≤c.i+1) (hpos:0<c.rdm l (1+c.i)) (hj:c.base+(1+c.i)<l.length):Calls Tryz.prog 147 #[.pointer (some ⟨sb,0,none⟩)] w (Did sb mb lb ty o w rv (({ ({ (c.mark (c.rdm l (1+c.i) - 1)) with i:=c.i+1 }:Kc).mark c.A with B:=(({ (c.mark (c.rdm l (1+c.i) - 1)) with i:=c.i+1 }:Kc).mark c.A).free }:Kc).go 2) l (.tuple #[])):=by
 obtain⟨HS0,HM0,hfit,HF,HWD,HSL,HCP,HNR⟩:=h.start;clear hfit h;have HPH:=hid hph;clear hph;obtain⟨u0,hu0,hr0⟩:=HS0.out.op.row;have c10_0:=hr0.ph 10 1 HPH;clear hr0 hu0;have HSC:=hid (cabScan_poslast sb mb lb ty o c rv l w HS0.out hi hT hn hlast hpos hj);clear hi hT hn hlast hpos hj;go_enter Tryz.func147,Tryz.ntmps147;go_wp2_with fail;refine(HSC.out).mono (mvD HM0 fun w1 rv1 HS1 HM1=>?_);go_wp2_with fail
 go_end0
 exact⟨_,rfl,HS1.out,HM1.out⟩
theorem cab_w1_posnext (w:World) (h:St w sb mb lb ty o c rv l) (hph:c.ph=1) (hi:c.i<100) (hT:Tab64 w) (hn:¬ fp sb mb lb rv 0) (hlast:¬ (c.nr≤c.i+1)) (hpos:0<c.rdm l (1+c.i)) (hj:c.base+(1+c.i)<l.length):Calls Tryz.prog 147 #[.pointer (some ⟨sb,0,none⟩)] w (Did sb mb lb ty o w rv { (c.mark (c.rdm l (1+c.i) - 1)) with i:=c.i+1 } l (.tuple #[])):=by
 obtain⟨HS0,HM0,hfit,HF,HWD,HSL,HCP,HNR⟩:=h.start;clear hfit h;have HPH:=hid hph;clear hph;obtain⟨u0,hu0,hr0⟩:=HS0.out.op.row;have c10_0:=hr0.ph 10 1 HPH;clear hr0 hu0;have HSC:=hid (cabScan_posnext sb mb lb ty o c rv l w HS0.out hi hT hn hlast hpos hj);clear hi hT hn hlast hpos hj;go_enter Tryz.func147,Tryz.ntmps147;go_wp2_with fail;refine(HSC.out).mono (mvD HM0 fun w1 rv1 HS1 HM1=>?_);go_wp2_with fail
 go_end0
 exact⟨_,rfl,HS1.out,HM1.out⟩
theorem cab_w1_nillast (w:World) (h:St w sb mb lb ty o c rv l) (hph:c.ph=1) (hi:c.i<100) (hT:Tab64 w) (hn:¬ fp sb mb lb rv 0) (hlast:c.nr≤c.i+1) (hpos:¬ (0<c.rdm l (1+c.i))) (hj:c.base+(1+c.i)<l.length):Calls Tryz.prog 147 #[.pointer (some ⟨sb,0,none⟩)] w (Did sb mb lb ty o w rv (({ ({ c with i:=c.i+1 }:Kc).mark c.A with B:=(({ c with i:=c.i+1 }:Kc).mark c.A).free }:Kc).go 2) l (.tuple #[])):=by
 obtain⟨HS0,HM0,hfit,HF,HWD,HSL,HCP,HNR⟩:=h.start;clear hfit h;have HPH:=hid hph;clear hph;obtain⟨u0,hu0,hr0⟩:=HS0.out.op.row;have c10_0:=hr0.ph 10 1 HPH;clear hr0 hu0;have HSC:=hid (cabScan_nillast sb mb lb ty o c rv l w HS0.out hi hT hn hlast hpos hj);clear hi hT hn hlast hpos hj;go_enter Tryz.func147,Tryz.ntmps147;go_wp2_with fail;refine(HSC.out).mono (mvD HM0 fun w1 rv1 HS1 HM1=>?_);go_wp2_with fail
 go_end0
 exact⟨_,rfl,HS1.out,HM1.out⟩
theorem cab_w1_nilnext (w:World) (h:St w sb mb lb ty o c rv l) (hph:c.ph=1) (hi:c.i<100) (hT:Tab64 w) (hn:¬ fp sb mb lb rv 0) (hlast:¬ (c.nr≤c.i+1)) (hpos:¬ (0<c.rdm l (1+c.i))) (hj:c.base+(1+c.i)<l.length):Calls Tryz.prog 147 #[.pointer (some ⟨sb,0,none⟩)] w (Did sb mb lb ty o w rv { c with i:=c.i+1 } l (.tuple #[])):=by
 obtain⟨HS0,HM0,hfit,HF,HWD,HSL,HCP,HNR⟩:=h.start;clear hfit h;have HPH:=hid hph;clear hph;obtain⟨u0,hu0,hr0⟩:=HS0.out.op.row;have c10_0:=hr0.ph 10 1 HPH;clear hr0 hu0;have HSC:=hid (cabScan_nilnext sb mb lb ty o c rv l w HS0.out hi hT hn hlast hpos hj);clear hi hT hn hlast hpos hj;go_enter Tryz.func147,Tryz.ntmps147;go_wp2_with fail;refine(HSC.out).mono (mvD HM0 fun w1 rv1 HS1 HM1=>?_);go_wp2_with fail
 go_end0
 exact⟨_,rfl,HS1.out,HM1.out⟩
theorem cab_w2 (w:World) (h:St w sb mb lb ty o c rv l) (hph:c.ph=2) (hB:0≤c.B∧c.B≤20) (hwr:c.wr=true→c.i<c.rc.length) (hrl:c.rc.length≤1000000) (hi2:c.i<1000) (hj:c.base+(1+c.nr+c.B.toNat*c.wd+c.i)<l.length) (hf1:1+c.nr+c.B.toNat*c.wd≤1000000):Calls Tryz.prog 147 #[.pointer (some ⟨sb,0,none⟩)] w (Did sb mb lb ty o w rv (c.word l (1+c.nr+c.B.toNat*c.wd) (·.go 3)).1 (c.word l (1+c.nr+c.B.toNat*c.wd) (·.go 3)).2 (.tuple #[])):=by
 obtain⟨HS0,HM0,hfit,HF,HWD,HSL,HCP,HNR⟩:=h.start;clear hfit h;have HPH:=hid hph;clear hph;obtain⟨u0,hu0,hr0⟩:=HS0.out.op.row;have c10_0:=hr0.ph 10 2 HPH;clear hr0 hu0;have HFR:=hid fun W (h:St W sb mb lb ty o c rv l)=>cabFrom_o sb mb lb ty o c rv l c.B W h hB
 clear hB;obtain⟨FR,hFR⟩:∃ x,1+c.nr+c.B.toNat*c.wd=x:=⟨_,rfl⟩;rw[hFR] at HFR hj hf1 ⊢;clear hFR;have HWO:=hid fun W (rv:Value) (h:St W sb mb lb ty o c rv l)=>word_o sb mb lb ty o c rv l (FR) W h hwr hrl hi2 hj hf1
 clear hwr hrl hi2 hj hf1;rw[Kc.word_eq]
 by_cases hlast:c.wd≤c.i+1
 ·rw[if_pos hlast];have hd:decide ((c.wd:Int)≤(c.i:Int)+1)=true:=decide_eq_true (by omega);rw[hd] at HWO;clear hlast hd;go_enter Tryz.func147,Tryz.ntmps147;go_wp2_with fail;refine rgK (S:=(fun w':World=>w'.cell? ⟨sb,14,none⟩=some (.int .u32 c.B))) HS0 HM0 (fun HS1=>let ⟨_,_,hr0⟩:=HS1.out.op.row;(hr0.cell 14).trans rfl) fun w1 HS1 HM1 hHeld=>?_
  refine tk4 0 1 2 3 ?_;refine tk4 4 5 6 7 ?_;refine tkH 8 ?_;refine clH 9 (fun K hK=>?_)
  ·go_simp;refine(HFR.out _ HS1.out).mono ?_;rintro ex w2 ⟨rfl,hb⟩;have HS2:=hid (HS1.out.below hb);have HM2:=hid (HM1.out.trans (Mv.below hb _));clear hb;obtain⟨u2,hu2,hr2⟩:=HS2.out.op.row;have hSx2:(fun w':World=>w'.cell? ⟨sb,14,none⟩=some (.int .u32 c.B)) w2:=(hr2.cell 14).trans rfl;clear hr2 hu2;refine kH hK hSx2 fun hHeld=>?_
   clear hK K;refine clH 10 (fun K hK=>?_)
   ·go_simp;refine(HWO.out _ _ HS2.out).mono (mvD HM2 fun w3 rv3 HS3 HM3=>?_);obtain⟨u3,hu3,hr3⟩:=HS3.out.op.row;have hSx3:(fun w':World=>w'.cell? ⟨sb,14,none⟩=some (.int .u32 c.B)) w3:=(hr3.cell 14).trans rfl;clear hr3 hu3;refine kH hK hSx3 fun hHeld=>?_
    clear hK K;refine dnH ?_;clear hHeld hSx3;go_wp2_with fail;refine(go_o sb mb lb ty o _ _ _ 3 3 _ HS3.out rfl).mono (mvK HM3 fun w4 HS4 HM4=>?_);go_wp2_with fail
    go_end0
    exact⟨_,rfl,HS4.out,HM4.out⟩
 ·rw[if_neg hlast];have hd:decide ((c.wd:Int)≤(c.i:Int)+1)=false:=decide_eq_false (by omega);rw[hd] at HWO;clear hlast hd;go_enter Tryz.func147,Tryz.ntmps147;go_wp2_with fail;refine rgK (S:=(fun w':World=>w'.cell? ⟨sb,14,none⟩=some (.int .u32 c.B))) HS0 HM0 (fun HS1=>let ⟨_,_,hr0⟩:=HS1.out.op.row;(hr0.cell 14).trans rfl) fun w1 HS1 HM1 hHeld=>?_
  refine tk4 0 1 2 3 ?_;refine tk4 4 5 6 7 ?_;refine tkH 8 ?_;refine clH 9 (fun K hK=>?_)
  ·go_simp;refine(HFR.out _ HS1.out).mono ?_;rintro ex w2 ⟨rfl,hb⟩;have HS2:=hid (HS1.out.below hb);have HM2:=hid (HM1.out.trans (Mv.below hb _));clear hb;obtain⟨u2,hu2,hr2⟩:=HS2.out.op.row;have hSx2:(fun w':World=>w'.cell? ⟨sb,14,none⟩=some (.int .u32 c.B)) w2:=(hr2.cell 14).trans rfl;clear hr2 hu2;refine kH hK hSx2 fun hHeld=>?_
   clear hK K;refine clH 10 (fun K hK=>?_)
   ·go_simp;refine(HWO.out _ _ HS2.out).mono (mvD HM2 fun w3 rv3 HS3 HM3=>?_);obtain⟨u3,hu3,hr3⟩:=HS3.out.op.row;have hSx3:(fun w':World=>w'.cell? ⟨sb,14,none⟩=some (.int .u32 c.B)) w3:=(hr3.cell 14).trans rfl;clear hr3 hu3;refine kH hK hSx3 fun hHeld=>?_
    clear hK K;refine dnH ?_;clear hHeld hSx3;go_wp2_with fail
    go_end0
    exact⟨_,rfl,HS3.out,HM3.out⟩
theorem cab_w3 (w:World) (h:St w sb mb lb ty o c rv l) (hph:c.ph=3) (hj:c.base+0<l.length):Calls Tryz.prog 147 #[.pointer (some ⟨sb,0,none⟩)] w (Did sb mb lb ty o w rv (c.fin 0) (c.wrm l 0 c.B) (.tuple #[])):=by
 obtain⟨HS0,HM0,hfit,HF,HWD,HSL,HCP,HNR⟩:=h.start;clear hfit h;have HPH:=hid hph;clear hph;obtain⟨u0,hu0,hr0⟩:=HS0.out.op.row;have c10_0:=hr0.ph 10 3 HPH;clear hr0 hu0;have HW:=hid fun W (h:St W sb mb lb ty o c rv l)=>write_o sb mb lb ty o c rv l 0 0 c.B W h (by omega) hj ⟨HF.out.B0,HF.out.B1⟩
 clear hj;go_enter Tryz.func147,Tryz.ntmps147;go_wp2_with fail;refine rgK (S:=(fun w':World=>w'.cell? ⟨sb,14,none⟩=some (.int .u32 c.B))) HS0 HM0 (fun HS1=>let ⟨_,_,hr0⟩:=HS1.out.op.row;(hr0.cell 14).trans rfl) fun w1 HS1 HM1 hHeld=>?_
 refine tk4 0 1 2 3 ?_;refine tk4 4 5 6 7 ?_;refine clH 8 (fun K hK=>?_)
 ·go_simp;refine(HW.out _ HS1.out).mono (mvK HM1 fun w2 HS2 HM2=>?_);obtain⟨u2,hu2,hr2⟩:=HS2.out.op.row;have hSx2:(fun w':World=>w'.cell? ⟨sb,14,none⟩=some (.int .u32 c.B)) w2:=(hr2.cell 14).trans rfl;clear hr2 hu2;refine kH hK hSx2 fun hHeld=>?_
  clear hK K;refine dnH ?_;clear hHeld hSx2;go_wp2_with fail;refine(end_o sb mb lb ty o _ _ _ 0 _ HS2.out).mono (mvD HM2 fun w3 rv3 HS3 HM3=>?_);go_wp2_with fail
  go_end0
  exact⟨_,rfl,HS3.out,HM3.out⟩
theorem cab_r0 (w:World) (h:St w sb mb lb ty o c rv l) (hph:c.ph=0) (hs:1≤c.sl) (hj:c.base+0<l.length):Calls Tryz.prog 148 #[.pointer (some ⟨sb,0,none⟩)] w (Did sb mb lb ty o w rv (({ c with A:=c.rdm l 0%(c.sl:Int) }:Kc).go 1) l (.tuple #[])):=by
 obtain⟨HS0,HM0,hfit,HF,HWD,HSL,HCP,HNR⟩:=h.start;clear hfit h;have HPH:=hid hph;clear hph;obtain⟨u0,hu0,hr0⟩:=HS0.out.op.row;have c10_0:=hr0.ph 10 0 HPH;have c9_0:=hr0.at 9 (.int .i64 (c.rd:Int));clear hr0 hu0;have hrd9:=HF.out.rd1;have hrd0:(0:Int)≤(c.rd:Int):=by omega
 have hrd1:(c.rd:Int)≤4:=by omega
 have hown:IntKind.i64.wrap (1+(c.rd:Int))=1+(c.rd:Int):=sh_wrap (by omega) (by omega);clear hrd9;have HNW:=hid fun W (h:St W sb mb lb ty o c rv l)=>cabNewest_o sb mb lb ty o c rv l W h hs hj
 have hs1:=HF.out.sl1;obtain⟨z,hz'⟩:∃ x,c.rdm l 0%(c.sl:Int)=x:=⟨_,rfl⟩;have hz0:0≤z:=by rw[← hz'];exact Int.emod_nonneg _ (by omega)
 have hz1:z<16:=by have:=Int.emod_lt_of_pos (c.rdm l 0) (show(0:Int)<(c.sl:Int) by omega);omega
 rw[hz'] at HNW;try rw[hz']
 have hz8:=hid hz';clear hz' hj hs hs1;go_enter Tryz.func148,Tryz.ntmps148;go_wp2_with fail;refine(HNW.out _ HS0.out).mono (mvK HM0 fun w1 HS1 HM1=>?_);obtain⟨u1,hu1,hr1⟩:=HS1.out.op.row;have c13_1:=hr1.at 13 (.int .u32 c.A);have f13_1:=hr1.frozen 13;clear hr1 hu1;go_wp2_with fail;obtain⟨HS2,HM2⟩:=nxx (HS1.out.setA (z) ⟨hz0,by omega⟩) HM1;go_wp2_with fail;refine(go_o sb mb lb ty o _ _ _ 1 1 _ HS2.out rfl).mono (mvK HM2 fun w3 HS3 HM3=>?_);go_wp2_with fail
 go_end0
 exact⟨_,rfl,HS3.out,HM3.out⟩
theorem cab_r1 (w:World) (h:St w sb mb lb ty o c rv l) (hph:c.ph=1) (hj:c.base+(1+c.rd)<l.length):Calls Tryz.prog 148 #[.pointer (some ⟨sb,0,none⟩)] w (Did sb mb lb ty o w rv (c.go 2) (c.wrm l (1+c.rd) ((c.A+1)%4294967296)) (.tuple #[])):=by
 obtain⟨HS0,HM0,hfit,HF,HWD,HSL,HCP,HNR⟩:=h.start;clear hfit h;have HPH:=hid hph;clear hph;obtain⟨u0,hu0,hr0⟩:=HS0.out.op.row;have c10_0:=hr0.ph 10 1 HPH;have c9_0:=hr0.at 9 (.int .i64 (c.rd:Int));clear hr0 hu0;have hrd9:=HF.out.rd1;have hrd0:(0:Int)≤(c.rd:Int):=by omega
 have hrd1:(c.rd:Int)≤4:=by omega
 have hown:IntKind.i64.wrap (1+(c.rd:Int))=1+(c.rd:Int):=sh_wrap (by omega) (by omega);clear hrd9;have HW:=hid fun W (h:St W sb mb lb ty o c rv l)=>write_o sb mb lb ty o c rv l (1+(c.rd:Int)) (1+c.rd) ((c.A+1)%4294967296) W h (by omega) hj (by omega)
 clear hj;have hu:IntKind.u32.wrap (c.A+1)=(c.A+1)%4294967296:=by simp[IntKind.wrap,IntKind.signed,IntKind.bits]
 go_enter Tryz.func148,Tryz.ntmps148;go_wp2_with fail;refine rgK (S:=(fun w':World=>w'.cell? ⟨sb,13,none⟩=some (.int .u32 c.A))) HS0 HM0 (fun HS1=>let ⟨_,_,hr0⟩:=HS1.out.op.row;(hr0.cell 13).trans rfl) fun w1 HS1 HM1 hHeld=>?_
 refine tk4 0 1 2 3 ?_;refine tk4 4 5 6 7 ?_;refine tk2 8 9 ?_;refine clH 10 (fun K hK=>?_)
 ·go_simp;refine(HW.out _ HS1.out).mono (mvK HM1 fun w2 HS2 HM2=>?_);obtain⟨u2,hu2,hr2⟩:=HS2.out.op.row;have hSx2:(fun w':World=>w'.cell? ⟨sb,13,none⟩=some (.int .u32 c.A)) w2:=(hr2.cell 13).trans rfl;clear hr2 hu2;refine kH hK hSx2 fun hHeld=>?_
  clear hK K;refine dnH ?_;clear hHeld hSx2;go_wp2_with fail;refine(go_o sb mb lb ty o _ _ _ 2 2 _ HS2.out rfl).mono (mvK HM2 fun w3 HS3 HM3=>?_);go_wp2_with fail
  go_end0
  exact⟨_,rfl,HS3.out,HM3.out⟩
theorem cab_r2_same (w:World) (h:St w sb mb lb ty o c rv l) (hph:c.ph=2) (hs:1≤c.sl) (_ht:c.tr<1000) (hj:c.base+0<l.length) (he:c.rdm l 0%(c.sl:Int)=c.A):Calls Tryz.prog 148 #[.pointer (some ⟨sb,0,none⟩)] w (Did sb mb lb ty o w rv (c.go 3) l (.tuple #[])):=by
 obtain⟨HS0,HM0,hfit,HF,HWD,HSL,HCP,HNR⟩:=h.start;clear hfit h;have HPH:=hid hph;clear hph;obtain⟨u0,hu0,hr0⟩:=HS0.out.op.row;have c10_0:=hr0.ph 10 2 HPH;have c9_0:=hr0.at 9 (.int .i64 (c.rd:Int));clear hr0 hu0;have hrd9:=HF.out.rd1;have hrd0:(0:Int)≤(c.rd:Int):=by omega
 have hrd1:(c.rd:Int)≤4:=by omega
 have hown:IntKind.i64.wrap (1+(c.rd:Int))=1+(c.rd:Int):=sh_wrap (by omega) (by omega);clear hrd9;have HNW:=hid fun W (h:St W sb mb lb ty o c rv l)=>cabNewest_o sb mb lb ty o c rv l W h hs hj
 have hs1:=HF.out.sl1;obtain⟨z,hz'⟩:∃ x,c.rdm l 0%(c.sl:Int)=x:=⟨_,rfl⟩;have hz0:0≤z:=by rw[← hz'];exact Int.emod_nonneg _ (by omega)
 have hz1:z<16:=by have:=Int.emod_lt_of_pos (c.rdm l 0) (show(0:Int)<(c.sl:Int) by omega);omega
 rw[hz'] at HNW;try rw[hz']
 have hz8:=hid hz';clear hz' hj hs hs1;rw[hz8.out] at he;have hd:(z==c.A)=true:=by simpa using he
 clear he;clear _ht;go_enter Tryz.func148,Tryz.ntmps148;go_wp2_with fail;refine rgK (S:=(fun w':World=>w'.cell? ⟨sb,13,none⟩=some (.int .u32 c.A))) HS0 HM0 (fun HS1=>let ⟨_,_,hr0⟩:=HS1.out.op.row;(hr0.cell 13).trans rfl) fun w1 HS1 HM1 hHeld=>?_
 refine tk4 0 2 3 4 ?_;refine tk2 5 6 ?_;refine clH 1 (fun K hK=>?_)
 ·go_simp;refine(HNW.out _ HS1.out).mono (mvK HM1 fun w2 HS2 HM2=>?_);obtain⟨u2,hu2,hr2⟩:=HS2.out.op.row;have hSx2:(fun w':World=>w'.cell? ⟨sb,13,none⟩=some (.int .u32 c.A)) w2:=(hr2.cell 13).trans rfl;clear hr2 hu2;refine kH hK hSx2 fun hHeld=>?_
  clear hK K;refine tkH 7 ?_;refine dnH ?_;clear hHeld hSx2;go_wp2_with fail;refine(go_o sb mb lb ty o _ _ _ 3 3 _ HS2.out rfl).mono (mvK HM2 fun w3 HS3 HM3=>?_);go_wp2_with fail
  go_end0
  exact⟨_,rfl,HS3.out,HM3.out⟩
theorem cab_r2_again (w:World) (h:St w sb mb lb ty o c rv l) (hph:c.ph=2) (hs:1≤c.sl) (ht:c.tr<1000) (hj:c.base+0<l.length) (he:¬ (c.rdm l 0%(c.sl:Int)=c.A)) (hlast:¬ (c.cap≤c.tr+1)):Calls Tryz.prog 148 #[.pointer (some ⟨sb,0,none⟩)] w (Did sb mb lb ty o w rv (c.fail fun c1=>({ c1 with B:=1 }:Kc).go 4) l (.tuple #[])):=by
 obtain⟨HS0,HM0,hfit,HF,HWD,HSL,HCP,HNR⟩:=h.start;clear hfit h;have HPH:=hid hph;clear hph;obtain⟨u0,hu0,hr0⟩:=HS0.out.op.row;have c10_0:=hr0.ph 10 2 HPH;have c9_0:=hr0.at 9 (.int .i64 (c.rd:Int));clear hr0 hu0;have hrd9:=HF.out.rd1;have hrd0:(0:Int)≤(c.rd:Int):=by omega
 have hrd1:(c.rd:Int)≤4:=by omega
 have hown:IntKind.i64.wrap (1+(c.rd:Int))=1+(c.rd:Int):=sh_wrap (by omega) (by omega);clear hrd9;have HNW:=hid fun W (h:St W sb mb lb ty o c rv l)=>cabNewest_o sb mb lb ty o c rv l W h hs hj
 have hs1:=HF.out.sl1;obtain⟨z,hz'⟩:∃ x,c.rdm l 0%(c.sl:Int)=x:=⟨_,rfl⟩;have hz0:0≤z:=by rw[← hz'];exact Int.emod_nonneg _ (by omega)
 have hz1:z<16:=by have:=Int.emod_lt_of_pos (c.rdm l 0) (show(0:Int)<(c.sl:Int) by omega);omega
 rw[hz'] at HNW;try rw[hz']
 have hz8:=hid hz';clear hz' hj hs hs1;rw[hz8.out] at he;have hd:(z==c.A)=false:=by simpa using he
 clear he;have hfl:=fun W (h:St W sb mb lb ty o c rv l)=>fail_o sb mb lb ty o c rv l W h ht
 have hd2:decide ((c.cap:Int)≤(c.tr:Int)+1)=false:=decide_eq_false (by omega);rw[hd2] at hfl;have HFL:=hid hfl;clear hfl hd2;unfold Kc.fail;simp only[ge_iff_le];rw[if_neg hlast];clear hlast ht;go_enter Tryz.func148,Tryz.ntmps148;go_wp2_with fail;refine rgK (S:=(fun w':World=>w'.cell? ⟨sb,13,none⟩=some (.int .u32 c.A))) HS0 HM0 (fun HS1=>let ⟨_,_,hr0⟩:=HS1.out.op.row;(hr0.cell 13).trans rfl) fun w1 HS1 HM1 hHeld=>?_
 refine tk4 0 2 3 4 ?_;refine tk2 5 6 ?_;refine clH 1 (fun K hK=>?_)
 ·go_simp;refine(HNW.out _ HS1.out).mono (mvK HM1 fun w2 HS2 HM2=>?_);obtain⟨u2,hu2,hr2⟩:=HS2.out.op.row;have hSx2:(fun w':World=>w'.cell? ⟨sb,13,none⟩=some (.int .u32 c.A)) w2:=(hr2.cell 13).trans rfl;clear hr2 hu2;refine kH hK hSx2 fun hHeld=>?_
  clear hK K;refine tkH 7 ?_;refine dnH ?_;clear hHeld hSx2;go_wp2_with fail;refine(HFL.out _ HS2.out).mono (mvD HM2 fun w3 rv3 HS3 HM3=>?_);go_wp2_with fail
  go_end0
  exact⟨_,rfl,HS3.out,HM3.out⟩
theorem cab_r2_last (w:World) (h:St w sb mb lb ty o c rv l) (hph:c.ph=2) (hs:1≤c.sl) (ht:c.tr<1000) (hj:c.base+0<l.length) (he:¬ (c.rdm l 0%(c.sl:Int)=c.A)) (hlast:c.cap≤c.tr+1):Calls Tryz.prog 148 #[.pointer (some ⟨sb,0,none⟩)] w (Did sb mb lb ty o w rv (c.fail fun c1=>({ c1 with B:=1 }:Kc).go 4) l (.tuple #[])):=by
 obtain⟨HS0,HM0,hfit,HF,HWD,HSL,HCP,HNR⟩:=h.start;clear hfit h;have HPH:=hid hph;clear hph;obtain⟨u0,hu0,hr0⟩:=HS0.out.op.row;have c10_0:=hr0.ph 10 2 HPH;have c9_0:=hr0.at 9 (.int .i64 (c.rd:Int));clear hr0 hu0;have hrd9:=HF.out.rd1;have hrd0:(0:Int)≤(c.rd:Int):=by omega
 have hrd1:(c.rd:Int)≤4:=by omega
 have hown:IntKind.i64.wrap (1+(c.rd:Int))=1+(c.rd:Int):=sh_wrap (by omega) (by omega);clear hrd9;have HNW:=hid fun W (h:St W sb mb lb ty o c rv l)=>cabNewest_o sb mb lb ty o c rv l W h hs hj
 have hs1:=HF.out.sl1;obtain⟨z,hz'⟩:∃ x,c.rdm l 0%(c.sl:Int)=x:=⟨_,rfl⟩;have hz0:0≤z:=by rw[← hz'];exact Int.emod_nonneg _ (by omega)
 have hz1:z<16:=by have:=Int.emod_lt_of_pos (c.rdm l 0) (show(0:Int)<(c.sl:Int) by omega);omega
 rw[hz'] at HNW;try rw[hz']
 have hz8:=hid hz';clear hz' hj hs hs1;rw[hz8.out] at he;have hd:(z==c.A)=false:=by simpa using he
 clear he;have hfl:=fun W (h:St W sb mb lb ty o c rv l)=>fail_o sb mb lb ty o c rv l W h ht
 have hd2:decide ((c.cap:Int)≤(c.tr:Int)+1)=true:=decide_eq_true (by omega);rw[hd2] at hfl;have HFL:=hid hfl;clear hfl hd2;unfold Kc.fail;simp only[ge_iff_le];rw[if_pos hlast];clear hlast ht;go_enter Tryz.func148,Tryz.ntmps148;go_wp2_with fail;refine rgK (S:=(fun w':World=>w'.cell? ⟨sb,13,none⟩=some (.int .u32 c.A))) HS0 HM0 (fun HS1=>let ⟨_,_,hr0⟩:=HS1.out.op.row;(hr0.cell 13).trans rfl) fun w1 HS1 HM1 hHeld=>?_
 refine tk4 0 2 3 4 ?_;refine tk2 5 6 ?_;refine clH 1 (fun K hK=>?_)
 ·go_simp;refine(HNW.out _ HS1.out).mono (mvK HM1 fun w2 HS2 HM2=>?_);obtain⟨u2,hu2,hr2⟩:=HS2.out.op.row;have hSx2:(fun w':World=>w'.cell? ⟨sb,13,none⟩=some (.int .u32 c.A)) w2:=(hr2.cell 13).trans rfl;clear hr2 hu2;refine kH hK hSx2 fun hHeld=>?_
  clear hK K;refine tkH 7 ?_;refine dnH ?_;clear hHeld hSx2;go_wp2_with fail;refine(HFL.out _ HS2.out).mono (mvD HM2 fun w3 rv3 HS3 HM3=>?_);obtain⟨u3,hu3,hr3⟩:=HS3.out.op.row;have c14_3:=hr3.at 14 (.int .u32 c.B);have f14_3:=hr3.frozen 14;clear hr3 hu3;go_wp2_with fail;obtain⟨HS4,HM4⟩:=nxx (HS3.out.setB (1) ⟨by omega,by omega⟩) HM3;go_wp2_with fail;refine(go_o sb mb lb ty o _ _ _ 4 4 _ HS4.out rfl).mono (mvK HM4 fun w5 HS5 HM5=>?_);go_wp2_with fail
  go_end0
  exact⟨_,rfl,HS5.out,HM5.out⟩
theorem cab_r3 (w:World) (h:St w sb mb lb ty o c rv l) (hph:c.ph=3) (hB:0≤c.A∧c.A≤20) (hwr:c.wr=true→c.i<c.rc.length) (hrl:c.rc.length≤1000000) (hi2:c.i<1000) (hj:c.base+(1+c.nr+c.A.toNat*c.wd+c.i)<l.length) (hf1:1+c.nr+c.A.toNat*c.wd≤1000000):Calls Tryz.prog 148 #[.pointer (some ⟨sb,0,none⟩)] w (Did sb mb lb ty o w rv (c.word l (1+c.nr+c.A.toNat*c.wd) (·.go 4)).1 (c.word l (1+c.nr+c.A.toNat*c.wd) (·.go 4)).2 (.tuple #[])):=by
 obtain⟨HS0,HM0,hfit,HF,HWD,HSL,HCP,HNR⟩:=h.start;clear hfit h;have HPH:=hid hph;clear hph;obtain⟨u0,hu0,hr0⟩:=HS0.out.op.row;have c10_0:=hr0.ph 10 3 HPH;have c9_0:=hr0.at 9 (.int .i64 (c.rd:Int));clear hr0 hu0;have hrd9:=HF.out.rd1;have hrd0:(0:Int)≤(c.rd:Int):=by omega
 have hrd1:(c.rd:Int)≤4:=by omega
 have hown:IntKind.i64.wrap (1+(c.rd:Int))=1+(c.rd:Int):=sh_wrap (by omega) (by omega);clear hrd9;have HFR:=hid fun W (h:St W sb mb lb ty o c rv l)=>cabFrom_o sb mb lb ty o c rv l c.A W h hB
 clear hB;obtain⟨FR,hFR⟩:∃ x,1+c.nr+c.A.toNat*c.wd=x:=⟨_,rfl⟩;rw[hFR] at HFR hj hf1 ⊢;clear hFR;have HWO:=hid fun W (rv:Value) (h:St W sb mb lb ty o c rv l)=>word_o sb mb lb ty o c rv l (FR) W h hwr hrl hi2 hj hf1
 clear hwr hrl hi2 hj hf1;rw[Kc.word_eq]
 by_cases hlast:c.wd≤c.i+1
 ·rw[if_pos hlast];have hd:decide ((c.wd:Int)≤(c.i:Int)+1)=true:=decide_eq_true (by omega);rw[hd] at HWO;clear hlast hd;go_enter Tryz.func148,Tryz.ntmps148;go_wp2_with fail;refine rgK (S:=(fun w':World=>w'.cell? ⟨sb,13,none⟩=some (.int .u32 c.A))) HS0 HM0 (fun HS1=>let ⟨_,_,hr0⟩:=HS1.out.op.row;(hr0.cell 13).trans rfl) fun w1 HS1 HM1 hHeld=>?_
  refine tk4 0 1 2 3 ?_;refine tk4 4 5 6 7 ?_;refine tkH 8 ?_;refine clH 9 (fun K hK=>?_)
  ·go_simp;refine(HFR.out _ HS1.out).mono ?_;rintro ex w2 ⟨rfl,hb⟩;have HS2:=hid (HS1.out.below hb);have HM2:=hid (HM1.out.trans (Mv.below hb _));clear hb;obtain⟨u2,hu2,hr2⟩:=HS2.out.op.row;have hSx2:(fun w':World=>w'.cell? ⟨sb,13,none⟩=some (.int .u32 c.A)) w2:=(hr2.cell 13).trans rfl;clear hr2 hu2;refine kH hK hSx2 fun hHeld=>?_
   clear hK K;refine clH 10 (fun K hK=>?_)
   ·go_simp;refine(HWO.out _ _ HS2.out).mono (mvD HM2 fun w3 rv3 HS3 HM3=>?_);obtain⟨u3,hu3,hr3⟩:=HS3.out.op.row;have hSx3:(fun w':World=>w'.cell? ⟨sb,13,none⟩=some (.int .u32 c.A)) w3:=(hr3.cell 13).trans rfl;clear hr3 hu3;refine kH hK hSx3 fun hHeld=>?_
    clear hK K;refine dnH ?_;clear hHeld hSx3;go_wp2_with fail;refine(go_o sb mb lb ty o _ _ _ 4 4 _ HS3.out rfl).mono (mvK HM3 fun w4 HS4 HM4=>?_);go_wp2_with fail
    go_end0
    exact⟨_,rfl,HS4.out,HM4.out⟩
 ·rw[if_neg hlast];have hd:decide ((c.wd:Int)≤(c.i:Int)+1)=false:=decide_eq_false (by omega);rw[hd] at HWO;clear hlast hd;go_enter Tryz.func148,Tryz.ntmps148;go_wp2_with fail;refine rgK (S:=(fun w':World=>w'.cell? ⟨sb,13,none⟩=some (.int .u32 c.A))) HS0 HM0 (fun HS1=>let ⟨_,_,hr0⟩:=HS1.out.op.row;(hr0.cell 13).trans rfl) fun w1 HS1 HM1 hHeld=>?_
  refine tk4 0 1 2 3 ?_;refine tk4 4 5 6 7 ?_;refine tkH 8 ?_;refine clH 9 (fun K hK=>?_)
  ·go_simp;refine(HFR.out _ HS1.out).mono ?_;rintro ex w2 ⟨rfl,hb⟩;have HS2:=hid (HS1.out.below hb);have HM2:=hid (HM1.out.trans (Mv.below hb _));clear hb;obtain⟨u2,hu2,hr2⟩:=HS2.out.op.row;have hSx2:(fun w':World=>w'.cell? ⟨sb,13,none⟩=some (.int .u32 c.A)) w2:=(hr2.cell 13).trans rfl;clear hr2 hu2;refine kH hK hSx2 fun hHeld=>?_
   clear hK K;refine clH 10 (fun K hK=>?_)
   ·go_simp;refine(HWO.out _ _ HS2.out).mono (mvD HM2 fun w3 rv3 HS3 HM3=>?_);obtain⟨u3,hu3,hr3⟩:=HS3.out.op.row;have hSx3:(fun w':World=>w'.cell? ⟨sb,13,none⟩=some (.int .u32 c.A)) w3:=(hr3.cell 13).trans rfl;clear hr3 hu3;refine kH hK hSx3 fun hHeld=>?_
    clear hK K;refine dnH ?_;clear hHeld hSx3;go_wp2_with fail
    go_end0
    exact⟨_,rfl,HS3.out,HM3.out⟩
theorem cab_r4 (w:World) (h:St w sb mb lb ty o c rv l) (hph:c.ph=4) (hj:c.base+(1+c.rd)<l.length):Calls Tryz.prog 148 #[.pointer (some ⟨sb,0,none⟩)] w (Did sb mb lb ty o w rv (c.fin c.B) (c.wrm l (1+c.rd) 0) (.tuple #[])):=by
 obtain⟨HS0,HM0,hfit,HF,HWD,HSL,HCP,HNR⟩:=h.start;clear hfit h;have HPH:=hid hph;clear hph;obtain⟨u0,hu0,hr0⟩:=HS0.out.op.row;have c10_0:=hr0.ph 10 4 HPH;have c9_0:=hr0.at 9 (.int .i64 (c.rd:Int));clear hr0 hu0;have hrd9:=HF.out.rd1;have hrd0:(0:Int)≤(c.rd:Int):=by omega
 have hrd1:(c.rd:Int)≤4:=by omega
 have hown:IntKind.i64.wrap (1+(c.rd:Int))=1+(c.rd:Int):=sh_wrap (by omega) (by omega);clear hrd9;have HW:=hid fun W (h:St W sb mb lb ty o c rv l)=>write_o sb mb lb ty o c rv l (1+(c.rd:Int)) (1+c.rd) 0 W h (by omega) hj ⟨by omega,by omega⟩
 clear hj;have hB0:=HF.out.B0;have hB1:=HF.out.B1;have e1:IntKind.i64.wrap c.B=c.B:=sh_wrap (by omega) (by omega);go_enter Tryz.func148,Tryz.ntmps148;go_wp2_with fail;refine(HW.out _ HS0.out).mono (mvK HM0 fun w1 HS1 HM1=>?_);go_wp2_with fail;have HEN:=hid fun W (h:St W sb mb lb ty o c rv (c.wrm l (1+c.rd) 0))=>end_o sb mb lb ty o c rv (c.wrm l (1+c.rd) 0) c.B W h
 refine rgK (S:=(fun w':World=>w'.cell? ⟨sb,14,none⟩=some (.int .u32 c.B))) HS1 HM1 (fun HS2=>let ⟨_,_,hr1⟩:=HS2.out.op.row;(hr1.cell 14).trans rfl) fun w2 HS2 HM2 hHeld=>?_
 refine tk4 0 1 2 3 ?_;refine tk4 4 5 6 7 ?_;refine tkH 8 ?_;refine clH 9 (fun K hK=>?_)
 ·go_simp;refine(HEN.out _ HS2.out).mono (mvD HM2 fun w3 rv3 HS3 HM3=>?_);obtain⟨u3,hu3,hr3⟩:=HS3.out.op.row;have hSx3:(fun w':World=>w'.cell? ⟨sb,14,none⟩=some (.int .u32 c.B)) w3:=(hr3.cell 14).trans rfl;clear hr3 hu3;refine kH hK hSx3 fun hHeld=>?_
  clear hK K;refine dnH ?_;clear hHeld hSx3;go_wp2_with fail
  go_end0
  exact⟨_,rfl,HS3.out,HM3.out⟩
end
end Go.Proofs.YtolmpehgeinlkaaGreatDoor
