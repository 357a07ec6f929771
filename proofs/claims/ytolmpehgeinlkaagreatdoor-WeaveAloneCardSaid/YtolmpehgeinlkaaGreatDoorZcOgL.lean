/- The kind fifo: each step of a put, and of a take. -/
import Derived.Test.YtolmpehgeinlkaaGreatDoorZcOgK
namespace Go.Proofs.YtolmpehgeinlkaaGreatDoor
open Go.RowKit
open Go.Lib (hid)
attribute [local go_sem] Oper.semAt_some
set_option maxHeartbeats 1000000
set_option maxRecDepth 100000
abbrev QOgL0 (a0:Nat) (a1:Ob) (w':World):Prop:=w'.cell? ⟨a0,0,none⟩=some (.int .i64 a1.k)∧w'.cell? ⟨a0,1,none⟩=some (.int .i64 a1.wd)∧w'.cell? ⟨a0,2,none⟩=some (.int .i64 a1.s)∧w'.cell? ⟨a0,3,none⟩=some (.int .i64 a1.c)∧w'.cell? ⟨a0,4,none⟩=some (.int .u32 a1.st)∧w'.cell? ⟨a0,5,none⟩=some (.slice a1.I a1.ni a1.ci)∧w'.cell? ⟨a0,6,none⟩=some (.int .i64 a1.wr)∧w'.cell? ⟨a0,7,none⟩=some (.slice a1.R a1.nr a1.cr)
abbrev QOgL1 (a0:Nat) (a1:Ob) (a2:Kc) (w':World):Prop:=w'.cell? ⟨a0,0,none⟩=some (.int .i64 a1.k)∧w'.cell? ⟨a0,1,none⟩=some (.int .i64 a1.wd)∧w'.cell? ⟨a0,2,none⟩=some (.int .i64 a1.s)∧w'.cell? ⟨a0,3,none⟩=some (.int .i64 a1.c)∧w'.cell? ⟨a0,4,none⟩=some (.int .u32 a1.st)∧w'.cell? ⟨a0,5,none⟩=some (.slice a1.I a1.ni a1.ci)∧w'.cell? ⟨a0,6,none⟩=some (.int .i64 a1.wr)∧w'.cell? ⟨a0,7,none⟩=some (.slice a1.R a1.nr a1.cr)∧w'.cell? ⟨a0,13,none⟩=some (.int .u32 a2.A)
theorem fifoFrom_g (o:Ob) (a:Int) (h1:1≤o.s) (h2:o.s≤16) (h3:0≤o.wd) (h4:o.wd≤8) (ha:0≤a) (_ha2:a<4294967296) (w:World):Calls Tryz.prog 178 #[.agg (obA o),.int .u32 a] w fun e w'=>e=.returned (.int .i64 (2+(a%o.s)*o.wd))∧Below w.heap.size w w':=by
 have hn:=ObX.new w o;have hb:=(Below.refl w.heap.size w).alloc (Nat.le_refl _) (.cells (obA o) 26);obtain⟨c0,c1,c2,-⟩:=hn.cells;clear c0 hn;have hB:=hid hb.drew;obtain⟨n,hn0⟩:∃ n,w.heap.size=n:=⟨_,rfl⟩;rw[hn0] at c1 c2 hB;clear hb;have hq0:=Int.emod_nonneg a (show o.s≠0 by omega);have hq1:=Int.emod_lt_of_pos a (show 0<o.s by omega);have t0:IntKind.u32.wrap o.s=o.s:=sh_wrap32 (by omega) (by omega);have t1:a.tmod o.s=a%o.s:=Int.tmod_eq_emod_of_nonneg ha;have t2:IntKind.u32.wrap (a%o.s)=a%o.s:=sh_wrap32 hq0 (by omega);have t3:IntKind.i64.wrap (a%o.s)=a%o.s:=sh_wrap (by omega) (by omega);have m1:=mul_bd4 (a:=a%o.s) (b:=o.wd) hq0 (by omega) h3 (by omega);have t4:IntKind.i64.wrap (a%o.s*o.wd)=a%o.s*o.wd:=sh_wrap (by omega) (by omega);have t5:IntKind.i64.wrap (2+a%o.s*o.wd)=2+a%o.s*o.wd:=sh_wrap (by omega) (by omega);have s0:(o.s==0)=false:=by simp;omega
 have s1:¬ o.s=0:=by omega
 clear m1 hq0 hq1 ha _ha2;rw[hn0];unfold obA at *;go_enter Tryz.func178,Tryz.ntmps178;go_wp2_with fail;obtain⟨W1,hW1⟩:∃ x,w.alloc (.cells #[.int .i64 o.k,.int .i64 o.wd,.int .i64 o.s,.int .i64 o.c,.int .u32 o.st,.slice o.I o.ni o.ci,.int .i64 o.wr,.slice o.R o.nr o.cr] 26)=x:=⟨_,rfl⟩;rw[hW1] at c1 c2 hB ⊢;clear hW1;refine rgn (S:=(fun w':World=>w'.cell? ⟨n,1,none⟩=some (.int .i64 o.wd)∧w'.cell? ⟨n,2,none⟩=some (.int .i64 o.s))) ⟨c1,c2⟩ fun wd hw9 hHeld=>?_
 rw[hw9] at hB;clear hw9;refine tk4 0 1 2 3 ?_;refine tk4 4 5 6 7 ?_;refine tk2 8 9 ?_;refine tkH 10 ?_;refine dnH ?_;clear hHeld;go_wp2_with fail;go_ret;exact⟨rfl,hB.out⟩
section
variable (sb mb lb:Nat) (ty:TypeId) (o:Ob) (c:Kc) (rv:Value) (l:List Int)
theorem fifoCount_o (i:Int) (j:Nat) (w:World) (h:St w sb mb lb ty o c rv l) (hi:i=(j:Int)) (hs:1≤c.sl) (hj:c.base+j<l.length):Calls Tryz.prog 177 #[.pointer (some ⟨sb,0,none⟩),.int .i64 i] w (DidK sb mb lb ty o w rv c l (.int .u32 (c.rdm l j%(2*(c.sl:Int))))):=by
 obtain⟨HS0,HM0,hfit,HF,HWD,HSL,HCP,HNR⟩:=h.start;clear hfit h;have hz:=rdm_bd hj HS0.out.mem.w32;have HR:=hid fun W (h:St W sb mb lb ty o c rv l)=>read_o sb mb lb ty o c rv l i j W h (by omega) hj
 obtain⟨z,hz'⟩:∃ x,c.rdm l j=x:=⟨_,rfl⟩;rw[hz'] at HR hz;try rw[hz']
 have Hz':=hid hz';clear hz' hj;have hz0:=hz.1;have hz1:=hz.2;clear hz;have hsl:=HSL.out;have hs1:=HF.out.sl1;have hmo:=fun W=>fifoMod_o o (by omega) (by omega) W
 rw[← hsl];obtain⟨M,hM⟩:∃ x,2*o.s=x:=⟨_,rfl⟩;rw[hM] at hmo ⊢;have HMO:=hid hmo;have hM0:0<M:=by omega
 have hM1:M<4294967296:=by omega
 have m0:(M==0)=false:=by simp;omega
 have m1:¬ M=0:=by omega
 have t1:z.tmod M=z%M:=Int.tmod_eq_emod_of_nonneg hz0;have hq0:=Int.emod_nonneg z m1;have hq1:=Int.emod_lt_of_pos z hM0;have t2:IntKind.u32.wrap (z%M)=z%M:=sh_wrap32 hq0 (by omega);have HI:=hid hi;clear hsl hs1 hmo hM hs hq0 hq1 hi;unfold obA at HMO;go_enter Tryz.func177,Tryz.ntmps177;go_wp2_with fail;refine rgK (S:=(QOgL0 sb o)) HS0 HM0 (fun HS1=>let ⟨_,_,hr0⟩:=HS1.out.op.row;(by and_intros <;> exact hr0.c rfl)) fun w1 HS1 HM1 hHeld=>?_
 refine tk4 0 1 2 3 ?_;refine tk4 5 6 7 8 ?_;refine tkH 9 ?_;refine clH 4 (fun K hK=>?_)
 ·go_simp;refine(HR.out _ HS1.out).mono (mvK HM1 fun w2 HS2 HM2=>?_);obtain⟨u2,hu2,hr2⟩:=HS2.out.op.row;have hSx2:(QOgL0 sb o) w2:=(by and_intros <;> exact hr2.c rfl);clear hr2 hu2;refine kH hK hSx2 fun hHeld=>?_
  clear hK K;refine clH 10 (fun K hK=>?_)
  ·go_simp;refine(HMO.out _).mono ?_;rintro ex w3 ⟨rfl,hb⟩;have HS3:=hid (HS2.out.below hb);have HM3:=hid (HM2.out.trans (Mv.below hb _));clear hb;obtain⟨u3,hu3,hr3⟩:=HS3.out.op.row;have hSx3:(QOgL0 sb o) w3:=(by and_intros <;> exact hr3.c rfl);clear hr3 hu3;refine kH hK hSx3 fun hHeld=>?_
   clear hK K;refine tk2 11 12 ?_;refine dnH ?_;clear hHeld hSx3;go_wp2_with fail;go_ret;exact⟨rfl,HS3.out,HM3.out⟩
theorem fifoNext_o (i:Int) (j:Nat) (w:World) (h:St w sb mb lb ty o c rv l) (hi:i=(j:Int)) (hs:1≤c.sl) (hA:c.A<2*(c.sl:Int)) (hj:c.base+j<l.length):Calls Tryz.prog 179 #[.pointer (some ⟨sb,0,none⟩),.int .i64 i] w (DidK sb mb lb ty o w rv c (c.wrm l j (Kc.inc c.A (2*(c.sl:Int)))) (.tuple #[])):=by
 obtain⟨HS0,HM0,hfit,HF,HWD,HSL,HCP,HNR⟩:=h.start;clear hfit h;have hsl:=HSL.out;have hs1:=HF.out.sl1;have HMO:=hid fun W=>fifoMod_o o (by omega) (by omega) W
 have hM:2*o.s=2*(c.sl:Int):=by rw[hsl]
 rw[hM] at HMO;have hA0:=HF.out.A0;obtain⟨M,hM'⟩:∃ x,2*(c.sl:Int)=x:=⟨_,rfl⟩;rw[hM'] at HMO hA;try rw[hM']
 have hM0:2≤M:=by omega
 have hM1:M≤32:=by omega
 clear hM hsl hs1;unfold obA at HMO;have HNX:=hid fun W=>next_o c.A M W hA0 hA hM0 (by omega)
 have hZ:0≤Kc.inc c.A M∧Kc.inc c.A M<4294967296:=by unfold Kc.inc;split <;> omega
 have HW:=hid fun W (h:St W sb mb lb ty o c rv l)=>write_o sb mb lb ty o c rv l i j (Kc.inc c.A M) W h hi hj hZ
 obtain⟨Z,hZ'⟩:∃ x,Kc.inc c.A M=x:=⟨_,rfl⟩;rw[hZ'] at HNX HW ⊢;clear hZ hZ' hM' hs hi hj hA hA0;go_enter Tryz.func179,Tryz.ntmps179;go_wp2_with fail;refine rgK (S:=(QOgL1 sb o c)) HS0 HM0 (fun HS1=>let ⟨_,_,hr0⟩:=HS1.out.op.row;(by and_intros <;> exact hr0.c rfl)) fun w1 HS1 HM1 hHeld=>?_
 refine tk4 0 1 2 3 ?_;refine tk4 4 5 6 7 ?_;refine tk4 8 9 10 11 ?_;refine tk2 12 13 ?_;refine clH 14 (fun K hK=>?_)
 ·go_simp;refine(HMO.out _).mono ?_;rintro ex w2 ⟨rfl,hb⟩;have HS2:=hid (HS1.out.below hb);have HM2:=hid (HM1.out.trans (Mv.below hb _));clear hb;obtain⟨u2,hu2,hr2⟩:=HS2.out.op.row;have hSx2:(QOgL1 sb o c) w2:=(by and_intros <;> exact hr2.c rfl);clear hr2 hu2;refine kH hK hSx2 fun hHeld=>?_
  clear hK K;refine clH 15 (fun K hK=>?_)
  ·go_simp;refine(HNX.out _).mono ?_;rintro ex w3 ⟨rfl,hb⟩;have HS3:=hid (HS2.out.below hb);have HM3:=hid (HM2.out.trans (Mv.below hb _));clear hb;obtain⟨u3,hu3,hr3⟩:=HS3.out.op.row;have hSx3:(QOgL1 sb o c) w3:=(by and_intros <;> exact hr3.c rfl);clear hr3 hu3;refine kH hK hSx3 fun hHeld=>?_
   clear hK K;refine clH 16 (fun K hK=>?_)
   ·go_simp;refine(HW.out _ HS3.out).mono (mvK HM3 fun w4 HS4 HM4=>?_);obtain⟨u4,hu4,hr4⟩:=HS4.out.op.row;have hSx4:(QOgL1 sb o c) w4:=(by and_intros <;> exact hr4.c rfl);clear hr4 hu4;refine kH hK hSx4 fun hHeld=>?_
    clear hK K;refine dnH ?_;clear hHeld hSx4
    go_end0
    exact⟨rfl,HS4.out,HM4.out⟩
theorem fifo_p0 (w:World) (h:St w sb mb lb ty o c rv l) (hph:c.ph=0) (hs:1≤c.sl) (hj:c.base+1<l.length):Calls Tryz.prog 149 #[.pointer (some ⟨sb,0,none⟩)] w (Did sb mb lb ty o w rv (({ c with A:=c.rdm l 1%(2*(c.sl:Int)) }:Kc).go 1) l (.tuple #[])):=by
 obtain⟨HS0,HM0,hfit,HF,HWD,HSL,HCP,HNR⟩:=h.start;clear hfit h;have HPH:=hid hph;clear hph;obtain⟨u0,hu0,hr0⟩:=HS0.out.op.row;have c10_0:=hr0.ph 10 0 HPH;clear hr0 hu0;have hsl:=HSL.out;have hs1:=HF.out.sl1;have HMO:=hid fun W=>fifoMod_o o (by omega) (by omega) W
 have hM:2*o.s=2*(c.sl:Int):=by rw[hsl]
 rw[hM] at HMO;have HCO:=hid fun W (h:St W sb mb lb ty o c rv l)=>fifoCount_o sb mb lb ty o c rv l 1 1 W h rfl hs hj
 obtain⟨M,hM'⟩:∃ x,2*(c.sl:Int)=x:=⟨_,rfl⟩;rw[hM'] at HMO HCO;try rw[hM']
 have hM0:2≤M:=by omega
 have hM1:M≤32:=by omega
 clear hM hsl hs1;unfold obA at HMO;obtain⟨z,hz'⟩:∃ x,c.rdm l 1%M=x:=⟨_,rfl⟩;have hz0:0≤z:=by rw[← hz'];exact Int.emod_nonneg _ (by omega)
 have hz1:z<M:=by rw[← hz'];exact Int.emod_lt_of_pos _ (by omega)
 rw[hz'] at HCO;try rw[hz']
 have hz8:=hid hz';clear hz' hj;clear hM' hs;go_enter Tryz.func149,Tryz.ntmps149;go_wp2_with fail;refine(HCO.out _ HS0.out).mono (mvK HM0 fun w1 HS1 HM1=>?_);obtain⟨u1,hu1,hr1⟩:=HS1.out.op.row;have c13_1:=hr1.at 13 (.int .u32 c.A);have f13_1:=hr1.frozen 13;clear hr1 hu1;go_wp2_with fail;obtain⟨HS2,HM2⟩:=nxx (HS1.out.setA (z) ⟨hz0,by omega⟩) HM1;go_wp2_with fail;refine(go_o sb mb lb ty o _ _ _ 1 1 _ HS2.out rfl).mono (mvK HM2 fun w3 HS3 HM3=>?_);go_wp2_with fail
 go_end0
 exact⟨_,rfl,HS3.out,HM3.out⟩
theorem fifo_p1_full (w:World) (h:St w sb mb lb ty o c rv l) (hph:c.ph=1) (hs:1≤c.sl) (hA:c.A<2*(c.sl:Int)) (hg:Kc.gap (c.rdm l 0%(2*(c.sl:Int))) c.A (2*(c.sl:Int))≥(c.sl:Int)) (hj:c.base+0<l.length):Calls Tryz.prog 149 #[.pointer (some ⟨sb,0,none⟩)] w (Did sb mb lb ty o w rv (c.fin 2) l (.tuple #[])):=by
 obtain⟨HS0,HM0,hfit,HF,HWD,HSL,HCP,HNR⟩:=h.start;clear hfit h;have HPH:=hid hph;clear hph;obtain⟨u0,hu0,hr0⟩:=HS0.out.op.row;have c10_0:=hr0.ph 10 1 HPH;clear hr0 hu0;have hsl8:o.s=(c.sl:Int):=HSL.out;have hs18:=HF.out.sl1;have hsl:=HSL.out;have hs1:=HF.out.sl1;have HMO:=hid fun W=>fifoMod_o o (by omega) (by omega) W
 have hM:2*o.s=2*(c.sl:Int):=by rw[hsl]
 rw[hM] at HMO;have HCO:=hid fun W (h:St W sb mb lb ty o c rv l)=>fifoCount_o sb mb lb ty o c rv l 0 0 W h rfl hs hj
 obtain⟨M,hM'⟩:∃ x,2*(c.sl:Int)=x:=⟨_,rfl⟩;rw[hM'] at HMO HCO hg hA;try rw[hM']
 have hM0:2≤M:=by omega
 have hM1:M≤32:=by omega
 clear hM hsl hs1;unfold obA at HMO;obtain⟨z,hz'⟩:∃ x,c.rdm l 0%M=x:=⟨_,rfl⟩;have hz0:0≤z:=by rw[← hz'];exact Int.emod_nonneg _ (by omega)
 have hz1:z<M:=by rw[← hz'];exact Int.emod_lt_of_pos _ (by omega)
 rw[hz'] at HCO;try rw[hz']
 have hz8:=hid hz';clear hz' hj;rw[hz8.out] at hg;have HGA:=hid fun W=>gap_o z c.A M W hz0 hz1 HF.out.A0 hA (by omega)
 have hG:0≤Kc.gap z c.A M∧Kc.gap z c.A M<4294967296:=by have:=HF.out.A0;unfold Kc.gap;split <;> omega
 obtain⟨G,hG'⟩:∃ x,Kc.gap z c.A M=x:=⟨_,rfl⟩;rw[hG'] at HGA hG hg;have hG0:=hG.1;have hG1:=hG.2;have e1:IntKind.u32.wrap o.s=o.s:=sh_wrap32 (by omega) (by omega);have d1:decide (o.s≤G)=true:=decide_eq_true (by omega);clear hG hG' hM' hs hs18 hsl8 hA hg;go_enter Tryz.func149,Tryz.ntmps149;go_wp2_with fail;refine rgK (S:=(QOgL1 sb o c)) HS0 HM0 (fun HS1=>let ⟨_,_,hr0⟩:=HS1.out.op.row;(by and_intros <;> exact hr0.c rfl)) fun w1 HS1 HM1 hHeld=>?_
 refine tk4 0 2 3 4 ?_;refine tk4 5 6 7 8 ?_;refine tk4 9 10 11 14 ?_;refine tk4 15 16 17 18 ?_;refine tk2 19 20 ?_;refine clH 1 (fun K hK=>?_)
 ·go_simp;refine(HCO.out _ HS1.out).mono (mvK HM1 fun w2 HS2 HM2=>?_);obtain⟨u2,hu2,hr2⟩:=HS2.out.op.row;have hSx2:(QOgL1 sb o c) w2:=(by and_intros <;> exact hr2.c rfl);clear hr2 hu2;refine kH hK hSx2 fun hHeld=>?_
  clear hK K;refine clH 12 (fun K hK=>?_)
  ·go_simp;refine(HMO.out _).mono ?_;rintro ex w3 ⟨rfl,hb⟩;have HS3:=hid (HS2.out.below hb);have HM3:=hid (HM2.out.trans (Mv.below hb _));clear hb;obtain⟨u3,hu3,hr3⟩:=HS3.out.op.row;have hSx3:(QOgL1 sb o c) w3:=(by and_intros <;> exact hr3.c rfl);clear hr3 hu3;refine kH hK hSx3 fun hHeld=>?_
   clear hK K;refine clH 13 (fun K hK=>?_)
   ·go_simp;refine(HGA.out _).mono ?_;rintro ex w4 ⟨rfl,hb⟩;have HS4:=hid (HS3.out.below hb);have HM4:=hid (HM3.out.trans (Mv.below hb _));clear hb;obtain⟨u4,hu4,hr4⟩:=HS4.out.op.row;have hSx4:(QOgL1 sb o c) w4:=(by and_intros <;> exact hr4.c rfl);clear hr4 hu4;refine kH hK hSx4 fun hHeld=>?_
    clear hK K;refine tkH 21 ?_;refine dnH ?_;clear hHeld hSx4;go_wp2_with fail;refine(end_o sb mb lb ty o _ _ _ 2 _ HS4.out).mono (mvD HM4 fun w5 rv5 HS5 HM5=>?_);go_wp2_with fail
    go_end0
    exact⟨_,rfl,HS5.out,HM5.out⟩
theorem fifo_p1_go (w:World) (h:St w sb mb lb ty o c rv l) (hph:c.ph=1) (hs:1≤c.sl) (hA:c.A<2*(c.sl:Int)) (hg:¬ (Kc.gap (c.rdm l 0%(2*(c.sl:Int))) c.A (2*(c.sl:Int))≥(c.sl:Int))) (hj:c.base+0<l.length):Calls Tryz.prog 149 #[.pointer (some ⟨sb,0,none⟩)] w (Did sb mb lb ty o w rv (c.go 2) l (.tuple #[])):=by
 obtain⟨HS0,HM0,hfit,HF,HWD,HSL,HCP,HNR⟩:=h.start;clear hfit h;have HPH:=hid hph;clear hph;obtain⟨u0,hu0,hr0⟩:=HS0.out.op.row;have c10_0:=hr0.ph 10 1 HPH;clear hr0 hu0;have hsl8:o.s=(c.sl:Int):=HSL.out;have hs18:=HF.out.sl1;have hsl:=HSL.out;have hs1:=HF.out.sl1;have HMO:=hid fun W=>fifoMod_o o (by omega) (by omega) W
 have hM:2*o.s=2*(c.sl:Int):=by rw[hsl]
 rw[hM] at HMO;have HCO:=hid fun W (h:St W sb mb lb ty o c rv l)=>fifoCount_o sb mb lb ty o c rv l 0 0 W h rfl hs hj
 obtain⟨M,hM'⟩:∃ x,2*(c.sl:Int)=x:=⟨_,rfl⟩;rw[hM'] at HMO HCO hg hA;try rw[hM']
 have hM0:2≤M:=by omega
 have hM1:M≤32:=by omega
 clear hM hsl hs1;unfold obA at HMO;obtain⟨z,hz'⟩:∃ x,c.rdm l 0%M=x:=⟨_,rfl⟩;have hz0:0≤z:=by rw[← hz'];exact Int.emod_nonneg _ (by omega)
 have hz1:z<M:=by rw[← hz'];exact Int.emod_lt_of_pos _ (by omega)
 rw[hz'] at HCO;try rw[hz']
 have hz8:=hid hz';clear hz' hj;rw[hz8.out] at hg;have HGA:=hid fun W=>gap_o z c.A M W hz0 hz1 HF.out.A0 hA (by omega)
 have hG:0≤Kc.gap z c.A M∧Kc.gap z c.A M<4294967296:=by have:=HF.out.A0;unfold Kc.gap;split <;> omega
 obtain⟨G,hG'⟩:∃ x,Kc.gap z c.A M=x:=⟨_,rfl⟩;rw[hG'] at HGA hG hg;have hG0:=hG.1;have hG1:=hG.2;have e1:IntKind.u32.wrap o.s=o.s:=sh_wrap32 (by omega) (by omega);have d1:decide (o.s≤G)=false:=decide_eq_false (by omega);clear hG hG' hM' hs hs18 hsl8 hA hg;go_enter Tryz.func149,Tryz.ntmps149;go_wp2_with fail;refine rgK (S:=(QOgL1 sb o c)) HS0 HM0 (fun HS1=>let ⟨_,_,hr0⟩:=HS1.out.op.row;(by and_intros <;> exact hr0.c rfl)) fun w1 HS1 HM1 hHeld=>?_
 refine tk4 0 2 3 4 ?_;refine tk4 5 6 7 8 ?_;refine tk4 9 10 11 14 ?_;refine tk4 15 16 17 18 ?_;refine tk2 19 20 ?_;refine clH 1 (fun K hK=>?_)
 ·go_simp;refine(HCO.out _ HS1.out).mono (mvK HM1 fun w2 HS2 HM2=>?_);obtain⟨u2,hu2,hr2⟩:=HS2.out.op.row;have hSx2:(QOgL1 sb o c) w2:=(by and_intros <;> exact hr2.c rfl);clear hr2 hu2;refine kH hK hSx2 fun hHeld=>?_
  clear hK K;refine clH 12 (fun K hK=>?_)
  ·go_simp;refine(HMO.out _).mono ?_;rintro ex w3 ⟨rfl,hb⟩;have HS3:=hid (HS2.out.below hb);have HM3:=hid (HM2.out.trans (Mv.below hb _));clear hb;obtain⟨u3,hu3,hr3⟩:=HS3.out.op.row;have hSx3:(QOgL1 sb o c) w3:=(by and_intros <;> exact hr3.c rfl);clear hr3 hu3;refine kH hK hSx3 fun hHeld=>?_
   clear hK K;refine clH 13 (fun K hK=>?_)
   ·go_simp;refine(HGA.out _).mono ?_;rintro ex w4 ⟨rfl,hb⟩;have HS4:=hid (HS3.out.below hb);have HM4:=hid (HM3.out.trans (Mv.below hb _));clear hb;obtain⟨u4,hu4,hr4⟩:=HS4.out.op.row;have hSx4:(QOgL1 sb o c) w4:=(by and_intros <;> exact hr4.c rfl);clear hr4 hu4;refine kH hK hSx4 fun hHeld=>?_
    clear hK K;refine tkH 21 ?_;refine dnH ?_;clear hHeld hSx4;go_wp2_with fail;refine(go_o sb mb lb ty o _ _ _ 2 2 _ HS4.out rfl).mono (mvK HM4 fun w5 HS5 HM5=>?_);go_wp2_with fail
    go_end0
    exact⟨_,rfl,HS5.out,HM5.out⟩
theorem fifo_p2 (w:World) (h:St w sb mb lb ty o c rv l) (hph:c.ph=2) (hs:1≤c.sl) (hwr:c.wr=true→c.i<c.rc.length) (hrl:c.rc.length≤1000000) (hi2:c.i<1000) (hj:c.base+(2+(c.A%c.sl).toNat*c.wd+c.i)<l.length) (hf1:2+(c.A%c.sl).toNat*c.wd≤1000000):Calls Tryz.prog 149 #[.pointer (some ⟨sb,0,none⟩)] w (Did sb mb lb ty o w rv (c.word l (2+(c.A%c.sl).toNat*c.wd) (·.go 3)).1 (c.word l (2+(c.A%c.sl).toNat*c.wd) (·.go 3)).2 (.tuple #[])):=by
 obtain⟨HS0,HM0,hfit,HF,HWD,HSL,HCP,HNR⟩:=h.start;clear hfit h;have HPH:=hid hph;clear hph;obtain⟨u0,hu0,hr0⟩:=HS0.out.op.row;have c10_0:=hr0.ph 10 2 HPH;clear hr0 hu0;have hsl:=HSL.out;have hs1:=HF.out.sl1;have hw1:=HF.out.wd1;have hwd:=HWD.out;have HFR:=hid fun W=>fifoFrom_g o c.A (by omega) (by omega) (by omega) (by omega) HF.out.A0 HF.out.A1 W
 have hq:2+(c.A%o.s)*o.wd=((2+(c.A%c.sl).toNat*c.wd:Nat):Int):=by
  have:=Int.emod_nonneg c.A (show(c.sl:Int)≠0 by omega);rw[Int.natCast_add,Int.natCast_mul,Int.toNat_of_nonneg this,hsl,hwd];rfl
 rw[hq] at HFR;clear hsl hs1 hw1 hwd hq hs;unfold obA at HFR;obtain⟨FR,hFR⟩:∃ x,2+(c.A%c.sl).toNat*c.wd=x:=⟨_,rfl⟩;rw[hFR] at HFR hj hf1 ⊢;clear hFR;have HWO:=hid fun W (rv:Value) (h:St W sb mb lb ty o c rv l)=>word_o sb mb lb ty o c rv l (FR) W h hwr hrl hi2 hj hf1
 clear hwr hrl hi2 hj hf1;rw[Kc.word_eq]
 by_cases hlast:c.wd≤c.i+1
 ·rw[if_pos hlast];have hd:decide ((c.wd:Int)≤(c.i:Int)+1)=true:=decide_eq_true (by omega);rw[hd] at HWO;clear hlast hd;go_enter Tryz.func149,Tryz.ntmps149;go_wp2_with fail;refine rgK (S:=(QOgL1 sb o c)) HS0 HM0 (fun HS1=>let ⟨_,_,hr0⟩:=HS1.out.op.row;(by and_intros <;> exact hr0.c rfl)) fun w1 HS1 HM1 hHeld=>?_
  refine tk4 0 1 2 3 ?_;refine tk4 4 5 6 7 ?_;refine tk4 8 9 10 11 ?_;refine tkH 12 ?_;refine clH 13 (fun K hK=>?_)
  ·go_simp;refine(HFR.out _).mono ?_;rintro ex w2 ⟨rfl,hb⟩;have HS2:=hid (HS1.out.below hb);have HM2:=hid (HM1.out.trans (Mv.below hb _));clear hb;obtain⟨u2,hu2,hr2⟩:=HS2.out.op.row;have hSx2:(QOgL1 sb o c) w2:=(by and_intros <;> exact hr2.c rfl);clear hr2 hu2;refine kH hK hSx2 fun hHeld=>?_
   clear hK K;refine clH 14 (fun K hK=>?_)
   ·go_simp;refine(HWO.out _ _ HS2.out).mono (mvD HM2 fun w3 rv3 HS3 HM3=>?_);obtain⟨u3,hu3,hr3⟩:=HS3.out.op.row;have hSx3:(QOgL1 sb o c) w3:=(by and_intros <;> exact hr3.c rfl);clear hr3 hu3;refine kH hK hSx3 fun hHeld=>?_
    clear hK K;refine dnH ?_;clear hHeld hSx3;go_wp2_with fail;refine(go_o sb mb lb ty o _ _ _ 3 3 _ HS3.out rfl).mono (mvK HM3 fun w4 HS4 HM4=>?_);go_wp2_with fail
    go_end0
    exact⟨_,rfl,HS4.out,HM4.out⟩
 ·rw[if_neg hlast];have hd:decide ((c.wd:Int)≤(c.i:Int)+1)=false:=decide_eq_false (by omega);rw[hd] at HWO;clear hlast hd;go_enter Tryz.func149,Tryz.ntmps149;go_wp2_with fail;refine rgK (S:=(QOgL1 sb o c)) HS0 HM0 (fun HS1=>let ⟨_,_,hr0⟩:=HS1.out.op.row;(by and_intros <;> exact hr0.c rfl)) fun w1 HS1 HM1 hHeld=>?_
  refine tk4 0 1 2 3 ?_;refine tk4 4 5 6 7 ?_;refine tk4 8 9 10 11 ?_;refine tkH 12 ?_;refine clH 13 (fun K hK=>?_)
  ·go_simp;refine(HFR.out _).mono ?_;rintro ex w2 ⟨rfl,hb⟩;have HS2:=hid (HS1.out.below hb);have HM2:=hid (HM1.out.trans (Mv.below hb _));clear hb;obtain⟨u2,hu2,hr2⟩:=HS2.out.op.row;have hSx2:(QOgL1 sb o c) w2:=(by and_intros <;> exact hr2.c rfl);clear hr2 hu2;refine kH hK hSx2 fun hHeld=>?_
   clear hK K;refine clH 14 (fun K hK=>?_)
   ·go_simp;refine(HWO.out _ _ HS2.out).mono (mvD HM2 fun w3 rv3 HS3 HM3=>?_);obtain⟨u3,hu3,hr3⟩:=HS3.out.op.row;have hSx3:(QOgL1 sb o c) w3:=(by and_intros <;> exact hr3.c rfl);clear hr3 hu3;refine kH hK hSx3 fun hHeld=>?_
    clear hK K;refine dnH ?_;clear hHeld hSx3;go_wp2_with fail
    go_end0
    exact⟨_,rfl,HS3.out,HM3.out⟩
theorem fifo_p3 (w:World) (h:St w sb mb lb ty o c rv l) (hph:c.ph=3) (hs:1≤c.sl) (hA:c.A<2*(c.sl:Int)) (hj:c.base+1<l.length):Calls Tryz.prog 149 #[.pointer (some ⟨sb,0,none⟩)] w (Did sb mb lb ty o w rv (c.fin 0) (c.wrm l 1 (Kc.inc c.A (2*(c.sl:Int)))) (.tuple #[])):=by
 obtain⟨HS0,HM0,hfit,HF,HWD,HSL,HCP,HNR⟩:=h.start;clear hfit h;have HPH:=hid hph;clear hph;obtain⟨u0,hu0,hr0⟩:=HS0.out.op.row;have c10_0:=hr0.ph 10 3 HPH;clear hr0 hu0;have HNE:=hid (fifoNext_o sb mb lb ty o c rv l 1 1 w HS0.out rfl hs hA hj);obtain⟨L1,hL1⟩:∃ x,c.wrm l 1 (Kc.inc c.A (2*(c.sl:Int)))=x:=⟨_,rfl⟩;rw[hL1] at HNE ⊢;clear hL1 hs hA hj;go_enter Tryz.func149,Tryz.ntmps149;go_wp2_with fail;refine(HNE.out).mono (mvK HM0 fun w1 HS1 HM1=>?_);go_wp2_with fail;refine(end_o sb mb lb ty o _ _ _ 0 _ HS1.out).mono (mvD HM1 fun w2 rv2 HS2 HM2=>?_);go_wp2_with fail
 go_end0
 exact⟨_,rfl,HS2.out,HM2.out⟩
theorem fifo_t0 (w:World) (h:St w sb mb lb ty o c rv l) (hph:c.ph=0) (hs:1≤c.sl) (hj:c.base+0<l.length):Calls Tryz.prog 150 #[.pointer (some ⟨sb,0,none⟩)] w (Did sb mb lb ty o w rv (({ c with A:=c.rdm l 0%(2*(c.sl:Int)) }:Kc).go 1) l (.tuple #[])):=by
 obtain⟨HS0,HM0,hfit,HF,HWD,HSL,HCP,HNR⟩:=h.start;clear hfit h;have HPH:=hid hph;clear hph;obtain⟨u0,hu0,hr0⟩:=HS0.out.op.row;have c10_0:=hr0.ph 10 0 HPH;clear hr0 hu0;have hsl:=HSL.out;have hs1:=HF.out.sl1;have HMO:=hid fun W=>fifoMod_o o (by omega) (by omega) W
 have hM:2*o.s=2*(c.sl:Int):=by rw[hsl]
 rw[hM] at HMO;have HCO:=hid fun W (h:St W sb mb lb ty o c rv l)=>fifoCount_o sb mb lb ty o c rv l 0 0 W h rfl hs hj
 obtain⟨M,hM'⟩:∃ x,2*(c.sl:Int)=x:=⟨_,rfl⟩;rw[hM'] at HMO HCO;try rw[hM']
 have hM0:2≤M:=by omega
 have hM1:M≤32:=by omega
 clear hM hsl hs1;unfold obA at HMO;obtain⟨z,hz'⟩:∃ x,c.rdm l 0%M=x:=⟨_,rfl⟩;have hz0:0≤z:=by rw[← hz'];exact Int.emod_nonneg _ (by omega)
 have hz1:z<M:=by rw[← hz'];exact Int.emod_lt_of_pos _ (by omega)
 rw[hz'] at HCO;try rw[hz']
 have hz8:=hid hz';clear hz' hj;clear hM' hs;go_enter Tryz.func150,Tryz.ntmps150;go_wp2_with fail;refine(HCO.out _ HS0.out).mono (mvK HM0 fun w1 HS1 HM1=>?_);obtain⟨u1,hu1,hr1⟩:=HS1.out.op.row;have c13_1:=hr1.at 13 (.int .u32 c.A);have f13_1:=hr1.frozen 13;clear hr1 hu1;go_wp2_with fail;obtain⟨HS2,HM2⟩:=nxx (HS1.out.setA (z) ⟨hz0,by omega⟩) HM1;go_wp2_with fail;refine(go_o sb mb lb ty o _ _ _ 1 1 _ HS2.out rfl).mono (mvK HM2 fun w3 HS3 HM3=>?_);go_wp2_with fail
 go_end0
 exact⟨_,rfl,HS3.out,HM3.out⟩
theorem fifo_t1_empty (w:World) (h:St w sb mb lb ty o c rv l) (hph:c.ph=1) (hs:1≤c.sl) (hg:c.rdm l 1%(2*(c.sl:Int))=c.A) (hj:c.base+1<l.length):Calls Tryz.prog 150 #[.pointer (some ⟨sb,0,none⟩)] w (Did sb mb lb ty o w rv (c.fin 3) l (.tuple #[])):=by
 obtain⟨HS0,HM0,hfit,HF,HWD,HSL,HCP,HNR⟩:=h.start;clear hfit h;have HPH:=hid hph;clear hph;obtain⟨u0,hu0,hr0⟩:=HS0.out.op.row;have c10_0:=hr0.ph 10 1 HPH;clear hr0 hu0;have hsl:=HSL.out;have hs1:=HF.out.sl1;have HMO:=hid fun W=>fifoMod_o o (by omega) (by omega) W
 have hM:2*o.s=2*(c.sl:Int):=by rw[hsl]
 rw[hM] at HMO;have HCO:=hid fun W (h:St W sb mb lb ty o c rv l)=>fifoCount_o sb mb lb ty o c rv l 1 1 W h rfl hs hj
 obtain⟨M,hM'⟩:∃ x,2*(c.sl:Int)=x:=⟨_,rfl⟩;rw[hM'] at HMO HCO hg;try rw[hM']
 have hM0:2≤M:=by omega
 have hM1:M≤32:=by omega
 clear hM hsl hs1;unfold obA at HMO;obtain⟨z,hz'⟩:∃ x,c.rdm l 1%M=x:=⟨_,rfl⟩;have hz0:0≤z:=by rw[← hz'];exact Int.emod_nonneg _ (by omega)
 have hz1:z<M:=by rw[← hz'];exact Int.emod_lt_of_pos _ (by omega)
 rw[hz'] at HCO;try rw[hz']
 have hz8:=hid hz';clear hz' hj;rw[hz8.out] at hg;have hd:(z==c.A)=true:=by simpa using hg
 clear hg hM' hs;go_enter Tryz.func150,Tryz.ntmps150;go_wp2_with fail;refine rgK (S:=(fun w':World=>w'.cell? ⟨sb,13,none⟩=some (.int .u32 c.A))) HS0 HM0 (fun HS1=>let ⟨_,_,hr0⟩:=HS1.out.op.row;(hr0.cell 13).trans rfl) fun w1 HS1 HM1 hHeld=>?_
 refine tk4 0 2 3 4 ?_;refine tk2 5 6 ?_;refine clH 1 (fun K hK=>?_)
 ·go_simp;refine(HCO.out _ HS1.out).mono (mvK HM1 fun w2 HS2 HM2=>?_);obtain⟨u2,hu2,hr2⟩:=HS2.out.op.row;have hSx2:(fun w':World=>w'.cell? ⟨sb,13,none⟩=some (.int .u32 c.A)) w2:=(hr2.cell 13).trans rfl;clear hr2 hu2;refine kH hK hSx2 fun hHeld=>?_
  clear hK K;refine tkH 7 ?_;refine dnH ?_;clear hHeld hSx2;go_wp2_with fail;refine(end_o sb mb lb ty o _ _ _ 3 _ HS2.out).mono (mvD HM2 fun w3 rv3 HS3 HM3=>?_);go_wp2_with fail
  go_end0
  exact⟨_,rfl,HS3.out,HM3.out⟩
theorem fifo_t1_go (w:World) (h:St w sb mb lb ty o c rv l) (hph:c.ph=1) (hs:1≤c.sl) (hg:¬ (c.rdm l 1%(2*(c.sl:Int))=c.A)) (hj:c.base+1<l.length):Calls Tryz.prog 150 #[.pointer (some ⟨sb,0,none⟩)] w (Did sb mb lb ty o w rv (c.go 2) l (.tuple #[])):=by
 obtain⟨HS0,HM0,hfit,HF,HWD,HSL,HCP,HNR⟩:=h.start;clear hfit h;have HPH:=hid hph;clear hph;obtain⟨u0,hu0,hr0⟩:=HS0.out.op.row;have c10_0:=hr0.ph 10 1 HPH;clear hr0 hu0;have hsl:=HSL.out;have hs1:=HF.out.sl1;have HMO:=hid fun W=>fifoMod_o o (by omega) (by omega) W
 have hM:2*o.s=2*(c.sl:Int):=by rw[hsl]
 rw[hM] at HMO;have HCO:=hid fun W (h:St W sb mb lb ty o c rv l)=>fifoCount_o sb mb lb ty o c rv l 1 1 W h rfl hs hj
 obtain⟨M,hM'⟩:∃ x,2*(c.sl:Int)=x:=⟨_,rfl⟩;rw[hM'] at HMO HCO hg;try rw[hM']
 have hM0:2≤M:=by omega
 have hM1:M≤32:=by omega
 clear hM hsl hs1;unfold obA at HMO;obtain⟨z,hz'⟩:∃ x,c.rdm l 1%M=x:=⟨_,rfl⟩;have hz0:0≤z:=by rw[← hz'];exact Int.emod_nonneg _ (by omega)
 have hz1:z<M:=by rw[← hz'];exact Int.emod_lt_of_pos _ (by omega)
 rw[hz'] at HCO;try rw[hz']
 have hz8:=hid hz';clear hz' hj;rw[hz8.out] at hg;have hd:(z==c.A)=false:=by simpa using hg
 clear hg hM' hs;go_enter Tryz.func150,Tryz.ntmps150;go_wp2_with fail;refine rgK (S:=(fun w':World=>w'.cell? ⟨sb,13,none⟩=some (.int .u32 c.A))) HS0 HM0 (fun HS1=>let ⟨_,_,hr0⟩:=HS1.out.op.row;(hr0.cell 13).trans rfl) fun w1 HS1 HM1 hHeld=>?_
 refine tk4 0 2 3 4 ?_;refine tk2 5 6 ?_;refine clH 1 (fun K hK=>?_)
 ·go_simp;refine(HCO.out _ HS1.out).mono (mvK HM1 fun w2 HS2 HM2=>?_);obtain⟨u2,hu2,hr2⟩:=HS2.out.op.row;have hSx2:(fun w':World=>w'.cell? ⟨sb,13,none⟩=some (.int .u32 c.A)) w2:=(hr2.cell 13).trans rfl;clear hr2 hu2;refine kH hK hSx2 fun hHeld=>?_
  clear hK K;refine tkH 7 ?_;refine dnH ?_;clear hHeld hSx2;go_wp2_with fail;refine(go_o sb mb lb ty o _ _ _ 2 2 _ HS2.out rfl).mono (mvK HM2 fun w3 HS3 HM3=>?_);go_wp2_with fail
  go_end0
  exact⟨_,rfl,HS3.out,HM3.out⟩
theorem fifo_t2 (w:World) (h:St w sb mb lb ty o c rv l) (hph:c.ph=2) (hs:1≤c.sl) (hwr:c.wr=true→c.i<c.rc.length) (hrl:c.rc.length≤1000000) (hi2:c.i<1000) (hj:c.base+(2+(c.A%c.sl).toNat*c.wd+c.i)<l.length) (hf1:2+(c.A%c.sl).toNat*c.wd≤1000000):Calls Tryz.prog 150 #[.pointer (some ⟨sb,0,none⟩)] w (Did sb mb lb ty o w rv (c.word l (2+(c.A%c.sl).toNat*c.wd) (·.go 3)).1 (c.word l (2+(c.A%c.sl).toNat*c.wd) (·.go 3)).2 (.tuple #[])):=by
 obtain⟨HS0,HM0,hfit,HF,HWD,HSL,HCP,HNR⟩:=h.start;clear hfit h;have HPH:=hid hph;clear hph;obtain⟨u0,hu0,hr0⟩:=HS0.out.op.row;have c10_0:=hr0.ph 10 2 HPH;clear hr0 hu0;have hsl:=HSL.out;have hs1:=HF.out.sl1;have hw1:=HF.out.wd1;have hwd:=HWD.out;have HFR:=hid fun W=>fifoFrom_g o c.A (by omega) (by omega) (by omega) (by omega) HF.out.A0 HF.out.A1 W
 have hq:2+(c.A%o.s)*o.wd=((2+(c.A%c.sl).toNat*c.wd:Nat):Int):=by
  have:=Int.emod_nonneg c.A (show(c.sl:Int)≠0 by omega);rw[Int.natCast_add,Int.natCast_mul,Int.toNat_of_nonneg this,hsl,hwd];rfl
 rw[hq] at HFR;clear hsl hs1 hw1 hwd hq hs;unfold obA at HFR;obtain⟨FR,hFR⟩:∃ x,2+(c.A%c.sl).toNat*c.wd=x:=⟨_,rfl⟩;rw[hFR] at HFR hj hf1 ⊢;clear hFR;have HWO:=hid fun W (rv:Value) (h:St W sb mb lb ty o c rv l)=>word_o sb mb lb ty o c rv l (FR) W h hwr hrl hi2 hj hf1
 clear hwr hrl hi2 hj hf1;rw[Kc.word_eq]
 by_cases hlast:c.wd≤c.i+1
 ·rw[if_pos hlast];have hd:decide ((c.wd:Int)≤(c.i:Int)+1)=true:=decide_eq_true (by omega);rw[hd] at HWO;clear hlast hd;go_enter Tryz.func150,Tryz.ntmps150;go_wp2_with fail;refine rgK (S:=(QOgL1 sb o c)) HS0 HM0 (fun HS1=>let ⟨_,_,hr0⟩:=HS1.out.op.row;(by and_intros <;> exact hr0.c rfl)) fun w1 HS1 HM1 hHeld=>?_
  refine tk4 0 1 2 3 ?_;refine tk4 4 5 6 7 ?_;refine tk4 8 9 10 11 ?_;refine tkH 12 ?_;refine clH 13 (fun K hK=>?_)
  ·go_simp;refine(HFR.out _).mono ?_;rintro ex w2 ⟨rfl,hb⟩;have HS2:=hid (HS1.out.below hb);have HM2:=hid (HM1.out.trans (Mv.below hb _));clear hb;obtain⟨u2,hu2,hr2⟩:=HS2.out.op.row;have hSx2:(QOgL1 sb o c) w2:=(by and_intros <;> exact hr2.c rfl);clear hr2 hu2;refine kH hK hSx2 fun hHeld=>?_
   clear hK K;refine clH 14 (fun K hK=>?_)
   ·go_simp;refine(HWO.out _ _ HS2.out).mono (mvD HM2 fun w3 rv3 HS3 HM3=>?_);obtain⟨u3,hu3,hr3⟩:=HS3.out.op.row;have hSx3:(QOgL1 sb o c) w3:=(by and_intros <;> exact hr3.c rfl);clear hr3 hu3;refine kH hK hSx3 fun hHeld=>?_
    clear hK K;refine dnH ?_;clear hHeld hSx3;go_wp2_with fail;refine(go_o sb mb lb ty o _ _ _ 3 3 _ HS3.out rfl).mono (mvK HM3 fun w4 HS4 HM4=>?_);go_wp2_with fail
    go_end0
    exact⟨_,rfl,HS4.out,HM4.out⟩
 ·rw[if_neg hlast];have hd:decide ((c.wd:Int)≤(c.i:Int)+1)=false:=decide_eq_false (by omega);rw[hd] at HWO;clear hlast hd;go_enter Tryz.func150,Tryz.ntmps150;go_wp2_with fail;refine rgK (S:=(QOgL1 sb o c)) HS0 HM0 (fun HS1=>let ⟨_,_,hr0⟩:=HS1.out.op.row;(by and_intros <;> exact hr0.c rfl)) fun w1 HS1 HM1 hHeld=>?_
  refine tk4 0 1 2 3 ?_;refine tk4 4 5 6 7 ?_;refine tk4 8 9 10 11 ?_;refine tkH 12 ?_;refine clH 13 (fun K hK=>?_)
  ·go_simp;refine(HFR.out _).mono ?_;rintro ex w2 ⟨rfl,hb⟩;have HS2:=hid (HS1.out.below hb);have HM2:=hid (HM1.out.trans (Mv.below hb _));clear hb;obtain⟨u2,hu2,hr2⟩:=HS2.out.op.row;have hSx2:(QOgL1 sb o c) w2:=(by and_intros <;> exact hr2.c rfl);clear hr2 hu2;refine kH hK hSx2 fun hHeld=>?_
   clear hK K;refine clH 14 (fun K hK=>?_)
   ·go_simp;refine(HWO.out _ _ HS2.out).mono (mvD HM2 fun w3 rv3 HS3 HM3=>?_);obtain⟨u3,hu3,hr3⟩:=HS3.out.op.row;have hSx3:(QOgL1 sb o c) w3:=(by and_intros <;> exact hr3.c rfl);clear hr3 hu3;refine kH hK hSx3 fun hHeld=>?_
    clear hK K;refine dnH ?_;clear hHeld hSx3;go_wp2_with fail
    go_end0
    exact⟨_,rfl,HS3.out,HM3.out⟩
theorem fifo_t3 (w:World) (h:St w sb mb lb ty o c rv l) (hph:c.ph=3) (hs:1≤c.sl) (hA:c.A<2*(c.sl:Int)) (hj:c.base+0<l.length):Calls Tryz.prog 150 #[.pointer (some ⟨sb,0,none⟩)] w (Did sb mb lb ty o w rv (c.fin 0) (c.wrm l 0 (Kc.inc c.A (2*(c.sl:Int)))) (.tuple #[])):=by
 obtain⟨HS0,HM0,hfit,HF,HWD,HSL,HCP,HNR⟩:=h.start;clear hfit h;have HPH:=hid hph;clear hph;obtain⟨u0,hu0,hr0⟩:=HS0.out.op.row;have c10_0:=hr0.ph 10 3 HPH;clear hr0 hu0;have HNE:=hid (fifoNext_o sb mb lb ty o c rv l 0 0 w HS0.out rfl hs hA hj);obtain⟨L1,hL1⟩:∃ x,c.wrm l 0 (Kc.inc c.A (2*(c.sl:Int)))=x:=⟨_,rfl⟩;rw[hL1] at HNE ⊢;clear hL1 hs hA hj;go_enter Tryz.func150,Tryz.ntmps150;go_wp2_with fail;refine(HNE.out).mono (mvK HM0 fun w1 HS1 HM1=>?_);go_wp2_with fail;refine(end_o sb mb lb ty o _ _ _ 0 _ HS1.out).mono (mvD HM1 fun w2 rv2 HS2 HM2=>?_);go_wp2_with fail
 go_end0
 exact⟨_,rfl,HS2.out,HM2.out⟩
end
end Go.Proofs.YtolmpehgeinlkaaGreatDoor
